/- Texts joined: ExprS MovE MovF MovG ReaU ReaX ReaL MovR MovS ReaY Open1 Open2 Open3 Open6 Open5 MovZ LiteQ. -/
import Derived.Test.YtempnjgiohpopaaGreatDoorQrdc
import Derived.Test.YtempnjgiohpopaaGreatDoorQrdd
import Derived.Test.YtempnjgiohpopaaGreatDoorQrdg
import Derived.Test.YtempnjgiohpopaaGreatDoorQrdh
import Derived.Test.YtempnjgiohpopaaGreatDoorQrdn
import Derived.Test.YtempnjgiohpopaaGreatDoorQrdo
import Derived.Test.YtempnjgiohpopaaGreatDoorQrdp
import Derived.SizedLaws
import Derived.JoinedCond
set_option linter.all false
set_option maxRecDepth 8000
set_option maxHeartbeats 32000000
section
set_option linter.unusedSimpArgs false
namespace Go.Proofs.R
open Go Go.RowKit bt
theorem Yy{v:o.Env}{x:o.Node}{st:List Int}(h:o.eK x.op=0):o.gL v x st=o.h2 x v (st.getLastD 0):=by
 unfold o.gL;rw[(F2 h).2.2.2]
theorem Yz{v:o.Env}{x:o.Node}{st:List Int}(h:o.eK x.op=1)(aP:1≤st.length):o.gL v x st=qT x st[st.length - 1] v:=by
 unfold o.gL qT;cases a1:o.fX x.op with
 | none=>simp only;rw[Ik st (by omega)]
 | some au =>
  have:=(o.CV a1).1
  simp only;rw[show au.parts.toNat=1 from by omega,HP aP]
theorem YA{v:o.Env}{x:o.Node}{st:List Int}(h:o.eK x.op=2)(aP:2≤st.length):o.gL v x st=pn x.op st[st.length - 2] st[st.length - 1]:=by
 unfold o.gL pn;obtain⟨au,a1,aO⟩:=Tj (show 9≤x.op∧x.op≤19 by have:=F3 h;omega);rw[a1];simp only;rw[show au.parts.toNat=2 from by omega,Pt aP]
theorem KO(hs:Value)(e:List o.Node)(cs:List Value)(v:o.Env)(w:World)(he:o.fG w hs e)(h:o.r8 w cs v) :
  bu Tryz.prog F.w4 #[hs,.agg cs.toArray] w fun u w'=>u = .tuple #[.int .i64 (o.eval e v).1,.int .i64 (o.eval e v).2]∧Ext w w':=by
 obtain⟨v0,v1,v2,v3,rfl,_⟩:=h.ex;obtain⟨bl,cap,rfl,hlen⟩:=he.form;refine bM E.w4 ?_;refine bF ?_;refine aH ?_;refine K.new fun av db uQ aA aq=>?_;refine aH ?_;apply K.cond<;>intro g1
 ·refine aH ?_;rw[o.eval,o.jU,if_pos (by omega)];exact cg
 refine aH ?_;apply K.cond<;>intro g2
 ·refine aH ?_;rw[o.eval,o.jU,if_neg (by omega),if_pos (by omega)];exact cg
 refine aH ?_;refine K.yz 7 e.length (fun k S w' => ∃u st,S 6=u∧la av.heap.size w' u st∧o.eL (o.gL v) (e.take k) []=(0,st)∧(0<k→1≤st.length)∧st.length≤12∧Ext av w')
  (by simp -dsimp only[cJ,cw,Nat.reduceAdd,Nat.reduceEqDiff,reduceIte,reduceCtorEq,cU]) ⟨.slice none 0 0,[],by simp -dsimp only[cJ,cw,Nat.reduceAdd,Nat.reduceEqDiff,reduceIte,reduceCtorEq,cU],bs.nil _ _ _ _ _,by simp[o.eL],by simp,by simp,Ext.refl _⟩ ?_
 rintro k S aT ck hk b6 ⟨v6,st,bD,fI,gC,Ba,pG,aC⟩;have aj:=ck 0 rfl;have ag:=ck 3 rfl;simp only[cd,Nat.reduceAdd,Nat.reduceEqDiff,reduceIte,iC,ln] at aj ag;clear ck;obtain⟨ve,pB,rfl,dr,qE⟩:=fI.form;have ad:Ints aT _ st:=bs.rZ (enc:=encI) (sz:=1) (fun _=>rfl) fI;unfold maxLen at qE;refine cY (And.intro aj (And.intro ag (And.intro bD b6))) ?_;apply K.cond<;>intro g3;rotate_left
 ·have bh:k=e.length:=by omega
  subst bh;rw[List.take_length] at gC;have h1:=Ba (by omega);obtain⟨a,rfl⟩:=ad.addr h1;have e9:o.eval e v=if st.length > 1 then (0,5) else (st.headD 0,0):=by
   rw[o.eval,o.jU,if_neg (by omega),if_neg (by omega),gC,if_neg (by simp)]
  rw[e9];clear e9;refine cY (And.intro aj (And.intro ag (And.intro bD b6))) ?_;apply K.cond<;>intro g4
  ·refine aH ?_;rw[if_pos (by omega)];exact cg
  ·refine cY (And.intro aj (And.intro ag (And.intro bD b6))) ?_;refine K.dk 0 rfl (by omega) ?_;refine aH ?_;rw[if_neg (by omega)]
   have:st.headD 0=st[0]:=by
    cases st with
    | nil=>simp at h1
    | cons z st=>rfl
   rw[this];exact cg
 have bh:k<e.length:=by omega
 obtain⟨a,rfl⟩:=he.addr (by omega);have rL:=(he.at k bh).ok;have jj:=fun aj=>o.KU (f:=o.gL v) (e:=e) (by omega) bh gC aj;have rG:=o.vj bh gC;have A8:=aA.trans aC;have eb:=aC.obj aq;refine cY (And.intro aj (And.intro ag (And.intro bD b6))) ?_;refine K.call (UL e[k].op aT) ?_;rintro _ _ ⟨rfl,rfl⟩;generalize aI:o.eK e[k].op=n at *;have jE : -1≤n∧n≤2:=by rw[←aI];unfold o.eK; (repeat' split)<;>omega
 refine cY (And.intro aj (And.intro ag (And.intro bD b6))) ?_;apply K.cond<;>intro g4
 ·have ay:o.stepG (o.gL v) e[k] st=(3,st):=by unfold o.stepG;rw[aI,if_pos g4]
  rw[ay] at jj;refine aH ?_;rw[o.eval,jj (by simp)];exact cg
 refine cY (And.intro aj (And.intro ag (And.intro bD b6))) ?_;apply K.cond<;>intro g5
 ·have ay:o.stepG (o.gL v) e[k] st=(4,st):=by unfold o.stepG;rw[aI,if_neg g4,if_pos g5]
  rw[ay] at jj;refine aH ?_;rw[o.eval,jj (by simp)];exact cg
 obtain⟨p,rfl⟩:=Int.eq_ofNat_of_zero_le (show 0≤n by omega);have ec:o.stepG (o.gL v) e[k] st=if (o.gL v e[k] st).2≠0 then ((o.gL v e[k] st).2,st) else if (st.take (st.length - p)++[(o.gL v e[k] st).1]).length > 12 then (12,st) else (0,st.take (st.length - p)++[(o.gL v e[k] st).1]):=by
  unfold o.stepG;rw[aI,if_neg g4,if_neg g5];simp only[Int.toNat_natCast]
 have gB:(st.take (st.length - p)++[(o.gL v e[k] st).1]).length=st.length - p+1:=by simp[List.length_take]
 rw[gB] at ec;have fin:p=0∨p=1∨p=2:=by omega
 rcases fin with sX | sX | sX
 ·have aN:=Yy (v:=v) (st:=st) (x:=e[k]) (by omega);obtain⟨fE,z2,z3,z4⟩:=F2 (x:=e[k].op) (by omega);refine cY (And.intro aj (And.intro ag (And.intro bD b6))) ?_;refine K.gm (c:=[_,_,_,_,_]) eb (Ext.refl _) rfl ?_;refine cY (And.intro aj (And.intro ag (And.intro bD b6))) ?_;refine K.gn _ (fun w' e'=>afj e[k] _ v w' rL (h.ext (A8.trans e')) z3 (st.getLastD 0)) ?_;rw[←aN];refine cY (And.intro aj (And.intro ag (And.intro bD b6))) ?_;intro bf aw;refine cY (And.intro aj (And.intro ag (And.intro bD b6))) ?_;apply K.cond<;>intro g6;rotate_left
  ·rw[if_pos g6] at ec;refine aH ?_;rw[o.eval,jj (by rw[ec];exact g6),ec];exact cg
  rw[if_neg (by simpa using g6)] at ec;have eY:=fI.ext aw;refine cY (And.intro aj (And.intro ag (And.intro bD b6))) ?_;refine K.kt (cs:=[]) (by simp[List.range,List.range.loop,ew]) fun bq cO fo aR bI=>?_;have z12:=aC.size;have z23:=aw.size;have zU:=aR.size;have qv:la av.heap.size bq (.slice (some ⟨cO,0,none⟩) 0 0) []:=bs.empty (by omega) bI;have ey:=eY.ext aR;have ea:la av.heap.size bq (.slice _ (st.length - p) _) (st.take (st.length - p)):=bs.head (enc:=encI) (sz:=1) (xs:=st) (fun _=>rfl) ey (st.length - p) (Nat.sub_le _ _);have cq:(st.take (st.length - p)).length=st.length - p:=by simp[List.length_take]
  refine cY (And.intro aj (And.intro ag (And.intro bD b6))) ?_;refine K.rY (st.length - p) (by simp -dsimp only[cJ,cw,Nat.reduceAdd,Nat.reduceEqDiff,reduceIte,reduceCtorEq,cU,bD];first | rfl | (congr 1;omega)) (by omega) ?_;refine aH ?_;refine K.x2 (xs:=[]) (ys:=st.take (st.length - p)) qv ea (fun _=>rfl) pF (by rw[cq];simp only[List.length_nil];omega) (by rw[cq];simp only[List.length_nil,maxLen];omega) (by omega) fun v5 bS l5 kD=>?_;have l4:Ext bf bS:=aR.grown kD fun q aB=>by simp[Value.ownBlock] at aB;omega
  rw[List.nil_append] at l5;have z35:=l4.size;refine aH ?_;refine K.kt (cs:=[(o.gL v e[k] st).1].flatMap encI) (by simp[List.range,List.range.loop,ew,lay,fv,cd,Value.cells,encI]) fun bX ix gM bk dr=>?_;have xI:=bk.size;have dn:=l5.ext bk;refine aH ?_;refine K.ra (xs:=st.take (st.length - p)) (ys:=[(o.gL v e[k] st).1]) dn (fun _=>rfl) (gK dr) rfl pF (by rw[cq];simp only[List.length_cons,List.length_nil];omega) (by rw[cq];simp only[List.length_cons,List.length_nil,maxLen];omega) (by omega) fun zP cn dX ji=>?_;have bR:Ext av cn:=Ext.grown (((aC.trans aw).trans l4).trans bk) ji fun q aB=>(dn.lt q aB).1;obtain⟨CU,vV,rfl,_⟩:=dX.form;rw[gB] at dX ⊢;by_cases g7:12<st.length - p+1
  ·rw[if_pos (by omega)] at ec
   first
    | (exfalso;omega)
    | (refine aH ?_
       rw[o.eval,jj (by rw[ec];simp),ec];exact⟨bw,aA.trans bR⟩)
  rw[if_neg (by omega)] at ec;refine cY b6 ?_;refine⟨bh,bw,_,_,rfl,dX,by rw[rG,ec],fun _=>by rw[gB];omega,by rw[gB];omega,bR⟩
 ·have aN:=Yz (v:=v) (st:=st) (x:=e[k]) (by omega) (by omega);obtain⟨lf,rfl⟩:=ad.addr (by omega);refine cY (And.intro aj (And.intro ag (And.intro bD b6))) ?_;refine K.dk (st.length - 1) (by omega) (by omega) ?_;refine cY (And.intro aj (And.intro ag (And.intro bD b6))) ?_;refine K.gm (c:=[_,_,_,_,_]) eb (Ext.refl _) rfl ?_;refine cY (And.intro aj (And.intro ag (And.intro bD b6))) ?_;refine K.gn _ (fun w' e'=>aeZ e[k] _ _ v w' (h.ext (A8.trans e')) (Tc (by omega))) ?_;rw[←aN];refine cY (And.intro aj (And.intro ag (And.intro bD b6))) ?_;intro bf aw;refine cY (And.intro aj (And.intro ag (And.intro bD b6))) ?_;apply K.cond<;>intro g6;rotate_left
  ·rw[if_pos g6] at ec;refine aH ?_;rw[o.eval,jj (by rw[ec];exact g6),ec];exact cg
  rw[if_neg (by simpa using g6)] at ec;have eY:=fI.ext aw;refine cY (And.intro aj (And.intro ag (And.intro bD b6))) ?_;refine K.kt (cs:=[]) (by simp[List.range,List.range.loop,ew]) fun bq cO fo aR bI=>?_;have z12:=aC.size;have z23:=aw.size;have zU:=aR.size;have qv:la av.heap.size bq (.slice (some ⟨cO,0,none⟩) 0 0) []:=bs.empty (by omega) bI;have ey:=eY.ext aR;have ea:la av.heap.size bq (.slice _ (st.length - p) _) (st.take (st.length - p)):=bs.head (enc:=encI) (sz:=1) (xs:=st) (fun _=>rfl) ey (st.length - p) (Nat.sub_le _ _);have cq:(st.take (st.length - p)).length=st.length - p:=by simp[List.length_take]
  refine cY (And.intro aj (And.intro ag (And.intro bD b6))) ?_;refine K.rY (st.length - p) (by simp -dsimp only[cJ,cw,Nat.reduceAdd,Nat.reduceEqDiff,reduceIte,reduceCtorEq,cU,bD];first | rfl | (congr 1;omega)) (by omega) ?_;refine aH ?_;refine K.x2 (xs:=[]) (ys:=st.take (st.length - p)) qv ea (fun _=>rfl) pF (by rw[cq];simp only[List.length_nil];omega) (by rw[cq];simp only[List.length_nil,maxLen];omega) (by omega) fun v5 bS l5 kD=>?_;have l4:Ext bf bS:=aR.grown kD fun q aB=>by simp[Value.ownBlock] at aB;omega
  rw[List.nil_append] at l5;have z35:=l4.size;refine aH ?_;refine K.kt (cs:=[(o.gL v e[k] st).1].flatMap encI) (by simp[List.range,List.range.loop,ew,lay,fv,cd,Value.cells,encI]) fun bX ix gM bk dr=>?_;have xI:=bk.size;have dn:=l5.ext bk;refine aH ?_;refine K.ra (xs:=st.take (st.length - p)) (ys:=[(o.gL v e[k] st).1]) dn (fun _=>rfl) (gK dr) rfl pF (by rw[cq];simp only[List.length_cons,List.length_nil];omega) (by rw[cq];simp only[List.length_cons,List.length_nil,maxLen];omega) (by omega) fun zP cn dX ji=>?_;have bR:Ext av cn:=Ext.grown (((aC.trans aw).trans l4).trans bk) ji fun q aB=>(dn.lt q aB).1;obtain⟨CU,vV,rfl,_⟩:=dX.form;rw[gB] at dX ⊢;by_cases g7:12<st.length - p+1
  ·rw[if_pos (by omega)] at ec
   first
    | (exfalso;omega)
    | (refine aH ?_
       rw[o.eval,jj (by rw[ec];simp),ec];exact⟨bw,aA.trans bR⟩)
  rw[if_neg (by omega)] at ec;refine cY b6 ?_;refine⟨bh,bw,_,_,rfl,dX,by rw[rG,ec],fun _=>by rw[gB];omega,by rw[gB];omega,bR⟩
 ·have aN:=YA (v:=v) (st:=st) (x:=e[k]) (by omega) (by omega);obtain⟨lf,rfl⟩:=ad.addr (by omega);refine cY (And.intro aj (And.intro ag (And.intro bD b6))) ?_;refine K.dk (st.length - 2) (by omega) (by omega) ?_;refine cY (And.intro aj (And.intro ag (And.intro bD b6))) ?_;refine K.dk (st.length - 1) (by omega) (by omega) ?_;refine cY (And.intro aj (And.intro ag (And.intro bD b6))) ?_;refine K.gn _ (fun w' e'=>aez e[k].op _ _ w' (F3 (by omega))) ?_;rw[←aN];refine cY (And.intro aj (And.intro ag (And.intro bD b6))) ?_;intro bf aw;refine cY (And.intro aj (And.intro ag (And.intro bD b6))) ?_;apply K.cond<;>intro g6;rotate_left
  ·rw[if_pos g6] at ec;refine aH ?_;rw[o.eval,jj (by rw[ec];exact g6),ec];exact cg
  rw[if_neg (by simpa using g6)] at ec;have eY:=fI.ext aw;refine cY (And.intro aj (And.intro ag (And.intro bD b6))) ?_;refine K.kt (cs:=[]) (by simp[List.range,List.range.loop,ew]) fun bq cO fo aR bI=>?_;have z12:=aC.size;have z23:=aw.size;have zU:=aR.size;have qv:la av.heap.size bq (.slice (some ⟨cO,0,none⟩) 0 0) []:=bs.empty (by omega) bI;have ey:=eY.ext aR;have ea:la av.heap.size bq (.slice _ (st.length - p) _) (st.take (st.length - p)):=bs.head (enc:=encI) (sz:=1) (xs:=st) (fun _=>rfl) ey (st.length - p) (Nat.sub_le _ _);have cq:(st.take (st.length - p)).length=st.length - p:=by simp[List.length_take]
  refine cY (And.intro aj (And.intro ag (And.intro bD b6))) ?_;refine K.rY (st.length - p) (by simp -dsimp only[cJ,cw,Nat.reduceAdd,Nat.reduceEqDiff,reduceIte,reduceCtorEq,cU,bD];first | rfl | (congr 1;omega)) (by omega) ?_;refine aH ?_;refine K.x2 (xs:=[]) (ys:=st.take (st.length - p)) qv ea (fun _=>rfl) pF (by rw[cq];simp only[List.length_nil];omega) (by rw[cq];simp only[List.length_nil,maxLen];omega) (by omega) fun v5 bS l5 kD=>?_;have l4:Ext bf bS:=aR.grown kD fun q aB=>by simp[Value.ownBlock] at aB;omega
  rw[List.nil_append] at l5;have z35:=l4.size;refine aH ?_;refine K.kt (cs:=[(o.gL v e[k] st).1].flatMap encI) (by simp[List.range,List.range.loop,ew,lay,fv,cd,Value.cells,encI]) fun bX ix gM bk dr=>?_;have xI:=bk.size;have dn:=l5.ext bk;refine aH ?_;refine K.ra (xs:=st.take (st.length - p)) (ys:=[(o.gL v e[k] st).1]) dn (fun _=>rfl) (gK dr) rfl pF (by rw[cq];simp only[List.length_cons,List.length_nil];omega) (by rw[cq];simp only[List.length_cons,List.length_nil,maxLen];omega) (by omega) fun zP cn dX ji=>?_;have bR:Ext av cn:=Ext.grown (((aC.trans aw).trans l4).trans bk) ji fun q aB=>(dn.lt q aB).1;obtain⟨CU,vV,rfl,_⟩:=dX.form;rw[gB] at dX ⊢;by_cases g7:12<st.length - p+1
  ·rw[if_pos (by omega)] at ec
   first
    | (exfalso;omega)
    | (refine aH ?_
       rw[o.eval,jj (by rw[ec];simp),ec];exact⟨bw,aA.trans bR⟩)
  rw[if_neg (by omega)] at ec;refine cY b6 ?_;refine⟨bh,bw,_,_,rfl,dX,by rw[rG,ec],fun _=>by rw[gB];omega,by rw[gB];omega,bR⟩
end Go.Proofs.R
end
section
namespace o
open Go
theorem YM{m:Model}(bg:eI m){s:List Int}(aN:Fits m s):∀x∈s,-9223372036854775808≤x∧x≤9223372036854775807:=fun x ar=>by
 obtain⟨i,ad,rfl⟩:=List.mem_iff_getElem.1 ar;have bA:i<(b1 m).length:=by have:=aN.len;unfold fH at this;omega
 have h1:=aN.cell i ad bA;have U:=W5 bg _ (List.getElem_mem bA);obtain⟨bC,ca,b5⟩:=U;omega
structure Mn(v:Env):Prop where
 vars:∀l∈v.vars,∀x∈l,en x
 lens:∀x∈v.lens,en x
 locals:∀x∈v.locals,en x
 at_:∀l∈v.at_,∀x∈l,en x
 self:en v.self
theorem PN{m:Model}(bg:eI m){s:List Int}(aN:Fits m s){q:Nat}(aB:q<(insts m).length):Mn (cS m s q):=by
 have fw:=YM bg aN;have sP:=(qK _ (List.getElem_mem aB)).elem;have gU:=JQ bg;refine⟨fun l aP x ar=>?_,fun x ar=>?_,fun x ar=>?_,fun l aP x ar=>?_,?_⟩
 ·simp only[cS,List.mem_map] at aP;obtain⟨k,_,rfl⟩:=aP;exact fw x (List.mem_of_mem_drop (List.mem_of_mem_take ar))
 ·simp only[cS,List.mem_map] at ar;obtain⟨k,_,rfl⟩:=ar;rw[List.getElem!_eq_getElem?_getD];cases hk:s[cZ m k]? with
  | none=>simp[en]
  | some y=>exact fw y (List.mem_of_getElem? hk)
 ·rw[(vo s aB rfl).1] at ar;exact fw x (List.mem_of_mem_drop (List.mem_of_mem_take ar))
 ·simp only[cS,List.mem_map] at aP;obtain⟨k,_,rfl⟩:=aP;unfold jc at ar;obtain⟨d,_,rfl⟩:=List.mem_map.1 ar
  have:=OT m s k d (insts m).length
  unfold en;omega
 ·rw[(vo s aB rfl).2];unfold en;omega
end o
namespace bt
open Go Go.RowKit
theorem K.y7{b n k:Nat}{c:List Value}{ty:TypeId}{w:World}{aF:Value→Prop}{t}(cs:List Value)(aD:w.heap[b]? = some (.cells c.toArray ty))(fV:(c.drop k).take n=cs)(aI:cs.length=n)(hk:aF (.agg cs.toArray)):q4 n (.pointer (some (Addr.add ⟨b,0,none⟩ k))) w aF t:=by
 refine K.jk (cs:=cs) (fun j v aU=>?_) aI hk;subst fV;rw[List.getElem?_take] at aU;split at aU
 ·rw[List.getElem?_drop] at aU;rw[add_add];exact fp aD (by simpa using aU)
 ·cases aU
end bt
namespace Go.Proofs.R
open Go Go.RowKit bt
theorem JS{w:World}{v:Value}{l:List Int}(h:e4 w v l)(fw:∀x∈l,o.en x):oF w v l:=by
 obtain⟨bl,cap,e,h1,U,ag,aK⟩:=h.ex;exact⟨bl,cap,e,h1,U,ag,fun a bp i ad=>⟨aK a bp i ad,fw _ (List.getElem_mem ad)⟩⟩
theorem T4{w:World}{v:Value}{l:List (List Int)}(h:Ah w v l)(fw:∀r∈l,∀x∈r,o.en x):ua w v l:=by
 obtain⟨bl,cap,e,h1,U,ag,aK⟩:=h.ex;refine⟨bl,cap,e,h1,U,ag,fun a bp i ad=>?_⟩;obtain⟨u,hu,aI⟩:=aK a bp i ad;exact⟨u,hu,JS aI (fw _ (List.getElem_mem ad))⟩
theorem PM{w:World}{cs:List Value}{x:o.Env}(h:Mm w cs x)(a1:o.Mn x):o.r8 w cs x:=by
 obtain⟨v0,v1,v2,v3,rfl,aj,h1,U,ag⟩:=h.ex;exact⟨v0,v1,v2,v3,rfl,T4 aj a1.vars,JS h1 a1.lens,JS U a1.locals,T4 ag a1.at_,a1.self⟩
def Oa(base:Nat)(au:Option (List Int))(u:Value)(w:World):Prop :=
 (au=none∧u = .tuple #[.slice none 0 0,.bool false])∨(∃t mg,au=some t∧u = .tuple #[mg,.bool true]∧k9 base w mg t)
theorem aeq(cs:List Value)(v cr ct:Value)(m:o.Model)(s:List Int)(q p:Nat)(a:o.Act)(w:World)(h:oN w cs m)(a8:m.cX)(bg:o.eI m)(ay:e4 w v s)(aN:o.Fits m s)(bH:o.gp m q p)
  (ad:o.fG w cr a.index)(aS:o.fG w ct a.value)(bp:o.oB (o.inner (m.procs[p]'(bH.aO)) (o.eU m)) a) :
  bu Tryz.prog F.CM #[.agg cs.toArray,v,.int .i64 q,.agg (a.enc cr ct).toArray] w fun u w'=>Oa w.heap.size (o.ju m s q a) u w'∧Ext w w':=by
 have h7:=h;obtain⟨hJ,d0,ff,d1,gf,d2,gV,d3,ij,d4,cy,bO,b9,c1,ch,c2,cm,bN,cA,bT,eu,ci,mb,nM,rfl,fP,rq,gW,fr,fL,hp,jS,aj,h1,U,ag,Zt,Iv⟩:=h.form;obtain⟨os,AH,rfl,FY⟩:=ay.form;obtain⟨Kq,cW,rfl,u6⟩:=ad.form;obtain⟨ajm,ahl,rfl,lvl⟩:=aS.form;have BE:=bp.kind;have hlen:=aN.len;have oZ:o.fH m≤64:=o.mJ bg;have gU:=bg.gU;have aB:=bH.aB;have aip:=bH.zC bg;obtain⟨f6,f7,f8⟩:=o.J2 m;obtain⟨I8,sR⟩:=o.wU aB;have dh:=o.PN bg aN aB;refine bM E.CM ?_;refine bF ?_;refine al ?_;intro av cO fo aA bI;refine al ?_;intro aT lZ jC aC da;replace bI:=aC.obj bI;have ba:=aA.trans aC;unfold o.Act.enc at da;refine al ?_;apply K.cond<;>intro g5
 ·obtain⟨gO,fc⟩:=bp.chan (.inr g5);have fJ:a.to.toNat<m.aJ.length:=fc;have h5:a.to=(a.to.toNat:Nat):=by omega
  rw[h5] at da;refine al ?_;refine K.call (KH _ _ m s a.to.toNat aT (h7.ext ba) bg (ay.ext Flat.ext ba) hlen fJ) ?_;rintro u bf ⟨hu,aw⟩;obtain⟨Kn,HL,rfl,_⟩:=hu.form;have fa:(o.chanOf m s a.to.toNat).length=1+o.jd m a.to.toNat:=o.sr (by rw[hlen];exact o.oU fJ);have RP:=o.ug bg fJ;have ain:=o.oU fJ;obtain⟨eG,aaH⟩:=bp.recv g5;have aib:a.loc.toNat<(m.procs[p]'(bH.aO)).vars.length:=aaH;have aio:=bH.room;have done:o.ju m s q a=o.xr m s q a:=by unfold o.ju;rw[if_pos g5]
  rw[done];unfold o.xr;replace bI:=aw.obj bI;replace da:=aw.obj da;have bQ:=ba.trans aw;refine al ?_;refine K.call (afb _ _ bf hu (by omega)) ?_;rintro u bq ⟨j5,aR⟩;replace bI:=aR.obj bI;replace da:=aR.obj da;have b3:=bQ.trans aR;rcases j5 with ⟨hg,rfl⟩ | ⟨r,x,kg,l7,rfl,BQ⟩
  ·refine al ?_;exact⟨.inl ⟨by rw[hg],bw⟩,b3⟩
  obtain⟨adL,XL,rfl,_⟩:=BQ.form;have lA:=o.Gu l7;rw[l7];obtain⟨x4,rfl⟩:=fL.addr (by omega);have C4:=fL.ext Flat.ext b3;refine al ?_;intro bS bj;replace bI:=bj.obj bI;replace da:=bj.obj da;replace C4:=C4.ext Flat.ext bj;have cc:=b3.trans bj;refine al ?_;rw[sR];refine al ?_;refine K.call (KR _ _ _ m s r a.to.toNat bS (h7.ext cc) bg (ay.ext Flat.ext cc) ((oq BQ).ext Flat.ext bj) hlen fJ (by omega)) ?_;rintro u bX ⟨dn,bk⟩;obtain⟨Kr,HM,rfl,_⟩:=dn.form;have c0:=cc.trans bk;have pJ:(o.kH s (o.cZ m a.to.toNat) r).length=o.fH m:=by rw[o.uV (by omega)];exact hlen
  refine⟨bk,?_⟩;refine al ?_;refine K.call (Ge _ _ m (o.kH s (o.cZ m a.to.toNat) r) (o.dx m q+1+a.loc.toNat) _ x bX (h7.ext c0) bg (oq dn) pJ (by omega) (by omega)) ?_;rintro u cn ⟨j5,bR⟩;rcases j5 with ⟨hg,rfl⟩ | ⟨t,mg,abe,rfl,lz⟩
  ·refine al ?_;exact⟨.inl ⟨hg,bw⟩,c0.trans bR⟩
  ·obtain⟨xl,yq,rfl,_⟩:=lz.form;refine al ?_;exact⟨.inr ⟨t,_,abe,rfl,bs.low c0.size lz⟩,c0.trans bR⟩
 ·refine al ?_;refine K.y7 [.slice hJ m.scalars.length d0,.slice ff m.vars.length d1,.slice gf m.aJ.length d2,.slice gV m.procs.length d3,.slice ij m.props.length d4] bI rfl rfl ?_;refine al ?_;refine K.y7 [.slice cy (o.layout m).vars.length bO,.slice b9 (o.layout m).aJ.length c1,.slice ch (o.layout m).insts.length c2,.int .i64 (o.layout m).cells,.slice cm (o.layout m).aZ.length bN,.slice cA (o.layout m).ad.length bT] bI rfl rfl ?_;refine al ?_;refine K.call (T6 _ _ _ m s q aT (fP.ext ba) a8 bg (rq.ext ba) (ay.ext Flat.ext ba) aN (by omega) (by omega)) ?_;rintro _ bf ⟨⟨es,rfl,aI⟩,aw⟩;have e9:=PM aI.here dh;have EY:=e9;obtain⟨a0,gO,dy,ez,a2,gd,a3,iS,rfl,qU,dO,dP,eg,gR,_⟩:=e9.form;replace bI:=aw.obj bI;replace da:=aw.obj da;have bQ:=ba.trans aw;refine al ?_;intro bq sk IE aR iD;replace bI:=aR.obj bI;replace da:=aR.obj da;have b3:=bQ.trans aR;refine al ?_;refine K.call (KO _ a.value _ (o.cS m s q) bq (aS.ext b3) (EY.ext aR)) ?_;rintro _ bS ⟨rfl,bj⟩;obtain⟨n,BM⟩:∃n,n=(o.eval a.value (o.cS m s q)).1:=⟨_,rfl⟩;obtain⟨e,yI⟩:∃e,e=(o.eval a.value (o.cS m s q)).2:=⟨_,rfl⟩;rw[←BM,←yI];replace bI:=bj.obj bI;replace da:=bj.obj da;replace iD:=bj.obj iD;have cc:=b3.trans bj;have fE:=ba.size;refine al ?_;refine K.cond (fun uY=>?_) (fun uY=>?_);rotate_left
  ·refine al ?_;refine⟨.inl ⟨?_,bw⟩,cc⟩;unfold o.ju;rw[if_neg g5,←yI,if_pos uY]
  have done:o.ju m s q a=if a.kind=1 then o.putAt m s (o.hM m a.to.toNat) n else if a.kind=2 then o.wV m s a (o.eval a.index (o.cS m s q)) n else if a.kind=3 then o.putAt m s (o.dx m q+1+a.to.toNat) n else o.vl m s a.to.toNat n:=by
   unfold o.ju;rw[if_neg g5,←yI,if_neg (by simpa using uY),←BM]
  rw[done];have s3:=ay.ext Flat.ext cc;have QB:=h7.ext cc;refine al ?_;apply K.cond<;>intro g1
  ·obtain⟨gO,b8,fc,jG⟩:=bp.set g1;have iR:a.to.toNat<m.vars.length:=(List.getElem?_eq_some_iff.1 fc).1;obtain⟨fm,od⟩:=o.Gy iR;have nY:=o.GA bg iR;have abp:=o.tK iR;have gA:=o.pD m;have aaF:=o.u1 iR;have ahW:o.cells m.vars[a.to.toNat] m.scalars=1:=by
    have JG:m.vars[a.to.toNat]=b8:=(List.getElem?_eq_some_iff.1 fc).2;rw[JG];unfold o.cells;rw[if_pos jG]
   obtain⟨x4,rfl⟩:=gW.addr (by omega);have TA:=gW.ext Flat.ext cc;refine al ?_;intro bX bk;replace bI:=bk.obj bI;replace da:=bk.obj da;replace TA:=TA.ext Flat.ext bk;have c0:=cc.trans bk;refine al ?_;refine K.dk a.to.toNat (by omega) (by omega) ?_;refine al ?_;refine K.call (Ge _ _ m s (o.hM m a.to.toNat) _ n bX (h7.ext c0) bg (ay.ext Flat.ext c0) hlen (by rw[od]) (by omega)) ?_;rintro u cn ⟨j5,bR⟩;rcases j5 with ⟨hg,rfl⟩ | ⟨t,mg,l7,rfl,lz⟩
   ·refine al ?_;exact⟨.inl ⟨by rw[if_pos g1];exact hg,bw⟩,c0.trans bR⟩
   ·obtain⟨xl,yq,rfl,_⟩:=lz.form;refine al ?_;exact⟨.inr ⟨t,_,by rw[if_pos g1];exact l7,rfl,bs.low c0.size lz⟩,c0.trans bR⟩
  refine al ?_;apply K.cond<;>intro g2
  ·obtain⟨gO,JF,Rg⟩:=bp.item g2;have iR:a.to.toNat<m.vars.length:=JF;obtain⟨fm,od⟩:=o.Gy iR;have abp:=o.tK iR;have gA:=o.pD m;have aaF:=o.u1 iR;have fa:=o.sm m.vars[a.to.toNat] m.scalars;have abn:=o.Gn (s:=s) (inst:=(q:Int)) iR;have aiv:=o.K4 m s q;obtain⟨abq,abr⟩:=List.getElem?_eq_some_iff.1 abn;have lA:((o.cS m s q).vars[a.to.toNat]).length=o.u0 m a.to.toNat:=by rw[abr,List.length_take,List.length_drop];omega
   obtain⟨x4,rfl⟩:=gW.addr (by omega);obtain⟨oR,rfl⟩:=qU.addr (by omega);obtain⟨kg,np,yX⟩:=qU.at a.to.toNat abq;obtain⟨ajk,ahg,rfl,_⟩:=yX.form;rw[lA] at np;refine al ?_;refine K.call (KO _ a.index _ (o.cS m s q) bS (ad.ext cc) (EY.ext (aR.trans bj))) ?_;rintro _ bX ⟨rfl,bk⟩;obtain⟨k,Ro⟩:∃k,k=(o.eval a.index (o.cS m s q)).1:=⟨_,rfl⟩;obtain⟨f,Q4⟩:∃f,f=(o.eval a.index (o.cS m s q)).2:=⟨_,rfl⟩;have n1:∀n,o.wV m s a (o.eval a.index (o.cS m s q)) n=if f≠0∨k<1∨(o.u0 m a.to.toNat:Int)<k then none else o.putAt m s (o.hM m a.to.toNat+k.toNat - 1) n:=fun n=>by unfold o.wV;rw[←Ro,←Q4]
   rw[n1,←Ro,←Q4];clear n1;replace bI:=bk.obj bI;replace da:=bk.obj da;replace iD:=bk.obj iD;have c0:=cc.trans bk;have Z7:=((aR.trans bj).trans bk).cell np;refine al ?_;refine K.cond (fun nt=>?_) (fun nt=>?_);rotate_left
   ·refine al ?_;exact⟨.inl ⟨by rw[if_neg g1,if_pos g2,if_pos (.inl nt)],bw⟩,c0⟩
   refine al ?_;refine K.cond (fun pO=>?_) (fun pO=>?_)
   ·refine al ?_;exact⟨.inl ⟨by rw[if_neg g1,if_pos g2,if_pos (.inr (.inl pO))],bw⟩,c0⟩
   refine al ?_;refine K.dk a.to.toNat (by omega) (by omega) ?_;refine al ?_;refine K.ld Z7 ?_;refine al ?_;refine K.cond (fun y3=>?_) (fun y3=>?_)
   ·refine al ?_;exact⟨.inl ⟨by rw[if_neg g1,if_pos g2,if_pos (.inr (.inr (by omega)))],bw⟩,c0⟩
   have TB:=gW.ext Flat.ext c0;refine al ?_;intro cn bR;replace bI:=bR.obj bI;replace da:=bR.obj da;replace TB:=TB.ext Flat.ext bR;have dZ:=c0.trans bR;refine al ?_;refine K.dk a.to.toNat (by omega) (by omega) ?_;refine al ?_;refine K.call (Ge _ _ m s (o.hM m a.to.toNat+k.toNat - 1) _ n cn (h7.ext dZ) bg (ay.ext Flat.ext dZ) hlen (by rw[od];omega) (by omega)) ?_;rintro u dv ⟨j5,bW⟩;rcases j5 with ⟨hg,rfl⟩ | ⟨t,mg,l7,rfl,lz⟩
   ·refine al ?_;exact⟨.inl ⟨by rw[if_neg g1,if_pos g2,if_neg (by omega)];exact hg,bw⟩,dZ.trans bW⟩
   ·obtain⟨xl,yq,rfl,_⟩:=lz.form;refine al ?_;exact⟨.inr ⟨t,_,by rw[if_neg g1,if_pos g2,if_neg (by omega)];exact l7,rfl,bs.low dZ.size lz⟩,dZ.trans bW⟩
  refine al ?_;apply K.cond<;>intro g3
  ·obtain⟨gO,iR⟩:=bp.loc g3;have fJ:a.to.toNat<(m.procs[p]'(bH.aO)).vars.length:=iR;have RP:=bH.room;obtain⟨x4,rfl⟩:=fL.addr (by omega);have zx:=fL.ext Flat.ext cc;refine al ?_;intro bX bk;replace bI:=bk.obj bI;replace da:=bk.obj da;replace zx:=zx.ext Flat.ext bk;have c0:=cc.trans bk;refine al ?_;rw[sR];refine al ?_;refine K.call (Ge _ _ m s (o.dx m q+1+a.to.toNat) _ n bX (h7.ext c0) bg (ay.ext Flat.ext c0) hlen (by omega) (by omega)) ?_;rintro u cn ⟨j5,bR⟩;rcases j5 with ⟨hg,rfl⟩ | ⟨t,mg,l7,rfl,lz⟩
   ·refine al ?_;exact⟨.inl ⟨by rw[if_neg g1,if_neg g2,if_pos g3];exact hg,bw⟩,c0.trans bR⟩
   ·obtain⟨xl,yq,rfl,_⟩:=lz.form;refine al ?_;exact⟨.inr ⟨t,_,by rw[if_neg g1,if_neg g2,if_pos g3];exact l7,rfl,bs.low c0.size lz⟩,c0.trans bR⟩
  have g4:a.kind=4:=by omega
  rw[if_neg g1,if_neg g2,if_neg g3];obtain⟨gO,iR⟩:=bp.chan (.inl g4);have fJ:a.to.toNat<m.aJ.length:=iR;have QV:=bg.chan _ (List.getElem_mem fJ);obtain⟨vN,rfl⟩:=U.addr (by omega);have et:=((U.at a.to.toNat fJ).cells).ext cc;refine al ?_;refine K.dk a.to.toNat (by omega) fJ ?_;refine ei ?_;intro bX ag7 ahG bk Bn;replace bI:=bk.obj bI;replace da:=bk.obj da;have c0:=cc.trans bk;refine ei ?_;simp -dsimp only[cw];refine ei ?_;intro cn bR;replace bI:=bR.obj bI;replace da:=bR.obj da;replace Bn:=bR.obj Bn;have dZ:=c0.trans bR;have j8:=o.HA QV gU.1;have E7:o.uj m a.to.toNat=o.eM m.aJ[a.to.toNat].scalar m.aJ[a.to.toNat].aZ m.aJ[a.to.toNat].ad m.scalars:=by unfold o.uj;rw[List.getElem?_eq_getElem fJ]
  clear et;unfold o.c5.enc at Bn;refine ei ?_;refine K.hQ [1,4,7,14,18] (fun x:Int×Int=>[(19,.int .i64 x.1),(20,.int .i64 x.2)]) (fun x W=>Ext cn W∧x.1=(o.uj m a.to.toNat).aZ∧x.2=(o.uj m a.to.toNat).ad) ?_ ?_
  ·refine al ?_;refine K.cond (fun nt=>?_) (fun nt=>?_)
   ·have bU:=QV.fg.resolve_left (by omega);obtain⟨j,aU,ah4,BC⟩:∃(j:Nat) (aU:j<m.scalars.length),m.aJ[a.to.toNat].scalar=(j:Int)+1∧o.size m.aJ[a.to.toNat].scalar m.scalars=m.scalars[j].size:=by
     unfold o.size at bU ⊢;cases ar:m.scalars[(m.aJ[a.to.toNat].scalar - 1).toNat]? with
     | none=>rw[ar] at bU;exact absurd rfl bU
     | some x =>
      rw[ar] at bU;obtain⟨aU,rfl⟩:=List.getElem?_eq_some_iff.1 ar;simp only at bU ⊢;split at bU
      ·rename_i c7;exact⟨_,aU,by omega,by rw[if_pos c7]⟩
      ·exact absurd rfl bU
    obtain⟨vP,rfl⟩:=aj.addr (by omega);have fV:=((aj.at j aU).cells).ext dZ;refine al ?_;refine K.dk j (by omega) aU ?_;refine al ?_;intro dv bW;refine al ?_;refine⟨(0,m.scalars[j].size),⟨rfl,rfl,trivial⟩,bW,?_,?_⟩
    ·rw[E7];unfold o.eM;rw[if_neg (by omega)]
    ·rw[E7];unfold o.eM;rw[if_neg (by omega)];exact BC.symm
   ·refine al ?_;refine⟨(m.aJ[a.to.toNat].aZ,m.aJ[a.to.toNat].ad),⟨rfl,rfl,trivial⟩,Ext.refl _,?_,?_⟩
    ·rw[E7];unfold o.eM;rw[if_pos (by omega)]
    ·rw[E7];unfold o.eM;rw[if_pos (by omega)]
  rintro⟨aZ,cP⟩ S dv ⟨bW,jN,Bz⟩;simp only at jN Bz;replace bI:=bW.obj bI;replace da:=bW.obj da;have eW:=dZ.trans bW;have Vk:=eW.size;rw[show o.vl m s a.to.toNat n=if n<aZ∨cP<n then none else (o.ov (o.chanOf m s a.to.toNat) n).map (o.kH s (o.cZ m a.to.toNat)) from by unfold o.vl;rw[←jN,←Bz]];refine al ?_;refine K.cond (fun nt=>?_) (fun nt=>?_)
  ·refine al ?_;exact⟨.inl ⟨by rw[if_pos (.inl nt)],bw⟩,eW⟩
  refine al ?_;refine K.cond (fun pO=>?_) (fun pO=>?_)
  ·refine al ?_;exact⟨.inl ⟨by rw[if_pos (.inr (by omega))],bw⟩,eW⟩
  rw[if_neg (by omega)];have h5:a.to=(a.to.toNat:Nat):=by omega
  rw[h5] at da;have fa:(o.chanOf m s a.to.toNat).length=1+o.jd m a.to.toNat:=o.sr (by rw[hlen];exact o.oU fJ);have RP:=o.ug bg fJ;refine al ?_;refine K.call (KH _ _ m s a.to.toNat dv (h7.ext eW) bg (ay.ext Flat.ext eW) hlen fJ) ?_;rintro u eA ⟨hu,cp⟩;obtain⟨Kn,HL,rfl,_⟩:=hu.form;replace bI:=cp.obj bI;replace da:=cp.obj da;have nd:=eW.trans cp;refine al ?_;refine K.call (afa _ _ n eA hu (by omega)) ?_;rintro u eR ⟨j5,dJ⟩;replace bI:=dJ.obj bI;replace da:=dJ.obj da;have j3:=nd.trans dJ;rcases j5 with ⟨hg,rfl⟩ | ⟨r,kg,l7,rfl,BQ⟩
  ·refine al ?_;exact⟨.inl ⟨by rw[hg];rfl,bw⟩,j3⟩
  ·obtain⟨adL,XL,rfl,_⟩:=BQ.form;have lA:=o.F9 l7;refine al ?_;refine K.call (KR _ _ _ m s r a.to.toNat eR (h7.ext j3) bg (ay.ext Flat.ext j3) (oq BQ) hlen fJ (by omega)) ?_;rintro u gH ⟨mH,hf⟩;obtain⟨Kr,HM,rfl,_⟩:=mH.form;refine al ?_;exact⟨.inr ⟨_,_,by rw[l7];rfl,rfl,bs.low j3.size mH⟩,j3.trans hf⟩
end Go.Proofs.R
end
section
namespace o
open Go
theorem VX(m:Model)(q:Nat)(l:List Act)(s:List Int){k:Nat}(hk:k<l.length):iO m q (l.take (k+1)) s=match iO m q (l.take k) s with | none=>none | some t=>ju m t q l[k]:=by
 rw[List.take_succ_eq_append_getElem hk,OD];rfl
theorem OC(m:Model)(q:Nat):∀(l:List Act) (s:List Int) (k:Nat),iO m q (l.take k) s=none→iO m q l s=none
 | [],s,k,h=>by simp[iO] at h
 | a :: l,s,0,h=>by simp[iO] at h
 | a :: l,s,k+1,h=>by
  simp only[List.take_succ_cons,iO] at h ⊢;cases h1:ju m s q a with
  | none=>rfl
  | some t=>rw[h1] at h;exact OC m q l t k h
end o
namespace Go.Proofs.R
open Go Go.RowKit bt
theorem aeu(cs:List Value)(v:Value)(m:o.Model)(s:List Int)(ref:Int)(q p k:Nat)(w:World)(h:oN w cs m)(a8:m.cX)(ay:e4 w v s)(aN:o.Fits m s)(cK:o.gZ m ref q p k) :
  bu Tryz.prog F.CN #[.agg cs.toArray,v,.int .i64 ref] w fun u w'=>Oa w.heap.size (o.j1 m s q (o.dQ m p k)) u w'∧Ext w w':=by
 have h7:=h;have bg:=o.qO cK.ok;obtain⟨hJ,d0,ff,d1,gf,d2,gV,d3,ij,d4,cy,bO,b9,c1,ch,c2,cm,bN,cA,bT,eu,ci,mb,nM,rfl,fP,rq,gW,fr,fL,hp,jS,aj,h1,U,ag,Zt,Iv⟩:=h.form;obtain⟨os,AH,rfl,FY⟩:=ay.form;have bH:=cK.inst;have nS:=cK.cin;have rC:=nS.gU;have aB:=bH.aB;have hlen:=aN.len;have oZ:o.fH m≤64:=o.mJ bg;have Ja:=bH.room;obtain⟨r,rfl⟩:=Int.eq_ofNat_of_zero_le cK.aZ;have bd:r<(o.refs m).length:=cK.ad;have o8:(o.refs m)[r].inst=(q:Int):=cK.at_.Db;have BU:(o.refs m)[r].cmd=(k:Int):=cK.at_.Dc;obtain⟨I8,sR⟩:=o.wU aB;obtain⟨x3,rfl⟩:=Iv.addr (by omega);obtain⟨a2,rfl⟩:=fL.addr (by omega);obtain⟨Wd,rfl⟩:=ay.addr (by omega);have dh:=o.PN bg aN aB;obtain⟨c,uC⟩:∃c,c=o.dQ m p k:=⟨_,rfl⟩;rw[←uC] at nS rC ⊢;refine bM E.CN ?_;refine bF ?_;refine al ?_;intro av b5 fU aA bK;have Zz:=Iv.ext Flat.ext aA;refine al ?_;intro aT mu Bk aC eN;have H3:(o.refs m)[r].enc=[.int .i64 q,.int .i64 k]:=by unfold o.Ref.enc;rw[o8,BU]
 rw[H3] at eN;replace bK:=aC.obj bK;have ba:=aA.trans aC;clear Zz;refine al ?_;refine K.call (KE _ m r q p k aT (h7.ext ba) cK) ?_;rintro _ bf ⟨⟨fD,eD,rfl,jO,jF⟩,aw⟩;rw[←uC] at jO jF ⊢;obtain⟨oo,kU,rfl,_⟩:=jO.form;obtain⟨zu,yi,rfl,_⟩:=jF.form;replace bK:=aw.obj bK;replace eN:=aw.obj eN;have bQ:=ba.trans aw;unfold o.dG.enc;refine al ?_;intro bq iy kz aR dI;replace bK:=aR.obj bK;replace eN:=aR.obj eN;have b3:=bQ.trans aR;have l6:=ay.ext Flat.ext b3;have C4:=fL.ext Flat.ext b3;have RF:=jO.ext (aw.trans aR);have RC:=jF.ext (aw.trans aR);clear jO jF;refine al ?_;refine K.dk (o.dx m q) (by rw[sR]) (by omega) ?_;refine al ?_;intro bS bj;replace bK:=bj.obj bK;replace eN:=bj.obj eN;replace dI:=bj.obj dI;have cc:=b3.trans bj;have aaM:=RF.ext bj;have RD:=RC.ext bj;have Rt:s[o.dx m q]? = some (s[o.dx m q]'(by omega)):=List.getElem?_eq_getElem (by omega);clear RF RC l6 C4;refine ei ?_;apply K.cond<;>intro g1;rotate_left
 ·refine al ?_;exact⟨.inl ⟨by unfold o.j1;rw[Rt,if_pos (by simpa using g1)],bw⟩,cc⟩
 have wG:o.j1 m s q c=if 0<c.guard.length∧((o.eval c.guard (o.cS m s q)).2≠0∨(o.eval c.guard (o.cS m s q)).1=0) then none else (o.iO m q c.b4 s).map fun t=>t.set (o.dx m q) c.to:=by
  unfold o.j1;rw[Rt,if_neg (by simpa using g1)]
 have ZR:=bK;have ZY:=eN;have QJ:=dI;refine ei ?_;refine K.hQ [1,3,8,9] (fun _:Unit=>[]) (fun _ W=>Ext bS W∧¬(0<c.guard.length∧((o.eval c.guard (o.cS m s q)).2≠0∨(o.eval c.guard (o.cS m s q)).1=0))) ?_ ?_
 ·refine al ?_;apply K.cond<;>intro g2;rotate_left
  ·refine al ?_;exact⟨(),trivial,Ext.refl _,fun c7=>by omega⟩
  have s3:=ay.ext Flat.ext cc;refine al ?_;intro bX bk;replace bK:=bk.obj bK;replace eN:=bk.obj eN;replace dI:=bk.obj dI;have c0:=cc.trans bk;refine al ?_;refine K.y7 [.slice hJ m.scalars.length d0,.slice ff m.vars.length d1,.slice gf m.aJ.length d2,.slice gV m.procs.length d3,.slice ij m.props.length d4] bK rfl rfl ?_;refine al ?_;refine K.y7 [.slice cy (o.layout m).vars.length bO,.slice b9 (o.layout m).aJ.length c1,.slice (some a2) (o.layout m).insts.length c2,.int .i64 (o.layout m).cells,.slice cm (o.layout m).aZ.length bN,.slice cA (o.layout m).ad.length bT] bK rfl rfl ?_;refine al ?_;refine K.call (T6 _ _ _ m s q bX (fP.ext c0) a8 bg (rq.ext c0) (ay.ext Flat.ext c0) aN (by omega) (by omega)) ?_;rintro _ cn ⟨⟨es,rfl,aI⟩,bR⟩;have e9:=PM aI.here dh;refine⟨bR,?_⟩;refine al ?_;refine K.call (KO _ c.guard _ (o.cS m s q) cn (aaM.ext (bk.trans bR)) e9) ?_;rintro _ dv ⟨rfl,bW⟩;obtain⟨n,BM⟩:∃n,n=(o.eval c.guard (o.cS m s q)).1:=⟨_,rfl⟩;obtain⟨e,yI⟩:∃e,e=(o.eval c.guard (o.cS m s q)).2:=⟨_,rfl⟩;rw[←BM,←yI];rw[←BM,←yI] at wG;have eW:=(c0.trans bR).trans bW;refine al ?_;refine K.cond (fun nt=>?_) (fun nt=>?_);rotate_left
  ·refine al ?_;exact⟨.inl ⟨by rw[wG,if_pos ⟨by omega,.inl nt⟩],bw⟩,eW⟩
  refine al ?_;refine K.cond (fun pO=>?_) (fun pO=>?_)
  ·refine al ?_;exact⟨.inl ⟨by rw[wG,if_pos ⟨by omega,.inr pO⟩],bw⟩,eW⟩
  ·refine al ?_;exact⟨(),trivial,(bk.trans bR).trans bW,fun c7=>by rcases c7.2 with h | h;exact h nt;exact pO h⟩
 clear bK eN dI;rintro _ S bX ⟨bk,uH⟩;have j6:o.j1 m s q c=(o.iO m q c.b4 s).map fun t=>t.set (o.dx m q) c.to:=by rw[wG,if_neg uH]
 rw[j6];clear wG uH j6;have dI:=bk.obj QJ;refine al ?_;refine K.df 13 c.b4.length [1,3,8,9] (fun v:gj=>[(12,.slice v.1 v.2.1 v.2.2)]) (some Wd,s.length,AH) (fun n v W=>Ext bS W∧∃t,o.iO m q (c.b4.take n) s=some t∧e4 W (.slice v.1 v.2.1 v.2.2) t∧o.Fits m t) bB bB ⟨bk,s,rfl,ay.ext Flat.ext (cc.trans bk),aN⟩ ?_;clear dI bk;rintro n mg a6 cn aI ⟨bR,t,aL,wM,I2⟩;have bK:=bR.obj ZR;have eN:=bR.obj ZY;have dI:=bR.obj QJ;have aaL:=RD.ext bR;have dZ:=cc.trans bR;refine al ?_;apply K.cond<;>intro g2
 ·have jE:n<c.b4.length:=by omega
  obtain⟨jt,rfl⟩:=RD.addr (by omega);obtain⟨cr,ct,wy,yS,BN⟩:=aaL.at n jE;have Bf:=nS.act n jE;obtain⟨ajh,ahf,rfl,_⟩:=yS.form;obtain⟨aji,v7,rfl,_⟩:=BN.form;refine al ?_;intro dv bW;replace bK:=bW.obj bK;replace eN:=bW.obj eN;replace dI:=bW.obj dI;replace wy:=wy.ext bW;have eW:=dZ.trans bW;refine al ?_;refine K.call (aeq _ _ _ _ m t q p c.b4[n] dv (h7.ext eW) a8 bg (wM.ext Flat.ext bW) I2 bH (yS.ext bW) (BN.ext bW) Bf) ?_;rintro u eA ⟨j5,cp⟩;have FB:=o.VX m q c.b4 s jE;rw[aL] at FB;simp only at FB;rcases j5 with ⟨hg,rfl⟩ | ⟨hr,ajH,l7,rfl,lz⟩
  ·refine al ?_;exact⟨.inl ⟨by rw[o.OC m q c.b4 s (n+1) (FB.trans hg)];rfl,bw⟩,eW.trans cp⟩
  ·obtain⟨xl,yq,rfl,_⟩:=lz.form;refine al ?_;exact⟨jE,bw,(xl,_,yq),⟨rfl,trivial⟩,(bR.trans bW).trans cp,hr,FB.trans l7,oq lz,o.VT bg bH Bf I2 l7⟩
 ·have Fz:n=c.b4.length:=by omega
  subst Fz;rw[List.take_length] at aL;rw[aL];obtain⟨U3,k7,dM⟩:=mg;obtain⟨_,_,aiw,_⟩:=wM.form;have cq:=I2.len;have TF:=fL.ext Flat.ext dZ;refine al ?_;intro dv bW;replace bK:=bW.obj bK;replace eN:=bW.obj eN;replace dI:=bW.obj dI;replace TF:=TF.ext Flat.ext bW;have eW:=dZ.trans bW;refine al ?_;refine K.call (TL _ t (o.dx m q) c.to _ (wM.ext Flat.ext bW) (by rw[sR]) (by omega) (by omega)) ?_;rintro u eA ⟨hh,cp⟩;obtain⟨Kr,HM,rfl,_⟩:=hh.form;refine al ?_;exact⟨.inr ⟨_,_,rfl,rfl,bs.low eW.size hh⟩,eW.trans cp⟩
end Go.Proofs.R
end
section
namespace o
open Go
def lost(m:Model)(s t:List Int)(c:dG):List Int:=kH t (cZ m (comm c.b4).2.toNat) (chanOf m s (comm c.b4).2.toNat)
structure kS(m:Model)(s:List Int)(ref gT:Int)(t:List Int)(e:Int):Prop where
 f0:¬(pw m s∧Told m ref)→t=[]∧e=2
 f1:∀q p k,pw m s→gZ m ref q p k→¬(0≤gT∧gT<ways (dQ m p k) m.aJ)→t=[]∧e=2
 f2:∀q p k,pw m s→gZ m ref q p k→0≤gT∧gT<ways (dQ m p k) m.aJ→j1 m s q (dQ m p k)=none→t=[]∧e=15
 f3:∀q p k u,pw m s→gZ m ref q p k→0≤gT∧gT<ways (dQ m p k) m.aJ→j1 m s q (dQ m p k)=some u→t=(if gT=1 then lost m s u (dQ m p k) else u)∧e=0
theorem kS.no{m:Model}{s:List Int}{ref gT:Int}(h:¬(pw m s∧Told m ref)):kS m s ref gT [] 2 :=
 ⟨fun _=>⟨rfl,rfl⟩,fun _ _ _ bd ax=>absurd ⟨bd,ax.told⟩ h,fun _ _ _ bd ax=>absurd ⟨bd,ax.told⟩ h,fun _ _ _ _ bd ax=>absurd ⟨bd,ax.told⟩ h⟩
theorem kS.Tb{m:Model}{s:List Int}{ref gT:Int}{q p k:Nat}(ax:gZ m ref q p k)(bd:pw m s)(h:¬(0≤gT∧gT<ways (dQ m p k) m.aJ)):kS m s ref gT [] 2 :=
 ⟨fun aI=>absurd ⟨bd,ax.told⟩ aI,fun _ _ _ _ _ _=>⟨rfl,rfl⟩,fun nv mc k' _ lq hw=>(by obtain⟨rfl,rfl,rfl⟩:=ax.one lq;exact absurd hw h),fun nv mc k' _ _ lq hw=>by obtain⟨rfl,rfl,rfl⟩:=ax.one lq;exact absurd hw h⟩
theorem kS.none{m:Model}{s:List Int}{ref gT:Int}{q p k:Nat}(ax:gZ m ref q p k)(bd:pw m s)(hw:0≤gT∧gT<ways (dQ m p k) m.aJ)(h:j1 m s q (dQ m p k)=Option.none):kS m s ref gT [] 15 :=
 ⟨fun aI=>absurd ⟨bd,ax.told⟩ aI,fun nv mc k' _ lq aI=>(by obtain⟨rfl,rfl,rfl⟩:=ax.one lq;exact absurd hw aI),fun _ _ _ _ _ _ _=>⟨rfl,rfl⟩,fun nv mc k' u _ lq _ hu=>by obtain⟨rfl,rfl,rfl⟩:=ax.one lq;rw[h] at hu;cases hu⟩
theorem kS.some{m:Model}{s u:List Int}{ref gT:Int}{q p k:Nat}(ax:gZ m ref q p k)(bd:pw m s)(hw:0≤gT∧gT<ways (dQ m p k) m.aJ)(h:j1 m s q (dQ m p k)=Option.some u):kS m s ref gT (if gT=1 then lost m s u (dQ m p k) else u) 0 :=
 ⟨fun aI=>absurd ⟨bd,ax.told⟩ aI,fun nv mc k' _ lq aI=>(by obtain⟨rfl,rfl,rfl⟩:=ax.one lq;exact absurd hw aI),fun nv mc k' _ lq _ hu=>(by obtain⟨rfl,rfl,rfl⟩:=ax.one lq;rw[h] at hu;cases hu),
  fun nv mc k' iY _ lq _ hu=>by obtain⟨rfl,rfl,rfl⟩:=ax.one lq;rw[h] at hu;injection hu with hu;subst hu;exact⟨rfl,rfl⟩⟩
theorem agE{c:dG}{l:List c5}(h:1<ways c l):∃j:Nat,(comm c.b4).2=j∧j<l.length∧(comm c.b4).1=4:=by
 unfold ways at h;split at h
 ·rename_i aK;cases aI:nth l (comm c.b4).2 with
  | none=>rw[aI] at h;simp at h
  | some x =>
   obtain⟨aj,_,h1⟩:=tr aI;exact⟨(comm c.b4).2.toNat,by omega,h1,aK⟩
 ·omega
theorem O9{m:Model}{s t:List Int}{ref:Int}{q p k:Nat}(cK:gZ m ref q p k)(aN:Fits m s)(h:j1 m s q (dQ m p k)=some t):t.length=fH m :=
 (XB cK.inst.aB rfl cK.cin aN.len h).1.trans aN.len
end o
namespace Go.Proofs.R
open Go Go.RowKit bt
theorem aet(cs:List Value)(v:Value)(m:o.Model)(s:List Int)(w:World)(h:oN w cs m)(bg:o.eI m)(ay:e4 w v s) :
  bu Tryz.prog F.CL #[.agg cs.toArray,v] w fun u w'=>(∃t:Bool,u = .bool t∧(t=true↔o.Fits m s))∧Ext w w':=by
 obtain⟨hJ,d0,ff,d1,gf,d2,gV,d3,ij,d4,cy,bO,b9,c1,ch,c2,cm,bN,cA,bT,eu,ci,mb,nM,rfl,fP,rq,_⟩:=h.form;obtain⟨os,AH,rfl,FY⟩:=ay.form;refine bM E.CL ?_;refine bF ?_;refine al ?_;intro av ca dB aA aM;refine al ?_;refine K.y7 [.slice hJ m.scalars.length d0,.slice ff m.vars.length d1,.slice gf m.aJ.length d2,.slice gV m.procs.length d3,.slice ij m.props.length d4] aM rfl rfl ?_;refine al ?_;refine K.y7 [.slice cy (o.layout m).vars.length bO,.slice b9 (o.layout m).aJ.length c1,.slice ch (o.layout m).insts.length c2,.int .i64 (o.layout m).cells,.slice cm (o.layout m).aZ.length bN,.slice cA (o.layout m).ad.length bT] aM rfl rfl ?_;refine al ?_;refine K.call (TH _ _ m _ s av (fP.ext aA) (rq.ext aA) bg (ay.ext Flat.ext aA)) ?_;rintro _ aT ⟨⟨t,rfl,aL⟩,aC⟩;refine al ?_;exact⟨⟨t,rfl,aL⟩,aA.trans aC⟩
theorem TG(cs:List Value)(v:Value)(m:o.Model)(s:List Int)(ref gT:Int)(w:World)(h:o.er w cs m)(a8:m.cX)(ay:e4 w v s) :
  bu Tryz.prog F.zo #[.agg cs.toArray,v,.int .i64 ref,.int .i64 gT] w fun u w'=>(∃mg t e,u = .tuple #[mg,.int .i64 e]∧e4 w' mg t∧o.kS m s ref gT t e)∧Ext w w':=by
 have fP:=h;obtain⟨cy,bO,b9,c1,ch,c2,cm,bN,cA,bT,rfl,aj,h1,U,ag,aK,_⟩:=h.form;obtain⟨os,AH,rfl,FY⟩:=ay.form;refine bM E.zo ?_;refine bF ?_;refine al ?_;intro av cO fo aA bI;refine al ?_;refine K.call (aes _ m av (fP.ext aA) a8) ?_;rintro _ aT ⟨hO,aC⟩;replace bI:=aC.obj bI;have ba:=aA.trans aC;rcases hO with ⟨hk,rfl⟩ | ⟨hk,qY,rfl,h7⟩
 ·unfold Vd;refine al ?_;intro bf Ek E3 aw kB;refine al ?_;intro bq aR;refine al ?_;exact⟨⟨_,[],2,rfl,bz.nil,o.kS.no fun aI=>hk aI.1.1⟩,(ba.trans aw).trans aR⟩
 have bg:=o.qO hk;have Ix:=h7;obtain⟨hJ,d0,ff,d1,gf,d2,gV,d3,ij,d4,UX,g0,UY,g1,zO,g2,ajC,g3,agn,g4,eu,ci,mb,nM,rfl,_⟩:=h7.form;refine al ?_;intro bf Ek E3 aw kB;replace bI:=aw.obj bI;have ZC:=Ix.ext aw;have bQ:=ba.trans aw;refine al ?_;intro bq aR;replace bI:=aR.obj bI;replace kB:=aR.obj kB;have Iy:=ZC.ext aR;have b3:=bQ.trans aR;refine al ?_;refine K.call (aet _ _ m s bq Iy bg (ay.ext Flat.ext b3)) ?_;rintro _ bS ⟨⟨t,rfl,aL⟩,bj⟩;have QB:=Iy.ext bj;have cc:=b3.trans bj;refine⟨bj,?_⟩;cases t with
 | false =>
  refine al ?_;exact⟨⟨_,[],2,rfl,bz.nil,o.kS.no fun aI=>by have:=aL.2 aI.1.2;cases this⟩,cc⟩
 | true =>
  have gq:o.pw m s:=⟨hk,aL.1 rfl⟩;refine al ?_;apply K.cond<;>intro g1
  ·refine al ?_;exact⟨⟨_,[],2,rfl,bz.nil,o.kS.no fun aI=>by have:=aI.2.2;omega⟩,cc⟩
  refine al ?_;apply K.cond<;>intro g2
  ·refine al ?_;exact⟨⟨_,[],2,rfl,bz.nil,o.kS.no fun aI=>by have:=aI.2.2;omega⟩,cc⟩
  obtain⟨q,p,k,cK⟩:=o.HF (m:=m) (ref:=ref) ⟨hk,by omega,by omega⟩;refine al ?_;apply K.cond<;>intro g3
  ·refine al ?_;exact⟨⟨_,[],2,rfl,bz.nil,o.kS.Tb cK gq (by omega)⟩,cc⟩
  refine al ?_;refine K.call (KE _ m ref q p k bS QB cK) ?_;rintro _ bX ⟨⟨fD,eD,rfl,jO,jF⟩,bk⟩;have c0:=cc.trans bk;refine⟨bj.trans bk,?_⟩;refine al ?_;refine K.call (afk _ _ _ _ m.aJ bX (jF.ext bk) (U.ext c0)) ?_;rintro _ cn ⟨rfl,bR⟩;have dZ:=c0.trans bR;have HW:=(bj.trans bk).trans bR;replace bI:=HW.obj bI;replace kB:=HW.obj kB;have Iz:=Iy.ext HW;obtain⟨ajR,abu⟩:∃x,x=o.ways (o.dQ m p k) m.aJ:=⟨_,rfl⟩;rw[←abu];refine al ?_;apply K.cond<;>intro g4
  ·refine al ?_;exact⟨⟨_,[],2,rfl,bz.nil,o.kS.Tb cK gq (by omega)⟩,dZ⟩
  have hw:0≤gT∧gT<o.ways (o.dQ m p k) m.aJ:=by omega
  have iQ:=ay.ext Flat.ext dZ;refine al ?_;refine K.call (aeu _ _ m s ref q p k cn Iz a8 iQ gq.2 cK) ?_;rintro u dv ⟨j5,bW⟩;replace bI:=bW.obj bI;replace kB:=bW.obj kB;have eW:=dZ.trans bW;rcases j5 with ⟨hg,rfl⟩ | ⟨t,mg,l7,rfl,lz⟩
  ·refine al ?_;exact⟨⟨_,[],15,rfl,bz.nil,o.kS.none cK gq hw hg⟩,eW⟩
  obtain⟨xl,yq,rfl,_⟩:=lz.form;have uR:=o.kS.some cK gq hw l7;refine al ?_;apply K.cond<;>intro g5;rotate_left
  ·rw[if_neg g5] at uR;refine al ?_;exact⟨⟨_,t,0,rfl,oq lz,uR⟩,eW⟩
  rw[if_pos g5] at uR;obtain⟨j,aU,BB,Ri⟩:=o.agE (c:=o.dQ m p k) (l:=m.aJ) (by omega);have cq:=o.O9 cK gq.2 l7;have fa:(o.chanOf m s j).length=1+o.jd m j:=o.sr (by rw[gq.2.len];exact o.oU BB);unfold o.lost at uR;rw[aU,Int.toNat_natCast] at uR;refine al ?_;refine K.call (KE _ m ref q p k dv (Iz.ext bW) cK) ?_;rintro _ eA ⟨⟨fD,eD,rfl,jO,jF⟩,cp⟩;have nd:=eW.trans cp;replace kB:=cp.obj kB;refine al ?_;refine K.call (TK _ _ _ eA (jF.ext cp)) ?_;rintro _ eR ⟨rfl,dJ⟩;have j3:=nd.trans dJ;replace kB:=dJ.obj kB;rw[aU];have ZB:=(Iz.ext bW).ext (cp.trans dJ);refine al ?_;intro gH hf;replace kB:=hf.obj kB;have nN:=j3.trans hf;have QA:=ZB.ext hf;refine al ?_;refine K.call (KH _ _ m s j gH QA bg (ay.ext Flat.ext nN) gq.2.len BB) ?_;rintro u kh ⟨hu,fl⟩;obtain⟨Kn,HL,rfl,_⟩:=hu.form;refine⟨fl,?_⟩;refine al ?_;refine K.call (KR _ _ _ m t (o.chanOf m s j) j kh (QA.ext fl) bg ((oq lz).ext Flat.ext (((cp.trans dJ).trans hf).trans fl)) hu cq BB fa) ?_;rintro u oy ⟨RG,hB⟩;obtain⟨Kr,HM,rfl,_⟩:=RG.form;refine al ?_;exact⟨⟨_,_,0,rfl,oq RG,uR⟩,(nN.trans fl).trans hB⟩
end Go.Proofs.R
end
section
namespace o
open Go
theorem OH{s:Scope}:∀(l:List Act) (i:Nat) (t:Bool),(jv s l i t).2=0→∀k (h:k<l.length),jb l[k] s=0
 | [],_,_,_,k,h=>by simp at h
 | a :: r,i,t,h,k,hk=>by
  unfold jv at h;by_cases h1:(gh a&&t)=true
  ·rw[if_pos h1] at h;cases h
  rw[if_neg h1] at h;by_cases U:jb a s≠0
  ·rw[if_pos U] at h;exact absurd h U
  rw[if_neg U] at h;cases k with
  | zero=>simpa using U
  | succ k=>exact OH r _ _ h k (by simpa using hk)
structure Vo(m:Model)(p:Nat)(c:dG):Prop where
 act:∀k (h:k<c.b4.length),∀aO:p<m.procs.length,jb c.b4[k] (inner m.procs[p] (eU m))=0
 to:∀aO:p<m.procs.length,0≤c.to∧c.to<m.procs[p].cz
theorem XD{m:Model}(h:(check m).dp=0){p k:Nat}(aO:p<m.procs.length)(hk:k<m.procs[p].cB.length):Vo m p m.procs[p].cB[k]:=by
 obtain⟨ff,_,_⟩:=Ky (O8 h);obtain⟨_,ez,_,_⟩:=A3 aO (ff p aO);obtain⟨_,_,k3⟩:=Tu ez;have e:gg m (p:Int)=inner m.procs[p] (eU m):=by
  unfold gg;rw[hX (by omega) (by omega)];rfl
 have bc:=(HG _ _ k3 k hk).1;rw[e] at bc;unfold h4 at bc;by_cases h1:head m.procs[p].cB[k] m.procs[p].cz≠0
 ·rw[if_pos h1] at bc;exact absurd bc h1
 rw[if_neg h1] at bc;have bc:(jv (inner m.procs[p] (eU m)) m.procs[p].cB[k].b4 0 false).2=0:=by
  split at bc
  ·rename_i c7;exact absurd bc c7.2
  ·exact bc
 refine⟨fun j aU _=>OH _ _ _ bc j aU,fun _=>?_⟩;have h1:head m.procs[p].cB[k] m.procs[p].cz=0:=by simpa using h1
 unfold head at h1;by_cases dO:isName m.procs[p].cB[k].name=false
 ·rw[if_pos dO] at h1;cases h1
 rw[if_neg dO] at h1;by_cases dP:m.procs[p].cB[k].from_<0∨m.procs[p].cz≤m.procs[p].cB[k].from_∨m.procs[p].cB[k].to<0∨m.procs[p].cz≤m.procs[p].cB[k].to
 ·rw[if_pos dP] at h1;cases h1
 omega
theorem Se{m:Model}:∀(l:List dj) (i:Nat),l=m.procs.drop i→∀x∈ic m l i,∃(p:Nat) (h:p<m.procs.length),x.proc=p∧(m.procs[p].over≠0→x.elem≤elems m m.procs[p])
 | [],_,_,x,ar=>by simp[ic] at ar
 | p :: r,i,h,x,ar=>by
  have ad:i<m.procs.length:=by
   apply Classical.byContradiction;intro aI;rw[List.drop_eq_nil_of_le (by omega)] at h;cases h
  rw[List.drop_eq_getElem_cons ad] at h;injection h with h1 U
  simp only[ic,List.mem_append] at ar;rcases ar with (ar | ar) | ar
  ·unfold hI at ar;split at ar
   ·rename_i aj;rw[List.mem_singleton] at ar;subst ar;exact⟨i,ad,rfl,fun aI=>absurd (h1 ▸ aj) aI⟩
   ·cases ar
  ·unfold ih at ar;obtain⟨k,hk,rfl⟩:=List.mem_map.1 ar
   have:=List.mem_range.1 hk
   refine⟨i,ad,rfl,fun _=>?_⟩;rw[←h1];simp only;omega
  ·exact Se r (i+1) U x ar
theorem gp.ac5{m:Model}{q p:Nat}(h:gp m q p):(m.procs[p]'(h.aO)).over≠0→((insts m)[q]'(h.aB)).elem≤elems m (m.procs[p]'(h.aO)):=by
 obtain⟨mc,aid,e,h1⟩:=Se m.procs 0 (by simp) _ (List.getElem_mem h.aB);have U:=h.eq;have ba:((mc:Nat):Int)=p:=by
  have:((insts m)[q]'(h.aB)).proc=(mc:Int):=e
  rw[←this,U]
 have:mc=p:=by omega
 subst this;exact h1
theorem X6{m:Model}{p:dj}(h:elems m p≠0):(elems m p:Int)=size p.over m.scalars:=by
 unfold elems at h ⊢;cases aI:nth m.scalars (p.over - 1) with
 | none=>rw[aI] at h;exact absurd rfl h
 | some x =>
  rw[aI] at h;obtain⟨aj,h1,_⟩:=tr aI;simp only at h ⊢;unfold size;rw[h1];split at h
  ·exact absurd rfl h
  ·rename_i c7;rw[if_neg c7];simp only;rw[if_pos (by omega)];omega
theorem aca{x:Node}{s:Scope}(h:x.op=5)(h1:1≤s.self∧s.self≤s.scalars.length):kind [x] s=(1+s.self,0):=by
 have aI:eK x.op=0:=by rw[h];decide
 have aN:fO s x []=(1+s.self,0):=by
  unfold fO;rw[h];simp[fX,ie,kK,h,h1]
 unfold kind jU eL;simp only[List.length_singleton,stepG,aI,aN];simp[eL]
theorem VW{m:Model}{p:Nat}(aO:p<m.procs.length){a:Act}(h:jb a (inner m.procs[p] (eU m))=0)(U:a.kind=2)(ay:p0 a=true):∃v,m.vars[a.to.toNat]? = some v∧v.over=m.procs[p].over:=by
 obtain⟨x,ar,bc⟩:∃x,a.index=[x]∧x.op=5:=by
  unfold p0 at ay;split at ay
  ·rename_i x ar;exact⟨x,ar,by simpa using ay⟩
  ·cases ay
 have fw:=He h;have nn:=((fw.item U).2.2.node 0 (by rw[ar];simp)).1.self (by simp[ar,bc]);unfold jb at h;rw[if_pos (by omega)] at h;rw[if_neg (by omega:¬a.kind=3)] at h;cases br:declared (inner m.procs[p] (eU m)).vars a.to (inner m.procs[p] (eU m)) with
 | none=>rw[br] at h;cases h
 | some vh =>
  rw[br] at h;obtain⟨v,k⟩:=vh;obtain⟨_,d2,_⟩:=HN br;simp only at h;by_cases ag:(v.over≠0)≠(a.kind=2)
  ·rw[if_pos ag] at h;cases h
  rw[if_neg ag] at h;by_cases aK:a.kind=2∧asked a.index (1+v.over) (inner m.procs[p] (eU m))≠0
  ·rw[if_pos aK] at h;exact absurd h aK.2
  have bD:asked a.index (1+v.over) (inner m.procs[p] (eU m))=0:=Classical.byContradiction fun aI=>aK ⟨U,aI⟩;refine⟨v,d2,?_⟩;unfold asked at bD;rw[ar,aca bc nn] at bD;simp only[ne_eq,not_true_eq_false,if_false] at bD;split at bD
  ·cases bD
  ·rename_i c7
   have:(inner m.procs[p] (eU m)).self=m.procs[p].over:=rfl
   omega
theorem abU{m:Model}{q p:Nat}(bH:gp m q p){v:Nat}(aS:v<m.vars.length){own:Bool}(a1:own=true→m.vars[v].over=(m.procs[p]'(bH.aO)).over∧(m.procs[p]'(bH.aO)).over≠0):∀x∈o9 m q v own,0≤x∧x<fH m:=fun x ar=>by
 have h1:=tK aS;have U:=u1 aS;have ag:=pD m;unfold o9 at ar;cases own with
 | false =>
  rw[if_neg (by simp)] at ar
  have:=pg.1 ar
  omega
 | true =>
  obtain⟨b9,ch⟩:=a1 rfl;rw[if_pos rfl] at ar;have ar:=pg.1 ar;have bP:=bH.elem ch;have ba:=bH.ac5 ch;have bQ:=X6 (m:=m) (p:=m.procs[p]'(bH.aO)) (by omega);have b3:=AZ bH.aB;have cc:cells m.vars[v] m.scalars=size (m.procs[p]'(bH.aO)).over m.scalars:=by unfold cells;rw[if_neg (by omega),b9]
  omega
theorem VU{m:Model}{q p:Nat}(bH:gp m q p){a:Act}(e9:jb a (inner (m.procs[p]'(bH.aO)) (eU m))=0):∀x∈kp m q a,0≤x∧x<fH m:=fun x ar=>by
 have bp:=He e9;have wQ:=bH.room;have ag:=pD m;unfold kp at ar;by_cases h1:a.kind=1
 ·rw[if_pos h1] at ar;obtain⟨_,v,aS,jG⟩:=bp.set h1;have iR:a.to.toNat<m.vars.length:=(List.getElem?_eq_some_iff.1 aS).1;have fJ:m.vars[a.to.toNat]=v:=(List.getElem?_eq_some_iff.1 aS).2
  have:=tK iR
  have e:cells m.vars[a.to.toNat] m.scalars=1:=by rw[fJ];unfold cells;rw[if_pos jG]
  have:=pg.1 ar
  omega
 rw[if_neg h1] at ar;by_cases U:a.kind=2
 ·rw[if_pos U] at ar;have iR:a.to.toNat<m.vars.length:=(bp.item U).2.1;refine abU bH iR (fun ay=>?_) x ar;obtain⟨v,aS,a1⟩:=VW bH.aO e9 U ay;obtain⟨_,fJ⟩:=List.getElem?_eq_some_iff.1 aS;obtain⟨y,cx,bc⟩:∃y,a.index=[y]∧y.op=5:=by
   unfold p0 at ay;split at ay
   ·rename_i y cx;exact⟨y,cx,by simpa using ay⟩
   ·cases ay
  have nn:=((bp.item U).2.2.node 0 (by rw[cx];simp)).1.self (by simp[cx,bc])
  have:(inner (m.procs[p]'(bH.aO)) (eU m)).self=(m.procs[p]'(bH.aO)).over:=rfl
  exact⟨by rw[fJ];exact a1,by omega⟩
 rw[if_neg U] at ar;by_cases wo:a.kind=3
 ·rw[if_pos wo] at ar;have bc:a.to.toNat<(m.procs[p]'(bH.aO)).vars.length:=(bp.loc wo).2
  have:=pg.1 ar
  omega
 rw[if_neg wo] at ar;by_cases aK:a.kind=4
 ·rw[if_pos aK] at ar
  have:=oU (m:=m) (bp.chan (.inl aK)).2
  have:=pg.1 ar
  omega
 rw[if_neg aK] at ar;by_cases bc:a.kind=5
 ·rw[if_pos bc] at ar;have bD:a.loc.toNat<(m.procs[p]'(bH.aO)).vars.length:=(bp.recv bc).2
  have:=oU (m:=m) (bp.chan (.inr bc)).2
  rcases List.mem_append.1 ar with ar | ar
  ·have:=pg.1 ar;omega
  ·have:=pg.1 ar;omega
 ·rw[if_neg bc] at ar;cases ar
theorem write_lt{m:Model}{ref:Int}{q p k:Nat}(cK:gZ m ref q p k):∀x∈lJ m q (dQ m p k) (dQ m p k).b4.length,0≤x∧x<fH m:=fun x ar=>by
 have bH:=cK.inst;have RA:=XD cK.ok cK.at_.aO cK.at_.hk;rw[←Ex cK.at_.aO cK.at_.hk] at RA;have wQ:=bH.room;unfold lJ at ar;rw[List.take_length] at ar;rcases List.mem_append.1 ar with ar | ar
 ·have:=pg.1 ar;omega
 ·obtain⟨a,bp,JK⟩:=List.mem_flatMap.1 ar;obtain⟨j,aU,rfl⟩:=List.mem_iff_getElem.1 bp;exact VU bH (RA.act j aU bH.aO) x JK
def u9(s:List Int)(acc:List Int)(c:Int):List Int:=if 0≤c∧c<acc.length then acc.set c.toNat (s[c.toNat]?.getD 0) else acc
def tp(s t l:List Int)(k:Nat):List Int:=(l.take k).foldl (u9 s) t
theorem ac0(s acc:List Int)(c:Int):(u9 s acc c).length=acc.length:=by
 unfold u9;split
 ·rw[List.length_set]
 ·rfl
theorem Kb{s t l:List Int}{k:Nat}(h:k<l.length):tp s t l (k+1)=u9 s (tp s t l k) l[k]:=by
 unfold tp;rw[List.take_succ_eq_append_getElem h,List.foldl_append];rfl
theorem Ka(s t l:List Int):∀k,k≤l.length→(tp s t l k).length=t.length
 | 0,_=>rfl
 | k+1,h=>by rw[Kb (by omega),ac0,Ka s t l k (by omega)]
theorem S2{s t l:List Int}(aP:s.length=t.length):∀k,k≤l.length→∀x∈l.take k,0≤x→(tp s t l k)[x.toNat]? = s[x.toNat]?
 | 0,_,x,ar,_=>by simp at ar
 | k+1,h,x,ar,aj=>by
  have fB:=S2 (l:=l) aP k (by omega) x;have gB:=Ka s t l k (by omega);rw[Kb (by omega)];rw[List.take_succ_eq_append_getElem (show k<l.length by omega)] at ar;have key:x=l[k]∨(x∈l.take k):=by
   rcases List.mem_append.1 ar with ar | ar
   ·exact .inr ar
   ·exact .inl (by simpa using ar)
  unfold u9;by_cases ax:0≤l[k]∧l[k]<(tp s t l k).length
  ·rw[if_pos ax];by_cases e:x=l[k]
   ·subst e;rw[List.getElem?_set_self (by omega)]
    have:l[k].toNat<s.length:=by omega
    rw[List.getElem?_eq_getElem this];rfl
   ·rw[List.getElem?_set_ne (by omega)];exact fB (key.resolve_left e) aj
  ·rw[if_neg ax];rcases key with e | e
   ·subst e;rw[List.getElem?_eq_none (by omega),List.getElem?_eq_none (by omega)]
   ·exact fB e aj
theorem aeD{m:Model}{ref:Int}{q p k:Nat}(cK:gZ m ref q p k){s u:List Int}{l:List Int}(aN:Fits m s)(hu:Fits m u)
  (bd:∀x∈ow m q (dQ m p k) (dQ m p k).b4.length,x∈l)(hw:∀x∈lJ m q (dQ m p k) (dQ m p k).b4.length,x∈l)(bp:iJ s u l):zX l (j1 m s q (dQ m p k)) (j1 m u q (dQ m p k)):=by
 refine XA rfl rfl cK.inst ?_ cK.cin bp (aN.len.trans hu.len.symm) aN.len bd hw;by_cases h:(m.procs[p]'(cK.inst.aO)).over=0
 ·exact .inr h
 ·exact .inl h
theorem agD(c:dG)(l:List c5):0<ways c l:=by
 unfold ways;split
 ·split
  ·split<;>omega
  ·omega
 ·omega
end o
namespace Go.Proofs.R
open Go Go.RowKit bt
theorem ac1(cs:List Value)(v1 v2 v3:Value)(s t l:List Int)(w:World)(h1:e4 w v1 s)(U:e4 w v2 t)(ag:e4 w v3 l)(aP:s.length=t.length)(aL:t.length≤1000)(n3:l.length≤1000000)(ax:∃m,o.er w cs m) :
  bu Tryz.prog F.CR #[.agg cs.toArray,v1,v2,v3] w fun u w'=>k9 w.heap.size w' u (o.tp s t l l.length)∧Ext w w':=by
 obtain⟨m,bg⟩:=ax;obtain⟨hJ,d0,ff,d1,gf,d2,gV,d3,ij,d4,rfl,_⟩:=bg.form;obtain⟨b9,c1,rfl,_⟩:=h1.form;obtain⟨ch,c2,rfl,_⟩:=U.form;obtain⟨cm,bN,rfl,_⟩:=ag.form;refine bM E.CR ?_;refine bF ?_;refine al ?_;intro av cO fo aA bI;refine al ?_;intro aT ca dB aC aM;have ba:=aA.trans aC;have eX:k9 w.heap.size aT (.slice (some ⟨ca,0,none⟩) 0 0) []:=bs.empty (by have:=aA.size;omega) aM;refine al ?_;refine K.vO eX (U.ext Flat.ext ba) (fun _=>rfl) j4 (by simp only[List.length_nil];omega) (by simp only[List.length_nil];unfold maxLen;omega) ba.size fun b8 bf eY aap=>?_;rw[List.nil_append] at eY;have bQ:Ext w bf:=ba.grown aap fun k hk=>(eX.lt k hk).1;obtain⟨bl,iz,rfl,_⟩:=eY.form;clear aM eX bI;refine al ?_;refine K.df 10 l.length [1,3,9] (fun _:Unit=>[]) () (fun k _ W=>Ext w W∧k9 w.heap.size W (.slice bl t.length iz) (o.tp s t l k)) bB bB ⟨bQ,eY⟩ ?_;rintro k _ S bq hk ⟨b3,ey⟩;have EX:=h1.ext Flat.ext b3;have Zl:=ag.ext Flat.ext b3;have gB:=o.Ka s t l k (by omega);refine al ?_;apply K.cond<;>intro g1
 ·have eO:k<l.length:=by omega
  have Jj:=o.Kb (s:=s) (t:=t) eO;obtain⟨a3,rfl⟩:=ag.addr (by omega);refine al ?_;apply K.cond<;>intro g2;rotate_left
  ·refine al ?_;exact⟨eO,bw,(),trivial,b3,by rw[Jj];unfold o.u9;rw[if_neg (by omega)];exact ey⟩
  refine al ?_;apply K.cond<;>intro g3;rotate_left
  ·refine al ?_;exact⟨eO,bw,(),trivial,b3,by rw[Jj];unfold o.u9;rw[if_neg (by omega)];exact ey⟩
  obtain⟨dy,rfl⟩:=h1.addr (by omega);have Qt:=oq ey;rw[←gB] at ey ⊢;obtain⟨jt,rfl⟩:∃jt,bl=some jt:=by rw[←gB] at Qt;exact Qt.addr (by omega)
  refine al ?_;intro bS bj;have kW:=EX.ext Flat.ext bj;have ahw:=Zl.ext Flat.ext bj;have ea:=ey.ext bj;refine al ?_;refine K.dk l[k].toNat (by omega) (by omega) ?_;refine al ?_;refine K.dk l[k].toNat (by omega) (by omega) ?_;refine al ?_;refine K.UF ea (by omega) fun bX fW dn=>?_;have aD:=ea.lt jt.block rfl;refine al ?_;refine⟨eO,bw,(),trivial,fW.ext (b3.trans bj) aD.1,?_⟩;rw[Jj];unfold o.u9;rw[if_pos (by omega),List.getElem?_eq_getElem (by omega)];exact dn
 ·have o3:k=l.length:=by omega
  subst o3;refine al ?_;exact⟨ey,b3⟩
end Go.Proofs.R
end
section
namespace o
open Go
theorem Ty{B:Int}:∀(l:List Int) (a:Int),a≤B→l.Pairwise (· < ·)→(∀x∈l,a≤x∧x<B)→(l.length:Int)≤B - a
 | [],a,h,_,_=>by simp only[List.length_nil];omega
 | x :: r,a,h,aO,aD=>by
  have ar:=aD x List.mem_cons_self;obtain⟨h1,U⟩:=List.pairwise_cons.1 aO
  have:=Ty r (x+1) (by omega) U fun y cx=>⟨by have:=h1 y cx;omega,(aD y (List.mem_cons_of_mem _ cx)).2⟩
  rw[List.length_cons];omega
theorem lV.Uw{l r:List Int}{n:Nat}(h:lV l r)(aP:eS n l):r.length≤80∧∀x∈r,0≤x∧x<80:=by
 have aD:∀x∈r,0≤x∧x<80:=fun x ar=>aP.aZ x ((h.mem x).1 ar)
 have:=Ty (B:=80) r 0 (by omega) h.zv aD
 exact⟨by omega,aD⟩
theorem XR{m:Model}{ref:Int}{q p k:Nat}(cK:gZ m ref q p k){s u a b t1 t2:List Int}{bP ba:Int}(gq:sf m ref a b)(ay:pw m s)(hu:pw m u)(aI:∀x∈a++b,0≤x)
  (sI:∀x∈a++b,0≤x→u[x.toNat]? = s[x.toNat]?)(h1:kS m s ref 0 t1 bP)(U:kS m u ref 0 t2 ba) :
  bP=ba∧(bP=0→∀x∈b,0≤x∧x<t1.length∧t1.length=t2.length∧t1[x.toNat]? = t2[x.toNat]?):=by
 obtain⟨bp,aD⟩:=gq.there q p k cK;have hT:=aeD cK (l:=a++b) ay.2 hu.2 (fun x ar=>List.mem_append_left _ ((bp.mem x).2 ar)) (fun x ar=>List.mem_append_right _ ((aD.mem x).2 ar)) fun x ar=>(sI x ar (aI x ar)).symm;have hw:(0:Int)≤0∧0<ways (dQ m p k) m.aJ:=⟨Int.le_refl _,agD _ _⟩;cases h:j1 m s q (dQ m p k) with
 | none =>
  cases bA:j1 m u q (dQ m p k) with
  | none =>
   obtain⟨rfl,rfl⟩:=h1.f2 q p k ay cK hw h;obtain⟨rfl,rfl⟩:=U.f2 q p k hu cK hw bA;exact⟨rfl,fun e=>by cases e⟩
  | some y=>rw[h,bA] at hT;exact hT.elim
 | some x =>
  cases bA:j1 m u q (dQ m p k) with
  | none=>rw[h,bA] at hT;exact hT.elim
  | some y =>
   obtain⟨rfl,rfl⟩:=h1.f3 q p k x ay cK hw h;obtain⟨rfl,rfl⟩:=U.f3 q p k y hu cK hw bA;rw[h,bA] at hT;have aP:=O9 cK ay.2 h;refine⟨rfl,fun _ z bU=>?_⟩;obtain⟨g1,g2⟩:=write_lt cK z ((aD.mem z).1 bU);exact⟨g1,by rw[aP];exact g2,hT.2,hT.1 z (List.mem_append_right _ bU)⟩
end o
namespace Go.Proofs.R
open Go Go.RowKit bt
theorem acu(cs:List Value)(v1 v2:Value)(m:o.Model)(s t:List Int)(w:World)(h:o.er w cs m)(a8:m.cX)(a1:iu w)(ay:e4 w v1 s)(aL:e4 w v2 t) :
  bu Tryz.prog F.CQ #[.agg cs.toArray,v1,v2] w fun u w'=>u = .bool true∧Ext w w':=by
 have bg:=h;obtain⟨cy,bO,b9,c1,ch,c2,cm,bN,cA,bT,rfl,_⟩:=h.form;obtain⟨os,AH,rfl,FY⟩:=ay.form;obtain⟨xl,ahm,rfl,ai8⟩:=aL.form;refine bM E.CQ ?_;refine bF ?_;refine al ?_;intro av bC cL aA aq;have sj:∀{W},Ext w W→bu Tryz.prog F.xf #[] W fun v w'=>v = .bool true∧Ext W w':=fun e=>afl _ (a1.ext e);refine al ?_;refine K.call (aai _ m av (bg.ext aA)) ?_;rintro _ aT ⟨aS,aC⟩;replace aq:=aC.obj aq;have ba:=aA.trans aC;rcases aS with rfl | ⟨rfl,hH⟩
 ·refine al ?_;refine K.call (sj ba) ?_;rintro _ bf ⟨rfl,aw⟩;refine al ?_;exact⟨bw,ba.trans aw⟩
 refine al ?_;apply K.cond<;>intro g1
 ·refine al ?_;refine K.call (sj ba) ?_;rintro _ bf ⟨rfl,aw⟩;refine al ?_;exact⟨bw,ba.trans aw⟩
 refine al ?_;apply K.cond<;>intro g2
 ·refine al ?_;refine K.call (sj ba) ?_;rintro _ bf ⟨rfl,aw⟩;refine al ?_;exact⟨bw,ba.trans aw⟩
 refine al ?_;refine K.call (KF _ m _ s aT (bg.ext ba) a8 (ay.ext Flat.ext ba)) ?_;rintro _ bf ⟨⟨vp,rfl,abi⟩,aw⟩;replace aq:=aw.obj aq;have bQ:=ba.trans aw;cases vp with
 | false =>
  refine al ?_;refine K.call (sj bQ) ?_;rintro _ bq ⟨rfl,aR⟩;refine al ?_;exact⟨bw,bQ.trans aR⟩
 | true =>
  have BW:=abi.1 rfl;refine al ?_;refine K.call (KF _ m _ t bf (bg.ext bQ) a8 (aL.ext Flat.ext bQ)) ?_;rintro _ bq ⟨⟨Ld,rfl,abj⟩,aR⟩;replace aq:=aR.obj aq;have b3:=bQ.trans aR;cases Ld with
  | false =>
   refine al ?_;refine K.call (sj b3) ?_;rintro _ bS ⟨rfl,bj⟩;refine al ?_;exact⟨bw,b3.trans bj⟩
  | true =>
   have abh:=abj.1 rfl;have E1:=o.qO BW.1;have dE:=E1.lim;have lA:=o.KQ dE;refine al ?_;refine K.call (TP _ m bq (bg.ext b3) a8 dE) ?_;rintro kg bS ⟨np,bj⟩;obtain⟨mb,Pj,rfl,_⟩:=np.form;replace aq:=bj.obj aq;have cc:=b3.trans bj;clear np;have hlen:s.length=t.length:=BW.2.len.trans abh.2.len.symm;have oZ:o.fH m≤64:=o.mJ E1;have lB:=BW.2.len;refine al ?_;refine K.df 8 (o.refs m).length [1,2,3,7] (fun _:Unit=>[]) () (fun _ _ W=>Ext bS W) bB bB (Ext.refl _) ?_;rintro r _ S bX bd bk;have c0:=cc.trans bk;have pH:=bk.obj aq;refine al ?_;apply K.cond<;>intro g3;rotate_left
   ·refine al ?_;refine K.call (sj c0) ?_;rintro _ cn ⟨rfl,bR⟩;refine al ?_;exact⟨bw,c0.trans bR⟩
   obtain⟨q,p,k,cK⟩:=o.HF (m:=m) (ref:=r) ⟨BW.1,by omega,by omega⟩;refine al ?_;refine K.call (Np _ m r bX (bg.ext c0) a8 (a1.ext c0)) ?_;rintro _ cn ⟨⟨eD,xC,a,b,rfl,kd,iF,gq⟩,bR⟩;replace pH:=bR.obj pH;have dZ:=c0.trans bR;have gI:=bk.trans bR;obtain⟨bl,iz,rfl,_⟩:=kd.form;obtain⟨xk,qo,rfl,_⟩:=iF.form;obtain⟨bp,aD⟩:=gq.there q p k cK;have rC:=cK.cin.gU;have E2:=bp.Uw (o.KJ E1 cK.inst cK.cin _ (Nat.le_refl _));have Bl:=aD.Uw (o.Lr E1 cK.inst cK.cin _ (Nat.le_refl _));have sX:∀x∈a++b,0≤x:=fun x ar=>by
    rcases List.mem_append.1 ar with ar | ar
    ·exact(E2.2 x ar).1
    ·exact(Bl.2 x ar).1
   have n3:(a++b).length≤160:=by rw[List.length_append];omega
   refine al ?_;intro dv bW;have adb:=kd.ext Flat.ext bW;have S7:=iF.ext Flat.ext bW;have Bn:=bW.obj pH;have eW:=dZ.trans bW;have BV:=ay.ext Flat.ext eW;have ais:=aL.ext Flat.ext eW;refine al ?_;intro eA iy kz cp dI;have hh:k9 dv.heap.size eA (.slice (some ⟨iy,0,none⟩) 0 0) []:=bs.empty kz dI;refine al ?_;refine⟨cp,?_⟩;refine al ?_;refine K.vO hh (adb.ext Flat.ext cp) (fun _=>rfl) j4 (by simp only[List.length_nil];omega) (by simp only[List.length_nil];unfold maxLen;omega) cp.size fun v10 eR ly mG=>?_;have q0:Ext dv eR:=cp.grown mG fun i ad=>(hh.lt i ad).1;rw[List.nil_append] at ly;obtain⟨aef,ajz,rfl,_⟩:=ly.form;refine⟨q0,?_⟩;refine al ?_;refine K.vO ly (S7.ext Flat.ext q0) (fun _=>rfl) j4 (by omega) (by unfold maxLen;omega) q0.size fun v11 gH mH Q7=>?_;have q1:Ext dv gH:=q0.grown Q7 fun i ad=>(ly.lt i ad).1;obtain⟨aeg,ajA,rfl,_⟩:=mH.form;refine⟨q1,?_⟩;have nN:=eW.trans q1;refine al ?_;refine K.call (ac1 _ _ _ _ s t (a++b) gH (ay.ext Flat.ext nN) (aL.ext Flat.ext nN) (oq mH) hlen (by omega) (by omega) ⟨m,bg.ext nN⟩) ?_;rintro _ kh ⟨uO,fl⟩;have yv:=nN.trans fl;have ry:=(q1.trans fl).obj Bn;obtain⟨x,ar⟩:∃x,x=o.tp s t (a++b) (a++b).length:=⟨_,rfl⟩;have sI:=o.S2 (s:=s) (t:=t) hlen (a++b).length (Nat.le_refl _);rw[List.take_length] at sI;rw[←ar] at uO sI;have pY:=oq uO;obtain⟨ajp,ajB,rfl,_⟩:=uO.form;have ade:=S7.ext Flat.ext (q1.trans fl);clear uO mH ly hh mG Q7 dI;have z7:Ext bS kh:=((gI.trans bW).trans q1).trans fl;refine al ?_;refine K.call (KF _ m _ x kh (bg.ext yv) a8 pY) ?_;rintro _ oy ⟨⟨ox,rfl,abk⟩,hB⟩;have AU:=yv.trans hB;have iD:=hB.obj ry;cases ox with
   | false =>
    refine al ?_;exact⟨by omega,bw,(),trivial,z7.trans hB⟩
   | true =>
    have abx:=abk.1 rfl;refine al ?_;refine K.call (TG _ _ m s r 0 oy (bg.ext AU) a8 (ay.ext Flat.ext AU)) ?_;rintro _ Dz ⟨⟨mg,t1,f1,rfl,kL,Zo⟩,nU⟩;obtain⟨dO,UY,rfl,_⟩:=kL.form;have EH:=AU.trans nU;have II:=nU.obj iD;have ado:=pY.ext Flat.ext (hB.trans nU);refine al ?_;refine K.call (TG _ _ m x r 0 Dz (bg.ext EH) a8 ado) ?_;rintro _ GG ⟨⟨mg,t2,f2,rfl,jl,Zp⟩,kC⟩;obtain⟨dP,zO,rfl,_⟩:=jl.form;have HS:=EH.trans kC;have wC:=kC.obj II;obtain⟨rfl,c9⟩:=o.XR cK gq BW abx sX sI Zo Zp;have ada:=kL.ext Flat.ext kC;have adf:=ade.ext Flat.ext ((hB.trans nU).trans kC);have Mk:Ext bS GG:=((z7.trans hB).trans nU).trans kC;refine al ?_;refine K.df 16 b.length [1,2,3,7,8,9,10,11,12,13,14,15] (fun _:Unit=>[]) () (fun _ _ W=>Ext GG W) bB bB (Ext.refl _) ?_;rintro j _ lW agC aU nj;have aja:=adf.ext Flat.ext nj;have n16:=ada.ext Flat.ext nj;have n26:=jl.ext Flat.ext nj;refine al ?_;apply K.cond<;>intro g4;rotate_left
    ·refine al ?_;exact⟨by omega,bw,(),trivial,Mk.trans nj⟩
    refine al ?_;apply K.cond<;>intro g5;rotate_left
    ·refine al ?_;exact⟨by omega,bw,(),trivial,Mk.trans nj⟩
    have yN:j<b.length:=by omega
    obtain⟨aiz,JL,s8,RY⟩:=c9 g5 b[j] (List.getElem_mem yN);obtain⟨sh,rfl⟩:=iF.addr (by omega);obtain⟨dy,rfl⟩:=kL.addr (by omega);obtain⟨a2,rfl⟩:=jl.addr (by omega);refine al ?_;have abF:b[j].toNat<t1.length:=by omega
    have abG:b[j].toNat<t2.length:=by omega
    have RZ:t1[b[j].toNat]=t2[b[j].toNat]:=by
     rw[List.getElem?_eq_getElem abF,List.getElem?_eq_getElem abG] at RY;exact Option.some.inj RY
    refine K.dk b[j].toNat (by omega) (by omega) ?_;refine al ?_;refine K.dk b[j].toNat (by omega) (by omega) ?_;refine al ?_;intro ajI uD;rw[decide_eq_true RZ];refine al ?_;exact⟨yN,bw,(),trivial,nj.trans uD⟩
end Go.Proofs.R
end
section
namespace o
open Go
structure G7 where
 cmd:Int
 gT:Int
 to:List Int
structure agW(m:Model)(s:List Int)(x:G7)(q p k:Nat)(u:List Int):Prop where
 at_:gZ m x.cmd q p k
 aho:j1 m s q (dQ m p k)=some u
 ajy:x.gT=0∧x.to=u∨x.gT=1∧ways (dQ m p k) m.aJ=2∧x.to=lost m s u (dQ m p k)
end o
end
section
namespace Go.Proofs.R
open Go Go.RowKit bt
def Vw(w:World)(cs:List Value)(x:o.G7):Prop := ∃v,cs=[.int .i64 x.cmd,.int .i64 x.gT,v]∧e4 w v x.to
def Vx(w:World)(a:Addr)(x:o.G7):Prop := ∃v,fi w a [.int .i64 x.cmd,.int .i64 x.gT,v]∧e4 w v x.to
instance aiN:Rel Vx Vw 3 where
 out h:=by
  obtain⟨v,h1,U⟩:=h;exact⟨_,h1,v,rfl,U⟩
 og h k:=by
  obtain⟨v,rfl,k⟩:=k;exact⟨v,h,k⟩
 len h:=by obtain⟨v,rfl,_⟩:=h;rfl
 one h:=by obtain⟨v,rfl,h⟩:=h;simpa[Value.oneCell'] using h.one
 ext e h:=let ⟨v,h1,U⟩:=h; ⟨v,h1,U.ext Flat.ext e⟩
end Go.Proofs.R
end
section
namespace bt
open Go Go.RowKit Go.ChangeShapes Go.WideShapes Go.Deep
section
variable{H:Type}{enc:TypeId×Value→H}{P:Program}{w:World}{base:Nat}{spare:Nat→Bool}{held:Bool}
theorem sB{t:TypeId}{fR:Array Field}{n:Nat}{cs:List Value}{y:DataW H×List MemPlace}(aL:P.underlying t=some (.struct fR))(sZ:oneCellFields P fR=true)(cK:P.cellsOf t=fR.size)
  (h:DataW.trod enc P w base spare held n t cs=some y):cs.length=fR.size∧∃iU ds,y.1 = .agg ds∧∀(j:Nat) (f:Field),fR[j]? = some f→∃v z,cs[j]? = some v∧DataW.trod enc P w base spare held iU f.type [v]=some z∧ds[j]? = some z.1:=by
 obtain⟨ys,iU,Fx,cx,hlen,aiy,aN⟩:=DataW.trod_struct aL h;refine⟨by omega,iU,_,by rw[cx],fun j f aU=>?_⟩;obtain⟨a1,hk⟩:=hone_of sZ j f aU;have BB:j<fR.size:=(Array.getElem?_eq_some_iff.1 aU).1;have aS:cs[j]? = some (cs[j]'(by omega)):=List.getElem?_eq_getElem (by omega);have h1:=aN j f aU;rw[a1,hk] at h1;have aaQ:(cs.drop j).take 1=[cs[j]'(by omega)]:=by
  rw[List.drop_eq_getElem_cons (by omega)];rfl
 rw[aaQ,List.getElem?_eq_getElem (l:=ys) (by omega)] at h1;exact⟨_,_,aS,h1,by rw[List.getElem?_map,List.getElem?_eq_getElem (by omega)];rfl⟩
def Small(P:Program)(t:TypeId)(d:DataW H):Prop := ∀q∈d.weights P t,q≤reachBytes
theorem Small.field{t u:TypeId}{fR:Array Field}{ds:List (DataW H)}{j:Nat}{d:DataW H}{f:Field}(h:Small P t (.agg ds))(aL:P.underlying t=some (.struct fR))(aN:fR[j]? = some f)(hu:f.type=u)(br:ds[j]? = some d):Small P u d:=by
 subst hu;intro q aB;refine h q ?_;simp only[DataW.weights,aL];exact DataW.weights_mem_each (j:=j) (by simp[aN]) br q aB
theorem W6{α:Type}{R:World→Addr→α→Prop}{t e:TypeId}{v:Value}{n:Nat}{z:DataW H×List MemPlace}(sz:Nat)(aL:P.underlying t=some (.slice e))(cK:P.cellsOf e=sz)(hT:0<P.bytesOf e)
  (gq:∀(a:Addr) (cs:List Value) (n:Nat) (y:DataW H×List MemPlace),fi w a cs→cs.length=sz→DataW.trod enc P w 0 (fun _=>true) true n e cs=some y→∃x,R w a x)
  (h:DataW.trod enc P w 0 (fun _=>true) true n t [v]=some z):∃xs,bz sz R w v xs∧(Small P t z.1→xs.length≤140737488355328):=by
 rcases open_slice aL h with ⟨fV,_⟩ | ⟨a,len,cap,m,n,D,VD,fV,aD,aP,hm,BK,ar,ad⟩
 ·simp at fV;subst fV;exact⟨[],bz.nil,fun _=>by simp⟩
 ·simp at fV;subst fV;simp only[if_true] at BK;subst BK;obtain⟨xs,uT,s7⟩:=J6 len (fun i x=>R w (a.add (i*sz)) x) fun i cP=>by
   obtain⟨hP,ax,uS⟩:=ad i (by omega);rw[cK] at ax;obtain⟨_,fa,jB⟩:=World.cells?_some ax;refine gq _ hP n _ (fun j u aU=>?_) fa uS;have Jd:j<sz:=fa ▸ (List.getElem?_eq_some_iff.1 aU).1;rw[←aU];exact jB j Jd
  refine⟨xs,⟨some a,_,by rw[uT],by omega,hm,fun _=>rfl,fun dt bp=>by injection bp with bp;subst bp;exact s7⟩,fun ay=>?_⟩;have h1:=ay ((len+(m - len))*P.bytesOf e) (by rw[ar];simp[DataW.weights,aL]);have U:=reachBytes_lt;have ag:len≤(len+(m - len))*P.bytesOf e:=Nat.le_trans (Nat.le_add_right len _) (Nat.le_mul_of_pos_right _ hT);rw[uT];omega
theorem Wc{r:Reach}{na:Nat}{t e:TypeId}{v:Value}{d:DataW H}{p:List MemPlace}(aL:P.underlying t=some (.slice e))(s6:Value.okWide P w r na t v)(h:DataW.Trod enc P w 0 (fun _=>true) true t v d p) :
  ∃n,DataW.trod enc P w 0 (fun _=>true) true n t [v]=some (d,p):=by
 obtain⟨a0,ai4,ahc,rfl⟩:=okWide_slice aL s6;obtain⟨n,aI⟩:=h;exact⟨n,aI⟩
end
end bt
namespace Go.Proofs.R
open Go Go.RowKit bt Go.ChangeShapes
variable{H:Type}{enc:TypeId×Value→H}{w:World}{cs:List Value}{n:Nat}{y:DataW H×List MemPlace}{v:Value}
theorem kQ{z:Int}(h:(Lit.int .i64 z).wf=true):o.en z:=by
 simp only[Lit.wf,Bool.and_eq_true,decide_eq_true_eq] at h;exact⟨h.1,h.2⟩
theorem adk(h:DataW.trod enc Tryz.prog w 0 (fun _=>true) true n T.k cs=some y):∃x:o.Node,cs=x.enc∧x.ok:=by
 obtain⟨aP,iU,ds,_,aN⟩:=sB (t:=T.k) rfl (by kernel_rfl) (by kernel_rfl) h
 match cs,aP with
 | [bO,c1],_ =>
  obtain⟨_,_,dw,aj,_⟩:=aN 0 _ rfl;obtain⟨_,_,bP,h1,_⟩:=aN 1 _ rfl;cases dw;cases bP;obtain⟨z0,dw,_,gO⟩:=DataW.trod_int (k:=.i64) (by kernel_rfl) aj;obtain⟨fE,bP,_,ez⟩:=DataW.trod_int (k:=.i64) (by kernel_rfl) h1;cases dw;cases bP;exact⟨⟨z0,fE⟩,rfl,kQ gO,kQ ez⟩
end Go.Proofs.R
end
section
namespace Go.Proofs.R
open Go Go.RowKit bt Go.ChangeShapes
variable{H:Type}{enc:TypeId×Value→H}{w:World}{r:Reach}{na:Nat}{v:Value}{d:DataW H}{p:List MemPlace}
theorem abS{n:Nat}{y:DataW H×List MemPlace}(h:DataW.trod enc Tryz.prog w 0 (fun _=>true) true n T.b [v]=some y):∃l,oF w v l∧(Small Tryz.prog T.b y.1→l.length≤140737488355328) :=
 W6 (e:=T.a) 1 (by kernel_rfl) (by kernel_rfl) (by decide +kernel) (fun a cs n y ax aP aL=>by
  obtain⟨z,e,_,aco⟩:=DataW.trod_int (k:=.i64) (by kernel_rfl) aL;cases e;exact⟨z,ax,kQ aco⟩) h
theorem open_ints(s6:Value.okWide Tryz.prog w r na T.b v)(h:DataW.Trod enc Tryz.prog w 0 (fun _=>true) true T.b v d p):∃l,oF w v l:=by
 obtain⟨n,aI⟩:=Wc (e:=T.a) (by kernel_rfl) s6 h;obtain⟨l,aP,_⟩:=abS aI;exact⟨l,aP⟩
end Go.Proofs.R
end
section
namespace Go.Proofs.R
open Go Go.RowKit bt Go.ChangeShapes
variable{H:Type}{enc:TypeId×Value→H}{w:World}{r:Reach}{na:Nat}{v:Value}{d:DataW H}{p:List MemPlace}
theorem Tk(s6:Value.okWide Tryz.prog w r na T.b v)(h:DataW.Trod enc Tryz.prog w 0 (fun _=>true) true T.b v d p):∃l,bz 1 (Flat dA) w v l:=by
 obtain⟨l,aP⟩:=open_ints s6 h;obtain⟨bl,cap,e,h1,U,ag,aK⟩:=aP.ex;exact⟨l,bl,cap,e,h1,U,ag,fun a bp i ad=>(aK a bp i ad).1⟩
end Go.Proofs.R
end
section
namespace bt
open Go Go.RowKit Go.ChangeShapes Go.WideShapes Go.Deep
section
variable{H:Type}{enc:TypeId×Value→H}{P:Program}{w:World}{base:Nat}{spare:Nat→Bool}{held:Bool}
theorem U5{e:TypeId}:∀{ds:List (DataW H)} {d:DataW H},d∈ds→∀n∈d.weights P e,n∈DataW.weightsAll P e ds
 | [],_,h=>by cases h
 | x :: r,d,h=>fun n aI=>by
  simp only[DataW.weightsAll];rcases List.mem_cons.1 h with rfl | h
  ·exact List.mem_append_left _ aI
  ·exact List.mem_append_right _ (U5 h n aI)
theorem uh{α:Type}{R:World→Addr→α→Prop}{G:α→Prop}{t e:TypeId}{v:Value}{n:Nat}{z:DataW H×List MemPlace}(sz B:Nat)(aL:P.underlying t=some (.slice e))(cK:P.cellsOf e=sz)(hT:P.bytesOf e=B)
  (gq:∀(a:Addr) (cs:List Value) (n:Nat) (y:DataW H×List MemPlace),fi w a cs→cs.length=sz→DataW.trod enc P w 0 (fun _=>true) true n e cs=some y→∃x,R w a x∧(Small P e y.1→G x))
  (h:DataW.trod enc P w 0 (fun _=>true) true n t [v]=some z):∃xs,bz sz R w v xs∧(Small P t z.1→o.dY xs.length B∧∀x∈xs,G x):=by
 rcases open_slice aL h with ⟨fV,_⟩ | ⟨a,len,cap,m,n,D,VD,fV,aD,aP,hm,BK,ar,ad⟩
 ·simp at fV;subst fV;exact⟨[],bz.nil,fun _=>⟨by simp[o.dY],fun x ar=>by cases ar⟩⟩
 ·simp at fV;subst fV;simp only[if_true] at BK;subst BK;obtain⟨xs,uT,s7⟩:=J6 len (fun i x=>R w (a.add (i*sz)) x∧(Small P e (D i)→G x)) fun i cP=>by
   obtain⟨hP,ax,uS⟩:=ad i (by omega);rw[cK] at ax;obtain⟨_,fa,jB⟩:=World.cells?_some ax;refine gq _ hP n _ (fun j u aU=>?_) fa uS;have Jd:j<sz:=fa ▸ (List.getElem?_eq_some_iff.1 aU).1;rw[←aU];exact jB j Jd
  refine⟨xs,⟨some a,_,by rw[uT],by omega,hm,fun _=>rfl,fun dt bp i ad=>by injection bp with bp;subst bp;exact(s7 i ad).1⟩,fun ay=>⟨?_,fun x rK=>?_⟩⟩
  ·have h1:=ay ((len+(m - len))*P.bytesOf e) (by rw[ar];simp[DataW.weights,aL]);have U:len*B≤(len+(m - len))*P.bytesOf e:=by rw[hT];exact Nat.mul_le_mul_right _ (by omega)
   have ag:reachBytes=140737488351232:=rfl;unfold o.dY;rw[uT];omega
  ·obtain⟨i,cP,rfl⟩:=List.mem_iff_getElem.1 rK;refine(s7 i cP).2 fun q aB=>ay q ?_;rw[ar];simp only[DataW.weights,aL];refine List.mem_cons_of_mem _ (List.mem_append_left _ (U5 ?_ q aB));exact List.mem_map.2 ⟨i,by simp;omega,rfl⟩
theorem adB{r:Reach}{na:Nat}{t:TypeId}{fR:Array Field}{v:Value}{d:DataW H}{p:List MemPlace}(aL:P.underlying t=some (.struct fR))
  (s6:Value.okWide P w r na t v)(h:DataW.Trod enc P w base spare held t v d p):∃cs n,v = .agg cs∧DataW.trod enc P w base spare held n t cs.toList=some (d,p):=by
 obtain⟨cs,rfl,c8⟩:=okWide_struct aL s6;obtain⟨fuel,aN⟩:=h;exact⟨cs,fuel,rfl,aN⟩
end
end bt
namespace Go.Proofs.R
open Go Go.RowKit bt Go.ChangeShapes
variable{H:Type}{enc:TypeId×Value→H}{w:World}{cs:List Value}{n:Nat}{y:DataW H×List MemPlace}{v:Value}
theorem Zc(h:DataW.trod enc Tryz.prog w 0 (fun _=>true) true n T.jt cs=some y):∃x:o.Scalar,cs=x.enc∧o.hZ x.name∧x.cX:=by
 obtain⟨aP,iU,ds,_,aN⟩:=sB (t:=T.jt) rfl (by kernel_rfl) (by kernel_rfl) h
 match cs,aP with
 | [bO,c1],_ =>
  obtain⟨_,_,dw,aj,_⟩:=aN 0 _ rfl;obtain⟨_,_,bP,h1,_⟩:=aN 1 _ rfl;cases dw;cases bP;obtain⟨s,dw,_,ay⟩:=DataW.trod_string (by kernel_rfl) aj;obtain⟨z,bP,_,ez⟩:=DataW.trod_int (k:=.i64) (by kernel_rfl) h1;cases dw;cases bP;exact⟨⟨s,z⟩,rfl,ay,⟨kQ ez⟩⟩
theorem Ze(h:DataW.trod enc Tryz.prog w 0 (fun _=>true) true n T.f cs=some y):∃x:o.Var,cs=x.enc∧o.hZ x.name∧x.cX:=by
 obtain⟨aP,iU,ds,_,aN⟩:=sB (t:=T.f) rfl (by kernel_rfl) (by kernel_rfl) h
 match cs,aP with
 | [bO,c1,c2,bN,bT,nI],_ =>
  obtain⟨_,_,dw,aj,_⟩:=aN 0 _ rfl;obtain⟨_,_,bP,h1,_⟩:=aN 1 _ rfl;obtain⟨_,_,ba,U,_⟩:=aN 2 _ rfl;obtain⟨_,_,bQ,ag,_⟩:=aN 3 _ rfl;obtain⟨_,_,b3,aK,_⟩:=aN 4 _ rfl;obtain⟨_,_,cc,bc,_⟩:=aN 5 _ rfl;cases dw;cases bP;cases ba;cases bQ;cases b3;cases cc;obtain⟨s,dw,_,ay⟩:=DataW.trod_string (by kernel_rfl) aj;obtain⟨fE,bP,_,ez⟩:=DataW.trod_int (k:=.i64) (by kernel_rfl) h1;obtain⟨z2,ba,_,gd⟩:=DataW.trod_int (k:=.i64) (by kernel_rfl) U;obtain⟨z3,bQ,_,iS⟩:=DataW.trod_int (k:=.i64) (by kernel_rfl) ag;obtain⟨z4,b3,_,k3⟩:=DataW.trod_int (k:=.i64) (by kernel_rfl) aK;obtain⟨z5,cc,_,uY⟩:=DataW.trod_int (k:=.i64) (by kernel_rfl) bc;cases dw;cases bP;cases ba;cases bQ;cases b3;cases cc;exact⟨⟨s,fE,z2,z3,z4,z5⟩,rfl,ay,⟨kQ ez,kQ gd,kQ iS,kQ k3,kQ uY⟩⟩
theorem Y1(h:DataW.trod enc Tryz.prog w 0 (fun _=>true) true n T.q cs=some y):∃x:o.c5,cs=x.enc∧o.hZ x.name∧x.cX:=by
 obtain⟨aP,iU,ds,_,aN⟩:=sB (t:=T.q) rfl (by kernel_rfl) (by kernel_rfl) h
 match cs,aP with
 | [bO,c1,c2,bN,bT,nI],_ =>
  obtain⟨_,_,dw,aj,_⟩:=aN 0 _ rfl;obtain⟨_,_,bP,h1,_⟩:=aN 1 _ rfl;obtain⟨_,_,ba,U,_⟩:=aN 2 _ rfl;obtain⟨_,_,bQ,ag,_⟩:=aN 3 _ rfl;obtain⟨_,_,b3,aK,_⟩:=aN 4 _ rfl;obtain⟨_,_,cc,bc,_⟩:=aN 5 _ rfl;cases dw;cases bP;cases ba;cases bQ;cases b3;cases cc;obtain⟨s,dw,_,ay⟩:=DataW.trod_string (by kernel_rfl) aj;obtain⟨fE,bP,_,ez⟩:=DataW.trod_int (k:=.i64) (by kernel_rfl) h1;obtain⟨z2,ba,_,gd⟩:=DataW.trod_int (k:=.i64) (by kernel_rfl) U;obtain⟨z3,bQ,_,iS⟩:=DataW.trod_int (k:=.i64) (by kernel_rfl) ag;obtain⟨z4,b3,_,k3⟩:=DataW.trod_int (k:=.i64) (by kernel_rfl) aK;obtain⟨z5,cc,_⟩:=DataW.trod_bool (by kernel_rfl) bc;cases dw;cases bP;cases ba;cases bQ;cases b3;cases cc;exact⟨⟨s,fE,z2,z3,z4,z5⟩,rfl,ay,⟨kQ ez,kQ gd,kQ iS,kQ k3⟩⟩
theorem EV(h:DataW.trod enc Tryz.prog w 0 (fun _=>true) true n T.lY [v]=some y):∃l,o.fG w v l∧(Small Tryz.prog T.lY y.1→o.dY l.length 16∧∀x∈l,True) :=
 uh (G:=fun _=>True) (e:=T.k) 2 16 (by kernel_rfl) (by kernel_rfl) (by kernel_rfl) (fun a cs n y ax aP aL=>by obtain⟨x,rfl,ar⟩:=adk aL;exact⟨x,⟨ax,ar⟩,fun _=>trivial⟩) h
theorem Zd(h:DataW.trod enc Tryz.prog w 0 (fun _=>true) true n T.y [v]=some y):∃l,o.gi w v l∧(Small Tryz.prog T.y y.1→o.dY l.length 24∧∀x∈l,x.cX) :=
 uh (e:=T.jt) 2 24 (by kernel_rfl) (by kernel_rfl) (by kernel_rfl) (fun a cs n y ax aP aL=>by obtain⟨x,rfl,ar,a8⟩:=Zc aL;exact⟨x,⟨ax,ar⟩,fun _=>a8⟩) h
theorem Qh(h:DataW.trod enc Tryz.prog w 0 (fun _=>true) true n T.Ar [v]=some y):∃l,o.gJ w v l∧(Small Tryz.prog T.Ar y.1→o.dY l.length 56∧∀x∈l,x.cX) :=
 uh (e:=T.f) 6 56 (by kernel_rfl) (by kernel_rfl) (by kernel_rfl) (fun a cs n y ax aP aL=>by obtain⟨x,rfl,ar,a8⟩:=Ze aL;exact⟨x,⟨ax,ar⟩,fun _=>a8⟩) h
theorem Y2(h:DataW.trod enc Tryz.prog w 0 (fun _=>true) true n T.oP [v]=some y):∃l,o.lN w v l∧(Small Tryz.prog T.oP y.1→o.dY l.length 56∧∀x∈l,x.cX) :=
 uh (e:=T.q) 6 56 (by kernel_rfl) (by kernel_rfl) (by kernel_rfl) (fun a cs n y ax aP aL=>by obtain⟨x,rfl,ar,a8⟩:=Y1 aL;exact⟨x,⟨ax,ar⟩,fun _=>a8⟩) h
theorem YZ{a:Addr}(ax:fi w a cs)(h:DataW.trod enc Tryz.prog w 0 (fun _=>true) true n T.n cs=some y):∃x:o.Act,o.vF w a x∧(Small Tryz.prog T.n y.1→x.cX):=by
 obtain⟨aP,iU,ds,he,aN⟩:=sB (t:=T.n) rfl (by kernel_rfl) (by kernel_rfl) h
 match cs,aP with
 | [bO,c1,c2,bN,bT],_ =>
  obtain⟨_,_,dw,aj,_⟩:=aN 0 _ rfl;obtain⟨_,_,bP,h1,_⟩:=aN 1 _ rfl;obtain⟨_,_,ba,U,_⟩:=aN 2 _ rfl;obtain⟨_,_,bQ,ag,d3⟩:=aN 3 _ rfl;obtain⟨_,_,b3,aK,d4⟩:=aN 4 _ rfl;cases dw;cases bP;cases ba;cases bQ;cases b3;obtain⟨z0,dw,_,gO⟩:=DataW.trod_int (k:=.i64) (by kernel_rfl) aj;obtain⟨fE,bP,_,ez⟩:=DataW.trod_int (k:=.i64) (by kernel_rfl) h1;obtain⟨z2,ba,_,gd⟩:=DataW.trod_int (k:=.i64) (by kernel_rfl) U;cases dw;cases bP;cases ba;obtain⟨dV,ag,g3⟩:=EV ag;obtain⟨eo,aK,g4⟩:=EV aK;exact⟨⟨z0,fE,z2,dV,eo⟩,⟨bN,bT,ax,ag,aK⟩,fun ay=>by
   rw[he] at ay;exact⟨kQ gO,kQ ez,kQ gd,(g3 (ay.field rfl rfl rfl d3)).1,(g4 (ay.field rfl rfl rfl d4)).1⟩⟩
theorem Y0(h:DataW.trod enc Tryz.prog w 0 (fun _=>true) true n T.ap [v]=some y):∃l,o.mR w v l∧(Small Tryz.prog T.ap y.1→o.dY l.length 72∧∀x∈l,x.cX) :=
 uh (e:=T.n) 5 72 (by kernel_rfl) (by kernel_rfl) (by kernel_rfl) (fun a cs n y ax aP aL=>YZ ax aL) h
theorem Y3(h:DataW.trod enc Tryz.prog w 0 (fun _=>true) true n T.m cs=some y):∃x:o.dG,o.xL w cs x∧(Small Tryz.prog T.m y.1→x.cX):=by
 obtain⟨aP,iU,ds,he,aN⟩:=sB (t:=T.m) rfl (by kernel_rfl) (by kernel_rfl) h
 match cs,aP with
 | [bO,c1,c2,bN,bT,nI],_ =>
  obtain⟨_,_,dw,aj,_⟩:=aN 0 _ rfl;obtain⟨_,_,bP,h1,_⟩:=aN 1 _ rfl;obtain⟨_,_,ba,U,_⟩:=aN 2 _ rfl;obtain⟨_,_,bQ,ag,d3⟩:=aN 3 _ rfl;obtain⟨_,_,b3,aK,d4⟩:=aN 4 _ rfl;obtain⟨_,_,cc,bc,_⟩:=aN 5 _ rfl;cases dw;cases bP;cases ba;cases bQ;cases b3;cases cc;obtain⟨s,dw,_,ay⟩:=DataW.trod_string (by kernel_rfl) aj;obtain⟨fE,bP,_,ez⟩:=DataW.trod_int (k:=.i64) (by kernel_rfl) h1;obtain⟨z2,ba,_,gd⟩:=DataW.trod_int (k:=.i64) (by kernel_rfl) U;obtain⟨z5,cc,_⟩:=DataW.trod_bool (by kernel_rfl) bc;cases dw;cases bP;cases ba;cases cc;obtain⟨dV,ag,g3⟩:=EV ag;obtain⟨eo,aK,g4⟩:=Y0 aK;exact⟨⟨s,fE,z2,dV,eo,z5⟩,⟨ay,bN,bT,rfl,ag,aK⟩,fun ay=>by
   rw[he] at ay;exact⟨kQ ez,kQ gd,(g3 (ay.field rfl rfl rfl d3)).1,(g4 (ay.field rfl rfl rfl d4)).1,(g4 (ay.field rfl rfl rfl d4)).2⟩⟩
theorem Y4(h:DataW.trod enc Tryz.prog w 0 (fun _=>true) true n T.qm [v]=some y):∃l,o.pq w v l∧(Small Tryz.prog T.qm y.1→o.dY l.length 88∧∀x∈l,x.cX) :=
 uh (e:=T.m) 6 88 (by kernel_rfl) (by kernel_rfl) (by kernel_rfl) (fun a cs n y ax aP aL=>by
  obtain⟨x,⟨aj,fD,eD,rfl,h1,U⟩,a8⟩:=Y3 aL;exact⟨x,⟨aj,fD,eD,ax,h1,U⟩,a8⟩) h
theorem Y8(h:DataW.trod enc Tryz.prog w 0 (fun _=>true) true n T.g cs=some y):∃x:o.dj,o.tX w cs x∧(Small Tryz.prog T.g y.1→x.cX):=by
 obtain⟨aP,iU,ds,he,aN⟩:=sB (t:=T.g) rfl (by kernel_rfl) (by kernel_rfl) h
 match cs,aP with
 | [bO,c1,c2,bN,bT],_ =>
  obtain⟨_,_,dw,aj,_⟩:=aN 0 _ rfl;obtain⟨_,_,bP,h1,_⟩:=aN 1 _ rfl;obtain⟨_,_,ba,U,_⟩:=aN 2 _ rfl;obtain⟨_,_,bQ,ag,d3⟩:=aN 3 _ rfl;obtain⟨_,_,b3,aK,d4⟩:=aN 4 _ rfl;cases dw;cases bP;cases ba;cases bQ;cases b3;obtain⟨s,dw,_,ay⟩:=DataW.trod_string (by kernel_rfl) aj;obtain⟨fE,bP,_,ez⟩:=DataW.trod_int (k:=.i64) (by kernel_rfl) h1;obtain⟨z2,ba,_,gd⟩:=DataW.trod_int (k:=.i64) (by kernel_rfl) U;cases dw;cases bP;cases ba;obtain⟨dV,ag,g3⟩:=Qh ag;obtain⟨eo,aK,g4⟩:=Y4 aK;exact⟨⟨s,fE,z2,dV,eo⟩,⟨ay,bN,bT,rfl,ag,aK⟩,fun ay=>by
   rw[he] at ay;exact⟨kQ ez,kQ gd,(g3 (ay.field rfl rfl rfl d3)).1,(g4 (ay.field rfl rfl rfl d4)).1,(g3 (ay.field rfl rfl rfl d3)).2,(g4 (ay.field rfl rfl rfl d4)).2⟩⟩
theorem Y9(h:DataW.trod enc Tryz.prog w 0 (fun _=>true) true n T.ql [v]=some y):∃l,o.pt w v l∧(Small Tryz.prog T.ql y.1→o.dY l.length 80∧∀x∈l,x.cX) :=
 uh (e:=T.g) 5 80 (by kernel_rfl) (by kernel_rfl) (by kernel_rfl) (fun a cs n y ax aP aL=>by
  obtain⟨x,⟨aj,fD,eD,rfl,h1,U⟩,a8⟩:=Y8 aL;exact⟨x,⟨aj,fD,eD,ax,h1,U⟩,a8⟩) h
theorem Za(h:DataW.trod enc Tryz.prog w 0 (fun _=>true) true n T.sj [v]=some y):∃l,o.xS w v l∧(Small Tryz.prog T.sj y.1→o.dY l.length 40∧∀x∈l,x.cX) :=
 uh (e:=T.Eh) 2 40 (by kernel_rfl) (by kernel_rfl) (by kernel_rfl) (fun a cs n y ax aP aL=>by
  obtain⟨aP,iU,ds,he,aN⟩:=sB (t:=T.Eh) rfl (by kernel_rfl) (by kernel_rfl) aL
  match cs,aP with
  | [bO,c1],_ =>
   obtain⟨_,_,dw,aj,_⟩:=aN 0 _ rfl;obtain⟨_,_,bP,h1,d1⟩:=aN 1 _ rfl;cases dw;cases bP;obtain⟨s,dw,_,ay⟩:=DataW.trod_string (by kernel_rfl) aj;cases dw;obtain⟨du,h1,g1⟩:=EV h1;exact⟨⟨s,du⟩,⟨ay,c1,ax,h1⟩,fun ay=>by rw[he] at ay;exact⟨(g1 (ay.field rfl rfl rfl d1)).1⟩⟩) h
theorem adA{r:Reach}{na:Nat}{v:Value}{d:DataW H}{p:List MemPlace}(s6:Value.okWide Tryz.prog w r na T.c v)(h:DataW.Trod enc Tryz.prog w 0 (fun _=>true) true T.c v d p)(ay:Small Tryz.prog T.c d) :
  ∃cs m,v = .agg cs.toArray∧o.er w cs m∧m.cX:=by
 obtain⟨cs,n,rfl,aL⟩:=adB (t:=T.c) rfl s6 h;obtain⟨aP,iU,ds,rfl,aN⟩:=sB (t:=T.c) rfl (by kernel_rfl) (by kernel_rfl) aL;obtain⟨cs⟩:=cs
 match cs,aP with
 | [bO,c1,c2,bN,bT],_ =>
  obtain⟨_,_,dw,aj,d0⟩:=aN 0 _ rfl;obtain⟨_,_,bP,h1,d1⟩:=aN 1 _ rfl;obtain⟨_,_,ba,U,d2⟩:=aN 2 _ rfl;obtain⟨_,_,bQ,ag,d3⟩:=aN 3 _ rfl;obtain⟨_,_,b3,aK,d4⟩:=aN 4 _ rfl;cases dw;cases bP;cases ba;cases bQ;cases b3;obtain⟨eG,gW,na⟩:=Zd aj;obtain⟨du,fr,bC⟩:=Qh h1;obtain⟨dF,fL,ca⟩:=Y2 U;obtain⟨dV,hp,b5⟩:=Y9 ag;obtain⟨eo,jS,cO⟩:=Za aK;have gO:=na (ay.field rfl rfl rfl d0);have ez:=bC (ay.field rfl rfl rfl d1);have gd:=ca (ay.field rfl rfl rfl d2);have iS:=b5 (ay.field rfl rfl rfl d3);have k3:=cO (ay.field rfl rfl rfl d4);exact⟨[bO,c1,c2,bN,bT],⟨eG,du,dF,dV,eo⟩,rfl,⟨⟨bO,c1,c2,bN,bT,rfl,gW,fr,fL,hp,jS⟩⟩,⟨gO.1,ez.1,gd.1,iS.1,k3.1,gO.2,ez.2,gd.2,iS.2,k3.2⟩⟩
end Go.Proofs.R
end
section
namespace Go.Proofs.R
open Go Go.RowKit bt Go.ChangeShapes Go.WideShapes Go.Deep
theorem ajQ{H:Type}{enc:TypeId×Value→H}{r:Reach}{na:Nat}{d0 d1 d2:DataW H}{hJ ff gf:List MemPlace}(v0 v1 v2:Value)(W:World)(a1:iu W)
  (gO:Value.okWide Tryz.prog W r na T.c v0)(aj:DataW.Trod enc Tryz.prog W 0 (fun _=>true) true T.c v0 d0 hJ)(iG:Small Tryz.prog T.c d0)
  (ez:Value.okWide Tryz.prog W r na T.b v1)(h1:DataW.Trod enc Tryz.prog W 0 (fun _=>true) true T.b v1 d1 ff)(_s1:Small Tryz.prog T.b d1)
  (gd:Value.okWide Tryz.prog W r na T.b v2)(U:DataW.Trod enc Tryz.prog W 0 (fun _=>true) true T.b v2 d2 gf)(_s2:Small Tryz.prog T.b d2) :
  bu Tryz.prog F.CQ #[v0,v1,v2] W fun v w'=>v = .bool true∧Ext W w':=by
 obtain⟨cs,m,rfl,hm,a8⟩:=adA gO aj iG;obtain⟨s,ay⟩:=Tk ez h1;obtain⟨t,aL⟩:=Tk gd U;exact acu cs v1 v2 m s t W hm a8 a1 ay aL
end Go.Proofs.R
end
section
namespace bt
open Go Go.RowKit Go.ChangeShapes
theorem aiX{P:Program}{f:FuncId}{fn:Func}{s:ChangeSpec}{c:OpenClaim}(h1:(c.wf (OpenSpec.ofChange s)&&laidOutB P&&mapsRowed P)=true)
  (U:(fn.params.all (P.readableRec ·)&&namedTie P c.named s.vars)=true)(ag:((c.stops == [])&&(P.stops == [])&&(c.knobs == [])&&(P.stopKnobs == []))=true)
  (aK:(c.inPlace == P.inPlace f)=true)(bc:(c.unfollowed == P.unfollowed f)=true)(bD:(c.recurses == P.recurses f)=true)(b6:(c.named == P.varsNamed f)=true)
  (dD:((c.maps == (fn.params.toList++s.plain.varTypes P).any (P.mapsRec ·))&&(c.ifaces == (fn.params.toList++s.plain.varTypes P).any (P.ifacesRec ·))&&(c.mapsOut == P.mapsAmong fn.resultTypes.toList))=true)
  (hS:((c.loops == (fn.params.toList++s.plain.varTypes P).any (P.loopsFrom ·))&&(c.wideKeys == (fn.params.toList++s.plain.varTypes P++fn.resultTypes.toList).any (P.wideKeysFrom ·)))=true)
  (jg:(s.vars.all (P.varReadable ·)&&fn.resultTypes.all (fun t=>P.readableRec t&&decide (t<P.types.size))&&(c.ifacesOut == fn.resultTypes.toList.any (P.ifacesRec ·))&&(c.loopsOut == fn.resultTypes.toList.any (P.loopsFrom ·)))=true)
  (EW:(c.plainKeys == P.plainKeys)=true)(pG:(c.shortTexts.isNone&&P.stopsHeard)=true)(A9:P.mayEnter=true)
  (EX:((c.lifted == P.liftsFinal)&&(P.make == some c.make))=true)
  (kW:((c.kinds == (if c.domain.isEmpty then [] else fn.params.toList.map fun t=>match P.underlying t with | some (.int k)=>some k | _=>none))&&(c.pinned == c.pinnedBy))=true)
  (l2:((c.veiled == (fn.params.toList++s.plain.varTypes P++fn.resultTypes.toList).any (P.veiledRec ·))&&c.veiledFits P fn.params.toList (fn.params.toList++s.plain.varTypes P++fn.resultTypes.toList))=true) :
  joinedFacts P f fn s c=true:=by
 simp only[Bool.and_eq_true] at h1 U ag dD hS jg pG EX kW l2;unfold joinedFacts;simp only[Bool.and_eq_true];obtain⟨⟨dy,a2⟩,a3⟩:=h1;obtain⟨bC,ca⟩:=U;obtain⟨⟨⟨d1,d2⟩,d3⟩,d4⟩:=ag;obtain⟨⟨bP,ba⟩,bQ⟩:=dD;obtain⟨f1,f2⟩:=hS;obtain⟨⟨⟨g1,g2⟩,g3⟩,g4⟩:=jg;obtain⟨i1,i2⟩:=pG;obtain⟨nt,pO⟩:=EX;obtain⟨ez,gd⟩:=kW;obtain⟨du,dF⟩:=l2;exact⟨⟨⟨⟨⟨⟨⟨⟨⟨⟨⟨⟨⟨⟨⟨⟨⟨⟨⟨⟨⟨⟨⟨⟨⟨⟨⟨⟨⟨⟨⟨dy,a2⟩,a3⟩,bC⟩,ca⟩,d1⟩,d2⟩,d3⟩,d4⟩,aK⟩,bc⟩,bD⟩,b6⟩,bP⟩,ba⟩,bQ⟩,f1⟩,f2⟩,g1⟩,g2⟩,g3⟩,g4⟩,EW⟩,i1⟩,i2⟩,A9⟩,nt⟩,pO⟩,ez⟩,gd⟩,du⟩,dF⟩
end bt
end