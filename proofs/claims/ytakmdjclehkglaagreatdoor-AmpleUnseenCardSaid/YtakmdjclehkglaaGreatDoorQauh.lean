/- Parts. -/
import Derived.Test.YtakmdjclehkglaaGreatDoorQaug
import Derived.RangeFuncWrites
set_option linter.all false
set_option maxRecDepth 100000
set_option maxHeartbeats 6400000
section
namespace o
structure uZ(m:Model):Prop where
 v:m.vars.length<=1000000
 c:m.aw.length<=1000000
 p:m.procs.length<=1000000
 i:∀p∈m.procs,p.vars.length<=1000000/\p.cL.length<=1000000
def c1(m:Model)(k:Nat):Int:=iK ((m.vars.take k).map fun v=>cells v m.scalars)
def c2(m:Model)(k:Nat):Int:=iK ((m.aw.take k).map qA)
def i1(m:Model)(k:Nat):Int:=iK ((m.procs.take k).map (kU m))
def i2(m:Model)(k:Nat):Int:=iK ((m.procs.take k).map fun p=>kU m p*p.cL.length)
def i3(m:Model)(k:Nat):Int:=iK ((m.procs.take k).map fun p=>kU m p*(1+p.vars.length))
theorem ZS{α:Type}{l:C_ α}{k:Nat}{x:α}(h:x∈l.take k):x∈l:=List.mem_of_mem_take h
theorem A2{m:Model}(h:uZ m)(k:Nat):0<=c1 m k/\c1 m k<=4000000:=by
 have:=FJ (fun v=>cells v m.scalars) 4 (by decide) (m.vars.take k) fun v _=>sH v _
 have h1:=h.v;have I:(m.vars.take k).length<=m.vars.length:=by simp;omega
 unfold c1;omega
theorem GP{m:Model}(h:uZ m)(k:Nat):0<=c2 m k/\c2 m k<=5000000:=by
 have:=FJ qA 5 (by decide) (m.aw.take k) fun c _=>by have:=L9 c;omega
 have h1:=h.c;have I:(m.aw.take k).length<=m.aw.length:=by simp;omega
 unfold c2;omega
theorem YF{m:Model}(h:uZ m)(k:Nat):0<=i1 m k/\i1 m k<=4000000:=by
 have:=FJ (kU m) 4 (by decide) (m.procs.take k) fun p _=>Fm m p
 have h1:=h.p;have I:(m.procs.take k).length<=m.procs.length:=by simp;omega
 unfold i1;omega
theorem B5{a b:Int}(aV:0<=a/\a<=4)(ak:0<=b/\b<=1000001):0<=a*b/\a*b<=4000004:=by
 have:a=0\/a=1\/a=2\/a=3\/a=4:=by omega
 rcases this with rfl | rfl | rfl | rfl | rfl<;>omega
theorem YH{m:Model}(h:uZ m)(k:Nat):0<=i2 m k/\i2 m k<=4000004000000:=by
 have:=FJ (fun p=>kU m p*p.cL.length) 4000004 (by decide) (m.procs.take k) fun p ar=>B5 (Fm m p) (by have:=(h.i p (ZS ar)).2;omega)
 have h1:=h.p;have I:(m.procs.take k).length<=m.procs.length:=by simp;omega
 unfold i2;omega
theorem YJ{m:Model}(h:uZ m)(k:Nat):0<=i3 m k/\i3 m k<=4000004000000:=by
 have:=FJ (fun p=>kU m p*(1+p.vars.length)) 4000004 (by decide) (m.procs.take k) fun p ar=>B5 (Fm m p) (by have:=(h.i p (ZS ar)).1;omega)
 have h1:=h.p;have I:(m.procs.take k).length<=m.procs.length:=by simp;omega
 unfold i3;omega
theorem UW{m:Model}{k:Nat}(h:k<m.vars.length):c1 m (k+1)=c1 m k+cells m.vars[k] m.scalars:=FK _ _ h
theorem UX{m:Model}{k:Nat}(h:k<m.aw.length):c2 m (k+1)=c2 m k+qA m.aw[k]:=FK _ _ h
theorem YG{m:Model}{k:Nat}(h:k<m.procs.length):i1 m (k+1)=i1 m k+kU m m.procs[k]:=FK _ _ h
theorem YI{m:Model}{k:Nat}(h:k<m.procs.length):i2 m (k+1)=i2 m k+kU m m.procs[k]*m.procs[k].cL.length:=FK _ _ h
theorem YK{m:Model}{k:Nat}(h:k<m.procs.length):i3 m (k+1)=i3 m k+kU m m.procs[k]*(1+m.procs[k].vars.length):=FK _ _ h
theorem aao(m:Model){a b c:Nat}(aV:m.vars.length<=a)(ak:m.aw.length<=b)(ah:m.procs.length<=c):pieces m=(i1 m c,i2 m c,c1 m a+c2 m b+i3 m c):=by
 unfold pieces i1 i2 i3 c1 c2;rw[List.take_of_length_le aV,List.take_of_length_le ak,List.take_of_length_le ah]
end o
namespace Go.Proofs.R
open Go Go.RowKit bb
theorem anE(cs:C_ B_)(m:o.Model)(w:A_)(h:o.dV w cs m)(ax:o.uZ m) :
  a7 Tryz.prog F.Hb #[.agg cs.toArray] w fun v w'=>v = .tuple #[.int .i64 (o.pieces m).1,.int .i64 (o.pieces m).2.1,.int .i64 (o.pieces m).2.2]/\Ext w w':=by
 obtain⟨cd,bw,bO,c1,bV,c2,b2,br,cj,bF,rfl,af,h1,I,ab,aD,eU,ek,ev,ef,ew⟩:=h.form;refine bn E.Hb ?_;refine J ?_;intro w1 bo cT al ai;have ub:=ai;clear ai;refine J ?_;refine L_ 18 m.vars.length [1,5,6,16,17] (fun s:Int=>[(7,.int .i64 s)]) 0 (fun k s w'=>Ext w1 w'/\s=o.c1 m k) bc bc ⟨Ext.refl _,by simp[o.c1,o.iK]⟩ ?_;rintro k _ S aH hk ⟨ao,rfl⟩;have ai:=ao.obj ub;have c7:∀{w'},Ext aH w'->Ext w w':=fun e=>(al.trans ao).trans e;refine J ?_;apply I_<;>intro g1
 .have aZ:k<m.vars.length:=by omega
  obtain⟨a,rfl⟩:=h1.addr;have eo:=((h1.at k aZ).cells).ext (c7 (Ext.refl _));refine J ?_;intro aP b0 fW aj bu;replace ai:=aj.obj ai;refine J ?_;refine J_ (A7 m.vars[k] _ m.scalars aP (af.ext (c7 aj))) ?_;rintro _ aR ⟨rfl,aA⟩;have cV:=o.A2 ax k;have dq:=o.sH m.vars[k] m.scalars;refine J ?_;exact⟨aZ,aU,_,bc,(ao.trans aj).trans aA,(o.UW aZ).symm⟩
 have lK:m.vars.length<=k:=by omega
 refine J ?_;refine L_ 32 m.aw.length [1,5,6,30,31] (fun s:Int=>[(7,.int .i64 s)]) (o.c1 m k) (fun j s w'=>Ext w1 w'/\s=o.c1 m k+o.c2 m j) bc bc ⟨ao,by simp[o.c2,o.iK]⟩ ?_;clear ai c7;rintro j _ aX aP aE ⟨aj,rfl⟩;have ai:=aj.obj ub;have fv:∀{w'},Ext aP w'->Ext w w':=fun e=>(al.trans aj).trans e;refine J ?_;apply I_<;>intro g2
 .have et:j<m.aw.length:=by omega
  obtain⟨a,rfl⟩:=I.addr;have eo:=((I.at j et).cells).ext (fv (Ext.refl _));refine J ?_;intro aR b0 fW aA bu;have cV:=o.A2 ax k;have dq:=o.GP ax j;have dU:=o.L9 m.aw[j];unfold o.qA at dU;refine J ?_;exact⟨et,aU,_,bc,aj.trans aA,by rw[o.UX et];unfold o.qA;omega⟩
 have N9:m.aw.length<=j:=by omega
 refine J ?_;refine L_ 47 m.procs.length [1,45,46] (fun s:Int×Int×Int=>[(5,.int .i64 s.1),(6,.int .i64 s.2.1),(7,.int .i64 s.2.2)]) (0,0,o.c1 m k+o.c2 m j)
  (fun i s w'=>Ext w1 w'/\s=(o.i1 m i,o.i2 m i,o.c1 m k+o.c2 m j+o.i3 m i)) bc bc ⟨aj,by simp[o.i1,o.i2,o.i3,o.iK]⟩ ?_
 clear ai fv;rintro i _ fE aR U ⟨aA,rfl⟩;have ai:=aA.obj ub;have eA:∀{w'},Ext aR w'->Ext w w':=fun e=>(al.trans aA).trans e;refine J ?_;apply I_<;>intro g3
 .have cE:i<m.procs.length:=by omega
  obtain⟨a,rfl⟩:=ab.addr;obtain⟨_,b7,ec,ar,e2,dD⟩:=ab.at i cE;obtain⟨e4,fL,rfl,fH⟩:=e2.form;obtain⟨ob,k5,rfl,lc⟩:=dD.form;replace ar:=ar.ext (eA (Ext.refl _));have NY:=ax.i _ (List.getElem_mem cE);refine J ?_;intro bq b0 fW aJ bu;replace ai:=aJ.obj ai;refine J ?_;refine J_ (A7 ⟨⟨#[]⟩,0,m.procs[i].over,0,0,0⟩ _ m.scalars bq (af.ext (eA aJ))) ?_;rintro _ bB ⟨rfl,aT⟩;have ajX:o.cells ⟨⟨#[]⟩,0,m.procs[i].over,0,0,0⟩ m.scalars=o.kU m m.procs[i]:=rfl;rw[ajX];replace bu:=aT.obj bu;have cV:=o.A2 ax k;have dq:=o.GP ax j;have dU:=o.YF ax i;have hy:=o.YH ax i;have r6:=o.YJ ax i;have uG:=o.Fm m m.procs[i];have Qf:=o.B5 uG (b:=m.procs[i].cL.length) (by omega);have Cc:=o.B5 uG (b:=1+m.procs[i].vars.length) (by omega);refine J ?_;exact⟨cE,aU,(_,_,_),(by first | exact⟨rfl,rfl,rfl,trivial⟩ | exact⟨rfl,rfl,trivial⟩ | (simp -dsimp only[c0,wF,wE,wc,wb,vB,vA,Nat.reduceAdd,Nat.reduceEqDiff,reduceIte,and_self];exact⟨rfl,rfl,rfl,trivial⟩) | (simp -dsimp only[c0,wF,wE,wc,wb,vB,vA,Nat.reduceAdd,Nat.reduceEqDiff,reduceIte,and_self];exact⟨rfl,rfl,trivial⟩)),(aA.trans aJ).trans aT,by rw[o.YG cE,o.YI cE,o.YK cE];exact Prod.ext rfl (Prod.ext rfl (Int.add_assoc _ _ _))⟩
 have pg:m.procs.length<=i:=by omega
 refine J ?_;exact⟨by rw[o.aao m lK N9 pg],eA (Ext.refl _)⟩
theorem akV(cs:C_ B_)(m:o.Model)(p:o.dz)(b7 ec:B_)(w:A_)(h:o.dV w cs m) :
  a7 Tryz.prog F.JY #[.agg cs.toArray,.agg (p.enc b7 ec).toArray] w fun v w'=>v = .int .i64 (o.kU m p)/\Ext w w':=by
 obtain⟨cd,bw,bO,c1,bV,c2,b2,br,cj,bF,rfl,af,_⟩:=h.form;refine bn E.JY ?_;refine J ?_;intro w1 bo cT al ai;refine J ?_;intro aH bR dt ao av;refine J ?_;refine I_ (fun g=>?_) (fun g=>?_)
 .refine J ?_;exact⟨by rw[o.kU,if_pos g],al.trans ao⟩
 refine J ?_;refine J_ (Ce p.over _ m.scalars aH (af.ext (al.trans ao))) ?_;rintro _ _ ⟨rfl,rfl⟩;refine J ?_;exact⟨by rw[o.kU,if_neg g],al.trans ao⟩
theorem aoA(cs:C_ B_)(m:o.Model)(w:A_)(h:o.dV w cs m)(ax:o.uZ m) :
  a7 Tryz.prog F.JZ #[.agg cs.toArray] w fun v w'=>v = .tuple #[.int .i64 (o.pieces m).1,.int .i64 (o.pieces m).2.1,.int .i64 (o.pieces m).2.2]/\Ext w w':=by
 have a1:=h;obtain⟨cd,bw,bO,c1,bV,c2,b2,br,cj,bF,rfl,af,h1,I,ab,aD,eU,ek,ev,ef,ew⟩:=h.form;refine bn E.JZ ?_;refine J ?_;intro w1 bo cT al ai;have ub:=ai;clear ai;refine J ?_;refine L_ 8 m.vars.length [1,5,6] (fun s:Int=>[(7,.int .i64 s)]) 0 (fun k s w'=>Ext w1 w'/\s=o.c1 m k) bc bc ⟨Ext.refl _,by simp[o.c1,o.iK]⟩ ?_;rintro k _ S aH hk ⟨ao,rfl⟩;have ai:=ao.obj ub;have c7:∀{w'},Ext aH w'->Ext w w':=fun e=>(al.trans ao).trans e;refine J ?_;apply I_<;>intro g1
 .have aZ:k<m.vars.length:=by omega
  obtain⟨a,rfl⟩:=h1.addr;have eo:=((h1.at k aZ).cells).ext (c7 (Ext.refl _));have cV:=o.A2 ax k;have dq:=o.sH m.vars[k] m.scalars;refine J ?_;refine P_ (.int .i64 (o.cells m.vars[k] m.scalars)) (fun w' e=>Qr m.vars[k] _ m.scalars w' (af.ext (c7 e))) ?_;refine J ?_;intro aR aA;refine J ?_;exact⟨aZ,aU,_,bc,ao.trans aA,(o.UW aZ).symm⟩
 have lK:m.vars.length<=k:=by omega
 refine J ?_;refine L_ 9 m.aw.length [1,5,6] (fun s:Int=>[(7,.int .i64 s)]) (o.c1 m k) (fun j s w'=>Ext w1 w'/\s=o.c1 m k+o.c2 m j) bc bc ⟨ao,by simp[o.c2,o.iK]⟩ ?_;clear ai c7;rintro j _ aX aP aE ⟨aj,rfl⟩;have ai:=aj.obj ub;have fv:∀{w'},Ext aP w'->Ext w w':=fun e=>(al.trans aj).trans e;refine J ?_;apply I_<;>intro g2
 .have et:j<m.aw.length:=by omega
  obtain⟨a,rfl⟩:=I.addr;have eo:=((I.at j et).cells).ext (fv (Ext.refl _));have cV:=o.A2 ax k;have dq:=o.GP ax j;have dU:=o.L9 m.aw[j];unfold o.qA at dU;refine J ?_;exact⟨et,aU,_,bc,aj,by rw[o.UX et];unfold o.qA;omega⟩
 have N9:m.aw.length<=j:=by omega
 refine J ?_;refine L_ 10 m.procs.length [1] (fun s:Int×Int×Int=>[(5,.int .i64 s.1),(6,.int .i64 s.2.1),(7,.int .i64 s.2.2)]) (0,0,o.c1 m k+o.c2 m j)
  (fun i s w'=>Ext w1 w'/\s=(o.i1 m i,o.i2 m i,o.c1 m k+o.c2 m j+o.i3 m i)) bc bc ⟨aj,by simp[o.i1,o.i2,o.i3,o.iK]⟩ ?_
 clear ai fv;rintro i _ fE aR U ⟨aA,rfl⟩;have ai:=aA.obj ub;have eA:∀{w'},Ext aR w'->Ext w w':=fun e=>(al.trans aA).trans e;refine J ?_;apply I_<;>intro g3
 .have cE:i<m.procs.length:=by omega
  obtain⟨a,rfl⟩:=ab.addr;obtain⟨_,b7,ec,ar,e2,dD⟩:=ab.at i cE;obtain⟨e4,fL,rfl,fH⟩:=e2.form;obtain⟨ob,k5,rfl,lc⟩:=dD.form;replace ar:=ar.ext (eA (Ext.refl _));have NY:=ax.i _ (List.getElem_mem cE);refine J ?_;refine P_ (.int .i64 (o.kU m m.procs[i])) (fun w' e=>akV _ m m.procs[i] _ _ w' (a1.ext (eA e))) ?_;refine J ?_;intro bB aT;replace ai:=aT.obj ai;replace ar:=ar.ext aT;have cV:=o.A2 ax k;have dq:=o.GP ax j;have dU:=o.YF ax i;have hy:=o.YH ax i;have r6:=o.YJ ax i;have uG:=o.Fm m m.procs[i];have Qf:=o.B5 uG (b:=m.procs[i].cL.length) (by omega);have Cc:=o.B5 uG (b:=1+m.procs[i].vars.length) (by omega);refine J ?_;exact⟨cE,aU,(_,_,_),(by first | exact⟨rfl,rfl,rfl,trivial⟩ | exact⟨rfl,rfl,trivial⟩ | (simp -dsimp only[c0,wF,wE,wc,wb,vB,vA,Nat.reduceAdd,Nat.reduceEqDiff,reduceIte,and_self];exact⟨rfl,rfl,rfl,trivial⟩) | (simp -dsimp only[c0,wF,wE,wc,wb,vB,vA,Nat.reduceAdd,Nat.reduceEqDiff,reduceIte,and_self];exact⟨rfl,rfl,trivial⟩)),aA.trans aT,by rw[o.YG cE,o.YI cE,o.YK cE];exact Prod.ext rfl (Prod.ext rfl (Int.add_assoc _ _ _))⟩
 have pg:m.procs.length<=i:=by omega
 refine J ?_;exact⟨by rw[o.aao m lK N9 pg],eA (Ext.refl _)⟩
end Go.Proofs.R
end
section
namespace o
structure aro(m:Model):Prop where
 s:m.scalars.length<=10
 v:m.vars.length<=30
 c:m.aw.length<=20
 p:m.procs.length<=20
 q:m.props.length<=20
 i:∀p∈m.procs,p.vars.length<=20/\p.cL.length<=30/\∀c∈p.cL,c.bY.length<=20/\c.guard.length<=60
end o
end
section
namespace bb
open Go Go.RowKit
inductive sm where
 | ts (g:Operand) (p:Nat) (a b:eC)
 | tu (x:sm) (y:eC)
 | iJ (x:eC) (y:sm)
 | cu (id:Nat) (x:sm)
def nc(P:D_)(n:Nat):Code->H_ sm
 | .rangeFunc g da a b=>match da.toList,comp P n a,comp P n b with
  | [p],some p9,some hJ=>if p<n then some (.ts g p p9 hJ) else none
  | _,_,_=>none
 | .seq x y=>match comp P n x with
  | some x8=>(nc P n y).map (.iJ x8)
  | none=>match nc P n x,comp P n y with
   | some rx,some wm=>some (.tu rx wm)
   | _,_=>none
 | .block id x=>(nc P n x).map (.cu id)
 | _=>none
structure yL where
 n:Nat
 res:List mr
 code:sm
def y0(P:D_)(f:E_):H_ yL :=
 match P.funcs[f]? with
 | some fn=>match fn.body with
  | some c=>match nc P fn.ntmps c,xp P fn.results.toList with
   | some lc,some r=>some ⟨fn.ntmps,r,lc⟩
   | _,_=>none
  | none=>none
 | none=>none
structure CR(ij:World->World->Prop)(B:Nat):Prop where
 trans:∀{a b c:World},ij a b->ij b c->ij a c
 put:∀(W:World) (l:Nat) (ad o':Obj),B<=l->W.heap[l]? = some ad->ad.isCells=false->ij W (W.putObj l o')
def mn(hK:Nat)(cz:C_ F_)(W b6:A_):Prop:=Below hK W b6/\∀(k:Nat) (c:Array B_) (t:F_) (f:Nat×Nat),W.heap[k]? = some (.cells c t f)->t∈cz->b6.heap[k]? = W.heap[k]?
theorem mn.ok{hK B:Nat}(cz:C_ F_)(h:hK<=B):CR (mn hK cz) B where
 trans h k:=⟨h.1.trans k.1,fun i c t f U aB=>by rw[<-h.2 i c t f U aB];exact k.2 i c t f ((h.2 i c t f U aB).trans U) aB⟩
 put W l ad o' aF aM ah:=⟨(Below.refl hK W).grown (grownBy_putObj' W l o') (by have:=(Array.getElem?_eq_some_iff.1 aM).1;omega) (fun k e=>by cases e;omega),fun k c t f hk _=>by
  have cw:l≠k:=fun e=>by subst e;rw[aM] at hk;injection hk with hk;subst hk;cases ah
  exact World.putObj_heap_other (Ne.symm cw)⟩
theorem Ext.ib{hK:Nat}{cz:C_ F_}{W b6:A_}(h:Ext W b6)(ay:hK<=W.heap.size):mn hK cz W b6:=⟨Below.mono h ay,fun k c t f hk _=>h.heap (cy hk)⟩
def aoQ{α:Type}(ij:A_->A_->Prop)(B:Nat)(c5:C_ α->A_->Prop)(qm:ed->C_ α->A_->Prop)(xs:C_ α)(W:A_):ed->Fr->A_->Prop
 | .normal,_,b6=>KeepsFrom B W b6/\ij W b6/\c5 xs b6
 | .gf _,_,_=>False
 | e,_,b6=>KeepsFrom B W b6/\qm e xs b6
def tE(B:Nat)(W b6:A_):Prop := ∃l,B<=l/\(∃ad,W.heap[l]? = some ad/\ad.isCells=false)/\W.grownBy b6 (some l)
def acX(P:D_)(g:B_)(p:Nat)(a b:eC)(Q:Nat->ed->Fr->A_->Prop)(S:Fr)(w:A_):Prop :=
 ∃(α:Type) (enc:α->B_) (jz:Nat) (hJ:Array B_) (ij:A_->A_->Prop) (nL pJ:C_ α->Prop) (N:Nat) (w0:A_),g = .func (.func jz) #[] hJ/\okF P jz=true/\SeqStopsK Fence.wide 0 P jz hJ (fun x=>#[enc x]) ij nL pJ N w0/\Ext w0 w/\CR ij w.heap.size /\
 ∃(c5:C_ α->A_->Prop) (qm:ed->C_ α->A_->Prop),OwnFrom w.heap.size c5/\(∀e,OwnFrom w.heap.size (qm e))/\c5 [] w /\
  (∀pre x W,c5 pre W->pre.length<N->ec P a (uO (fun tF iy=>KeepsFrom w.heap.size W iy/\ij W iy/\∀eP,tE w.heap.size iy eP->ec P b (aoQ ij w.heap.size c5 qm (pre++[x]) eP) tF eP) (fun _ _ _=>False)) (bW S p (enc x)) W) /\
  (∀D xs W,w.heap.size<=D->nL xs->c5 xs W->W.heap[D]? = some (.deferred (some []))->Q D .normal S W) /\
  (∀D e pre W,e≠.normal->w.heap.size<=D->pJ pre->qm e pre W->W.heap[D]? = some (.deferred (some []))->Q D e S W)
theorem aoS{α:Type}{enc:α->B_}{P:D_}{g:G_}{p:Nat}{AU body:Code}{Q:Exit->Act->A_->Prop}{a:Act}{w w0:A_}{jz:Nat}{hJ:Array B_}{ij:A_->A_->Prop}{N:Nat}{nL pJ:C_ α->Prop}
  (aK:a.eval g = .func (.func jz) #[] hJ)(di:okF P jz=true)(s0:SeqStopsK Fence.wide 0 P jz hJ (fun x=>#[enc x]) ij nL pJ N w0)(he:Ext w0 w)(sQ:CR ij w.heap.size)
  (c5:C_ α->A_->Prop)(qm:Code->C_ α->A_->Prop)(a8:OwnFrom w.heap.size c5)(xC:∀c,OwnFrom w.heap.size (qm c))(af:c5 [] w)
  (ED:∀l pre x W,c5 pre W->pre.length<N->AU.wpIn (nG (some l)) 1 P (Exit.then (fun df iy=>KeepsFrom w.heap.size W iy/\ij W iy /\
   ∀eP,tE w.heap.size iy eP->body.wpIn (nG (some l)) 1 P (ownPostG w.heap.size ij c5 qm (pre++[x]) eP) df eP) (fun _ _ _=>False)) { tmps:=a.tmps.setIfInBounds p (enc x),defers:=[] } W)
  (zp:∀D xs W,w.heap.size<=D->nL xs->c5 xs W->W.heap[D]? = some (.deferred (some []))->Q .normal { a with defers:={ target:=.collected D,args:=#[] } :: a.defers } W)
  (I1:∀D c pre W,w.heap.size<=D->pJ pre->qm c pre W->W.heap[D]? = some (.deferred (some []))->c.wpIn Fence.wide 3 P Q { a with defers:={ target:=.collected D,args:=#[] } :: a.defers } W) :
  (Code.rangeFunc g #[p] AU body).wpIn Fence.wide 3 P Q a w:=by
 refine wpIn_rangeFunc fun fn kO=>?_;obtain⟨n4,uf⟩:∃n4:LoopState->H_ Code->Loop,n4=fun st P4=>{ state:=st,pending:=P4,fn,tmps:=a.tmps,params:=#[p],assign:=AU,body,defers:=w.heap.size }:=⟨_,rfl⟩;obtain⟨w1,ht⟩:∃w1,(w.alloc (.deferred (some []))).alloc (.loop (n4 .ready none))=w1:=⟨_,rfl⟩;have Jc:w1.heap.size=w.heap.size+2:=by rw[<-ht];simp
 have mE:w1.heap[w.heap.size+1]? = some (.loop (n4 .ready none)):=by
  rw[<-ht]
  have:=World.alloc_heap_new (w.alloc (.deferred (some []))) (.loop (n4 .ready none))
  rwa[World.size_alloc] at this
 have zo:w1.heap[w.heap.size]? = some (.deferred (some [])):=by rw[<-ht];exact(Below.heap_alloc _ _ _ (by simp)).trans (World.alloc_heap_new w _)
 have IG:c5 [] w1:=by rw[<-ht];exact a8.alloc _ (a8.alloc _ af)
 have cT:Below w0.heap.size w0 w1:=by rw[<-ht];exact(he.alloc _).alloc _
 have low:∀{A B:A_} {row:H_ Nat},(∀r,row=some r->w1.heap.size<=r/\∃ad:Obj,A.heap[r]? = some ad/\ad.isWalk=true)->(∀r,row=some r->w.heap.size<=r/\∃ad:Obj,A.heap[r]? = some ad/\ad.isCells=false) :=
  fun aL r e=>by obtain⟨I,ad,aM,hw⟩:=aL r e;exact⟨by omega,ad,aM,Obj.not_cells_of_walk hw⟩
 refine⟨w.heap.size+1,[{ target:=.collected w.heap.size,args:=#[] }],w1,{ target:=.fn (.func jz) hJ,args:=#[.func (.yield (w.heap.size+1)) #[] #[]] },w1,jz,
  #[.func (.yield (w.heap.size+1)) #[] #[]]++hJ,w1,?_,?_,fun _ _=>trivial,?_,fun _=>by decide,?_⟩
 .rw[<-ht,uf];exact run_enterLoop_outer _ _ _ _ _
 .simp only[resolve,aK];simp[go_sem]
 .simp[invoke,go_sem,Cl di]
 refine CallsIn.mono (L7 (r:=none) (callsIn_wide.1 (s0 (w.heap.size+1)
  (fun pre W=>c5 pre W/\W.heap[w.heap.size+1]? = some (.loop (n4 .ready none))/\W.heap[w.heap.size]? = some (.deferred (some [])))
  (fun pre W => ∃c,qm c pre W/\W.heap[w.heap.size+1]? = some (.loop (n4 .done (some c)))/\W.heap[w.heap.size]? = some (.deferred (some [])))
  w1 cT ?_ ?_ ?_ ⟨IG,mE,zo⟩))) ?_
 .exact fun s A B row an qN aL=>⟨a8 s A B row an.1 qN (low (B:=B) aL),(grownBy_keeps qN (fun r e=>(aL r e).2) an.2.1 rfl).trans an.2.1,(grownBy_keeps qN (fun r e=>(aL r e).2) an.2.2 rfl).trans an.2.2⟩
 .intro s A B row an qN aL;obtain⟨c,ah,I,ab⟩:=an;exact⟨c,xC c s A B row ah qN (low (B:=B) aL),(grownBy_keeps qN (fun r e=>(aL r e).2) I rfl).trans I,(grownBy_keeps qN (fun r e=>(aL r e).2) ab rfl).trans ab⟩
 .rintro pre x W ⟨U,I,ab⟩ hlen;have bS:=run_yield (P:=P) (args:=#[enc x]) I (by rw[uf];rfl);rw[uf] at bS;refine⟨fn,_,AU,body,bS,aa1 (r:=none) (m:=0 - 1) ?_⟩;refine(roundIn_of_wpIn (F:=Fence.wide) (n:=1) (l:=w.heap.size+1) kO ?_) |> fun h=>⟨trivial,fun c cs _=>h.2 c cs (room_wide _)⟩
  have bA:(#[p]:Array Tmp).zip #[enc x]=#[(p,enc x)]:=by apply Array.ext';simp[Array.toList_zip]
  have ahZ:=ED (w.heap.size+1) pre x W U hlen;simp only[bA];refine wpIn_mono ahZ fun e df iy h=>?_;cases e with
  | normal =>
   obtain⟨cC,cS,eT⟩:=h;have eb:=cC.same _ _ (by omega) I rfl;have d1:=cC.same _ _ (Nat.le_refl _) ab rfl;refine⟨_,run_beginRound eb (by rw[uf]),?_⟩;have ch:=(Array.getElem?_eq_some_iff.1 eb).1;have dG:(iy.putObj (w.heap.size+1) (.loop { n4 .ready none with state:=.busy })).heap[w.heap.size+1]? = some (.loop { n4 .ready none with state:=.busy }):=World.putObj_heap_same ch;have d2:(iy.putObj (w.heap.size+1) (.loop { n4 .ready none with state:=.busy })).heap[w.heap.size]? = some (.deferred (some [])):=(World.putObj_heap_other (by omega)).trans d1;have bR:ij iy (iy.putObj (w.heap.size+1) (.loop { n4 .ready none with state:=.busy })):=sQ.put _ _ _ _ (by omega) eb rfl;refine wpIn_mono (eT _ ⟨_,by omega,⟨_,eb,rfl⟩,grownBy_putObj' _ _ _⟩) fun e a3 nN ar=>?_;have fin:∀(jump:H_ Code),KeepsFrom w.heap.size (iy.putObj (w.heap.size+1) (.loop { n4 .ready none with state:=.busy })) nN ->
     (Instr.endRound (w.heap.size+1) jump).run P nN = .ok (.bool jump.isNone) (nN.putObj (w.heap.size+1) (.loop (n4 (if jump.isNone then .ready else .done) jump))) /\
     nN.heap[w.heap.size+1]? = some (.loop { n4 .ready none with state:=.busy }) /\
     (nN.putObj (w.heap.size+1) (.loop (n4 (if jump.isNone then .ready else .done) jump))).heap[w.heap.size+1]? = some (.loop (n4 (if jump.isNone then .ready else .done) jump)) /\
     (nN.putObj (w.heap.size+1) (.loop (n4 (if jump.isNone then .ready else .done) jump))).heap[w.heap.size]? = some (.deferred (some [])):=fun jump hI=>by
    have fg:=hI.same _ _ (by omega) dG rfl
    have:=run_endRound (P:=P) jump fg
    rw[uf] at this ⊢;exact⟨this,by rw[uf] at fg;exact fg,World.putObj_heap_same (Array.getElem?_eq_some_iff.1 fg).1,(World.putObj_heap_other (by omega)).trans (hI.same _ _ (Nat.le_refl _) d2 rfl)⟩
   cases e with
   | normal =>
    obtain⟨cV,dq,dU⟩:=ar;obtain⟨f1,f2,f3,f4⟩:=fin none cV;exact⟨_,_,f1,.inl ⟨rfl,⟨a8.putObj _ dU (by omega) f2 rfl,f3,f4⟩,sQ.trans (sQ.trans (sQ.trans cS bR) dq) (sQ.put _ _ _ _ (by omega) f2 rfl)⟩⟩
   | ret =>
    obtain⟨cV,dU⟩:=ar;obtain⟨f1,f2,f3,f4⟩:=fin (some .ret) cV;exact⟨_,_,f1,.inr ⟨rfl,.ret,(xC _).putObj _ dU (by omega) f2 rfl,f3,f4⟩⟩
   | exit id =>
    obtain⟨cV,dU⟩:=ar;obtain⟨f1,f2,f3,f4⟩:=fin (some (.exit id)) cV;exact⟨_,_,f1,.inr ⟨rfl,.exit id,(xC _).putObj _ dU (by omega) f2 rfl,f3,f4⟩⟩
   | goto t =>
    obtain⟨cV,dU⟩:=ar;obtain⟨f1,f2,f3,f4⟩:=fin (some (.goto t)) cV;exact⟨_,_,f1,.inr ⟨rfl,.goto t,(xC _).putObj _ dU (by omega) f2 rfl,f3,f4⟩⟩
   | _=>exact ar.elim
  | _=>exact h.elim
 .rintro e eP ⟨⟨v,rfl⟩,(⟨xs,bZ,U,I,ab⟩ | ⟨pre,ahR,c,U,I,ab⟩)⟩
  .exact⟨none,_,by have:=run_endLoop (P:=P) I (by rw[uf];simp);rw[uf] at this;exact this,zp _ xs _ (Nat.le_refl _) bZ (a8.putObj _ U (by omega) I rfl) ((World.putObj_heap_other (by omega)).trans ab)⟩
  .exact⟨some c,_,by have:=run_endLoop (P:=P) I (by rw[uf];simp);rw[uf] at this;exact this,I1 _ c pre _ (Nat.le_refl _) ahR ((xC c).putObj _ U (by omega) I rfl) ((World.putObj_heap_other (by omega)).trans ab)⟩
def oe(P:D_):sm->(H_ Nat->ed->Fr->A_->Prop)->Fr->A_->Prop
 | .ts g p a b,Q,S,w=>acX P (aS S g) p a b (fun D=>Q (some D)) S w
 | .tu x y,Q,S,w=>oe P x (fun ad=>uO (fun S w=>ec P y (Q ad) S w) (Q ad)) S w
 | .iJ x y,Q,S,w=>ec P x (uO (fun S w=>oe P y Q S w) (Q none)) S w
 | .cu id x,Q,S,w=>oe P x (fun ad=>A0 id (Q ad)) S w
def marks:H_ Nat->C_ Deferred
 | none=>[]
 | some D=>[{ target:=.collected D,args:=#[] }]
def ZH(n:Nat)(Q:H_ Nat->ed->Fr->A_->Prop):Exit->Act->A_->Prop
 | .normal,a,w => ∃ad S,Fits (marks ad) a S n/\Q ad .normal S w
 | .exit i,a,w => ∃ad S,Fits (marks ad) a S n/\Q ad (.exit i) S w
 | .ret,a,w => ∃ad S,Fits (marks ad) a S n/\Q ad .ret S w
 | .panic c,a,w => ∃ad S,Fits (marks ad) a S n/\Q ad (.gf c) S w
 | _,_,_=>False
theorem alO{n:Nat}{Q:H_ Nat->ed->Fr->A_->Prop}{ad:H_ Nat}{e:Exit}{a:Act}{w:A_}(h:Jm (marks ad) n (Q ad) e a w):ZH n Q e a w:=by
 cases e with
 | normal=>obtain⟨S,h1,I⟩:=h;exact⟨ad,S,h1,I⟩
 | exit i=>obtain⟨S,h1,I⟩:=h;exact⟨ad,S,h1,I⟩
 | ret=>obtain⟨S,h1,I⟩:=h;exact⟨ad,S,h1,I⟩
 | panic c=>obtain⟨S,h1,I⟩:=h;exact⟨ad,S,h1,I⟩
 | _=>exact h.elim
theorem KJ{P:D_}(hm:P.follows .mixedOrders=true){n:Nat}:∀(c:Code) (rc:sm),nc P n c=some rc->∀(Q:H_ Nat->ed->Fr->A_->Prop) (a:Act) (S:Fr) (w:A_),Fits [] a S n->oe P rc Q S w->c.wpIn Fence.wide 3 P (ZH n Q) a w
 | .rangeFunc g da AU b,rc,h,Q,a,S,w,ax,aG=>by
  simp only[nc] at h;split at h
  .rename_i p p9 hJ sY aV ak;split at h
   .rename_i ar;injection h with h;subst h
    obtain⟨α,enc,jz,atC,ij,nL,pJ,N,w0,aK,di,s0,he,sQ,c5,qm,a8,xC,af,ah5,zp,I1⟩:=aG;have aj1:da=#[p]:=by rw[<-Array.toArray_toList (xs:=da),sY]
    subst aj1;refine aoS (by rw[ax.eval];exact aK) di s0 he sQ c5 (fun c=>match c with | .ret=>qm .ret | .exit id=>qm (.exit id) | _=>fun _ _=>False) a8 ?_ af ?_ ?_ ?_
    .intro c;split
     .exact xC _
     .exact xC _
     .exact fun s W b6 row h _ _=>h.elim
    .intro l pre x W U aF;have xL:Fits [] ({ tmps:=a.tmps.setIfInBounds p (enc x),defers:=[] }:Act) (bW S p (enc x)) n:=by
      refine⟨rfl,by simp[ax.2.1],fun t=>?_⟩
      have:=ax.2.2 t
      simp only[bW];by_cases aB:t=p
      .subst aB;simp[ax.2.1,ar]
      .have I:(a.tmps.setIfInBounds p (enc x))[t]? = a.tmps[t]? := Array.getElem?_setIfInBounds_ne (Ne.symm aB);rw[if_neg aB,<-this];simp[Array.getD_eq_getD_getElem?,I]
     refine wpIn_mono (sound (ds:=[]) (r:=some l) hm AU p9 aV _ _ _ W xL (ah5 pre x W U aF)) fun e cD b6 au=>?_;cases e with
     | normal =>
      obtain⟨aX,er,h1,I,ab⟩:=au;refine⟨h1,I,fun eP aD=>?_⟩;refine wpIn_mono (sound (ds:=[]) (r:=some l) hm b hJ ak _ _ _ eP er (ab eP aD)) fun e a2 nN au=>?_;cases e with
      | normal=>obtain⟨aX,_,h1,I,ab⟩:=au;exact⟨h1,I,ab⟩
      | ret=>obtain⟨aX,_,h1,I⟩:=au;exact⟨h1,I⟩
      | exit id=>obtain⟨aX,_,h1,I⟩:=au;exact⟨h1,I⟩
      | panic c=>obtain⟨aX,_,h1⟩:=au;exact h1.elim
      | _=>exact au.elim
     | ret=>obtain⟨aX,_,h1⟩:=au;exact h1.elim
     | exit id=>obtain⟨aX,_,h1⟩:=au;exact h1.elim
     | panic c=>obtain⟨aX,_,h1⟩:=au;exact h1.elim
     | _=>exact au.elim
    .intro D xs W h4 bZ U a6;exact⟨some D,S,⟨by rw[ax.1];rfl,ax.2⟩,zp D xs W h4 bZ U a6⟩
    .intro D c pre W h4 bZ U a6;have XH:Fits (marks (some D)) { a with defers:={ target:=.collected D,args:=#[] } :: a.defers } S n:=⟨by rw[ax.1];rfl,ax.2⟩;split at U
     .exact wpIn_ret ⟨some D,S,XH,I1 D .ret pre W (by simp) h4 bZ U a6⟩
     .exact wpIn_exit ⟨some D,S,XH,I1 D (.exit _) pre W (by simp) h4 bZ U a6⟩
     .exact U.elim
   .cases h
  .cases h
 | .seq x y,rc,h,Q,a,S,w,ax,aG=>by
  simp only[nc] at h;split at h
  .rename_i x8 ag;obtain⟨abh,bS,rfl⟩:=Option.map_eq_some_iff.1 h;refine wpIn_seq (wpIn_mono (sound (ds:=[]) (r:=none) (m:=3) hm x x8 ag _ a S w ax aG) fun e cD w' au=>?_);cases e with
   | normal=>obtain⟨aX,er,au⟩:=au;exact KJ hm y abh bS Q cD aX w' er au
   | exit i=>obtain⟨aX,er,au⟩:=au;exact⟨none,aX,er,au⟩
   | ret=>obtain⟨aX,er,au⟩:=au;exact⟨none,aX,er,au⟩
   | panic c=>obtain⟨aX,er,au⟩:=au;exact⟨none,aX,er,au⟩
   | _=>exact au.elim
  .split at h
   .rename_i rx wm ag bS;injection h with h;subst h
    refine wpIn_seq (wpIn_mono (KJ hm x rx ag _ a S w ax aG) fun e cD w' au=>?_);cases e with
    | normal =>
     obtain⟨ad,aX,er,au⟩:=au;exact wpIn_mono (sound (ds:=marks ad) (r:=none) (m:=3) hm y wm bS (Q ad) cD aX w' er au) fun e Ul bK h=>alO h
    | exit i=>obtain⟨ad,aX,er,au⟩:=au;exact⟨ad,aX,er,au⟩
    | ret=>obtain⟨ad,aX,er,au⟩:=au;exact⟨ad,aX,er,au⟩
    | panic c=>obtain⟨ad,aX,er,au⟩:=au;exact⟨ad,aX,er,au⟩
    | _=>exact au.elim
   .cases h
 | .block id b,rc,h,Q,a,S,w,ax,aG=>by
  simp only[nc] at h;obtain⟨Qm,ak,rfl⟩:=Option.map_eq_some_iff.1 h;refine wpIn_block (wpIn_mono (KJ hm b Qm ak _ a S w ax aG) fun e cD w' au=>?_);cases e with
  | normal=>obtain⟨ad,aX,er,au⟩:=au;exact⟨ad,aX,er,au⟩
  | ret=>obtain⟨ad,aX,er,au⟩:=au;exact⟨ad,aX,er,au⟩
  | panic c=>obtain⟨ad,aX,er,au⟩:=au;exact⟨ad,aX,er,au⟩
  | exit i =>
   obtain⟨ad,aX,er,au⟩:=au;simp only[A0] at au;simp only[Exit.inBlock];split at au
   .rename_i U;rw[if_pos U];exact⟨ad,aX,er,au⟩
   .rename_i U;rw[if_neg U];exact⟨ad,aX,er,au⟩
  | _=>exact au.elim
 | .skip,rc,h,_,_,_,_,_,_=>by simp[nc] at h
 | .region _ _ _,rc,h,_,_,_,_,_,_=>by simp[nc] at h
 | .cond _ _ _,rc,h,_,_,_,_,_,_=>by simp[nc] at h
 | .loop _,rc,h,_,_,_,_,_,_=>by simp[nc] at h
 | .exit _,rc,h,_,_,_,_,_,_=>by simp[nc] at h
 | .ret,rc,h,_,_,_,_,_,_=>by simp[nc] at h
 | .scope _,rc,h,_,_,_,_,_,_=>by simp[nc] at h
 | .label _,rc,h,_,_,_,_,_,_=>by simp[nc] at h
 | .goto _,rc,h,_,_,_,_,_,_=>by simp[nc] at h
 | .refuse _,rc,h,_,_,_,_,_,_=>by simp[nc] at h
def DE(res:C_ mr)(R:B_->A_->Prop):H_ Nat->ed->Fr->A_->Prop
 | none,e,S,w=>DC res R e S w
 | some D,.normal,S,w=>w.heap[D]? = some (.deferred (some []))/\pv res S (fr w D (.deferred none)) fun vs=>R (gY vs) (fr w D (.deferred none))
 | some D,.ret,S,w=>w.heap[D]? = some (.deferred (some []))/\pv res S (fr w D (.deferred none)) fun vs=>R (gY vs) (fr w D (.deferred none))
 | some _,.exit _,_,_=>False
 | some _,.gf _,_,_=>False
theorem ao3{P:D_}{D:Nat}{w:A_}(h:w.heap[D]? = some (.deferred (some []))):(Instr.takeDeferred D).run P w = .ok [] (fr w D (.deferred none)):=by
 simp[Instr.takeDeferred,Sem.run_bind,getObj,setObj,Sem.run,h,Result.andThen,fr]
theorem afG{P:D_}{f:E_}{L:yL}(hm:P.follows .mixedOrders=true)(ah:y0 P f=some L){args:C_ B_}{w:A_}{R:B_->A_->Prop}(aV:args.length<=L.n)
  (h:oe P L.code (DE L.res R) (hQ args 0) w):a7 P f args.toArray w R:=by
 unfold y0 at ah;split at ah
 .rename_i fn kO;split at ah
  .rename_i c ak;split at ah
   .rename_i lc r h1 I;injection ah with ah;subst ah
    refine(callsIn_wide (n:=3)).1 (callsIn_of_wp_marks (F:=Fence.wide) kO ak trivial (wpIn_mono (KJ hm c lc h1 _ _ (hQ args 0) w ?_ h) ?_))
    .refine⟨rfl,?_,fun t=>?_⟩
     .have:=aV;simp only at this;simp;omega
     .rw[HT];simp only[Nat.zero_le,if_true,Nat.sub_zero];by_cases aB:t<args.length
      .simp[Array.getD_eq_getD_getElem?,Array.getElem?_append,aB]
      .simp only[Array.getD_eq_getD_getElem?,Array.getElem?_append,List.size_toArray,if_neg aB,List.getElem?_eq_none (Nat.le_of_not_lt aB),Option.getD_none];rw[Array.getElem?_replicate];split<;>rfl
    .have fin:∀(ad:H_ Nat) (S:Fr) (cD:Act) (w':A_),Fits (marks ad) cD S fn.ntmps->(DE r R ad .normal S w')->LeavesInM Fence.wide 3 P fn cD.tmps (fun e w' => ∃v,e = .returned v/\R v w') cD.defers .returning w':=by
      intro ad S cD w' ax au;rw[ax.1];cases ad with
      | none =>
       obtain⟨vs,ab,aD⟩:=r9 ax _ _ _ I au;exact⟨_,wA ab,_,rfl,aD⟩
      | some D =>
       obtain⟨a6,au⟩:=au;obtain⟨vs,ab,aD⟩:=r9 ax _ _ _ I au;exact⟨by simp,.inl ⟨D,_,rfl,ao3 a6,⟨_,wA ab,_,rfl,aD⟩⟩⟩
     intro e cD w' au;cases e with
     | normal=>obtain⟨ad,S,ax,au⟩:=au;exact fin ad S cD w' ax au
     | ret =>
      obtain⟨ad,S,ax,au⟩:=au;refine fin ad S cD w' ax ?_;cases ad<;>exact au
     | exit i=>obtain⟨ad,S,ax,au⟩:=au;cases ad<;>exact au.elim
     | panic c=>obtain⟨ad,S,ax,au⟩:=au;cases ad<;>exact au.elim
     | _=>exact au.elim
   .cases ah
  .cases ah
 .cases ah
end bb
namespace bb
open Go Go.RowKit
section
variable{P:Program}{S:Fr}{w:World}
theorem gk.start{f:E_}{L:yL}(hm:P.follows .mixedOrders=true)(ah:y0 P f=some L){args:C_ B_}{w:A_}{R:B_->A_->Prop}(aV:args.length<=L.n)(h:oe P L.code (DE L.res R) (hQ args 0) w):a7 P f args.toArray w R:=afG hm ah aV h
theorem gk.iJ{x:eC}{y:sm}{Q:H_ Nat->ed->Fr->A_->Prop}(h:dO P x (hY (fun S w=>oe P y Q S w) (Q none) ⟨⟩) S w ⟨⟩):oe P (.iJ x y) Q S w:=by unfold dO hY at h;exact h
theorem gk.tu{x:sm}{y:eC}{Q:H_ Nat->ed->Fr->A_->Prop}(h:oe P x (fun ad=>hY (fun S w=>dO P y (Q ad) S w ⟨⟩) (Q ad) ⟨⟩) S w):oe P (.tu x y) Q S w:=by unfold dO hY at h;exact h
theorem gk.cu{id:Nat}{x:sm}{Q:H_ Nat->ed->Fr->A_->Prop}(h:oe P x (fun ad=>qz id (Q ad) ⟨⟩) S w):oe P (.cu id x) Q S w:=by unfold qz at h;exact h
theorem gk.ret{res:C_ mr}{R:B_->A_->Prop}{D:Nat}(a6:w.heap[D]? = some (.deferred (some [])))(h:jd res S (fr w D (.deferred none)) (fun vs=>R (gY vs) (fr w D (.deferred none))) ⟨⟩):DE res R (some D) .ret S w:=by
 unfold jd at h;exact⟨a6,h⟩
theorem gk.DB{res:C_ mr}{R:B_->A_->Prop}{e:ed}(h:qG res R ⟨⟩ e S w):DE res R none e S w:=by
 unfold qG at h;exact h
theorem gk.ts{α:Type}{enc:α->B_}{g:G_}{p:Nat}{a b:eC}{Q:H_ Nat->ed->Fr->A_->Prop}{jz:Nat}{hJ:Array B_}{ij:A_->A_->Prop}{nL pJ:C_ α->Prop}{N:Nat}{w0:A_}
  (aK:aS S g = .func (.func jz) #[] hJ)(di:okF P jz=true)(s0:SeqStopsK Fence.wide 0 P jz hJ (fun x=>#[enc x]) ij nL pJ N w0)(he:Ext w0 w)(sQ:CR ij w.heap.size)
  (c5:C_ α->A_->Prop)(a8:OwnFrom w.heap.size c5)(af:c5 [] w)
  (ED:∀pre x W,c5 pre W->pre.length<N->dO P a (hY (fun tF iy=>KeepsFrom w.heap.size W iy/\ij W iy/\∀eP,tE w.heap.size iy eP ->
   dO P b (hY (fun _ b6=>KeepsFrom w.heap.size eP b6/\ij eP b6/\c5 (pre++[x]) b6) (fun _ _ _=>False) ⟨⟩) tF eP ⟨⟩) (fun _ _ _=>False) ⟨⟩) (bW S p (enc x)) W ⟨⟩)
  (zp:∀D xs W,w.heap.size<=D->nL xs->c5 xs W->W.heap[D]? = some (.deferred (some []))->Q (some D) .normal S W):oe P (.ts g p a b) Q S w:=by
 refine⟨α,enc,jz,hJ,ij,nL,pJ,N,w0,aK,di,s0,he,sQ,c5,fun _ _ _=>False,a8,fun _ _ _ _ _ h _ _=>h.elim,af,fun pre x W U aF=>?_,zp,fun D e pre W _ _ _ h _=>h.elim⟩;have h:=ED pre x W U aF;unfold dO hY at h;refine pz a _ _ _ W (fun e tF iy _ h1=>?_) h;cases e with
 | normal =>
  obtain⟨cC,cS,eT⟩:=h1;refine⟨cC,cS,fun eP aL=>?_⟩;have I:=eT eP aL;refine pz b _ _ _ eP (fun e kB nN _ ab=>?_) I;cases e with
  | normal=>exact ab
  | exit _=>exact ab.elim
  | ret=>exact ab.elim
  | gf _=>exact ab.elim
 | exit _=>exact h1.elim
 | ret=>exact h1.elim
 | gf _=>exact h1.elim
theorem tE.cells{B:Nat}{W b6:A_}(h:tE B W b6){k:Nat}{c:Array B_}{t:F_}{f:Nat×Nat}(hk:W.heap[k]? = some (.cells c t f)):b6.heap[k]? = some (.cells c t f):=by
 obtain⟨l,aF,⟨ad,aM,ah⟩,aK⟩:=h;rw[aK.block k (cy hk) fun e=>by injection e with e;subst e;rw[aM] at hk;injection hk with hk;subst hk;cases ah];exact hk
theorem tE.mod{B:Nat}{W b6:A_}(h:tE B W b6):∃l,B<=l/\(∀c t f,W.heap[l]? ≠ some (.cells c t f))/\Mod (fun k=>k=l) W b6:=by
 obtain⟨l,aF,⟨ad,aM,ah⟩,aK⟩:=h;exact⟨l,aF,(fun c t f e=>by rw[aM] at e;injection e with e;subst e;cases ah),Mod.grown aK fun k e=>by injection e with e;exact e.symm⟩
theorem tE.ext{B:Nat}{w W b6:A_}(h:tE B W b6)(he:Ext w W)(km:w.heap.size<=B):Ext w b6:=by
 obtain⟨l,aF,_,hm⟩:=h.mod;exact hm.ext he fun k hk e=>by omega
theorem Ext.keeps{W b6:A_}(h:Ext W b6)(B:Nat):KeepsFrom B W b6:=⟨h.size,fun k ad _ hk _=>h.obj hk⟩
theorem Mod.keeps{A:Nat->Prop}{B:Nat}{W b6:A_}(h:Mod A W b6)(dh:∀k,B<=k->A k->∃c t f,W.heap[k]? = some (.cells c t f)):KeepsFrom B W b6 :=
 ⟨h.size,fun k ad km hk ah=>h.obj (fun a=>by obtain⟨c,t,f,e⟩:=dh k km a;rw[hk] at e;injection e with e;subst e;cases ah) hk⟩
theorem Mod.ib{A:Nat->Prop}{hK:Nat}{cz:C_ F_}{W b6:A_}(h:Mod A W b6)(ay:hK<=W.heap.size)(af:∀k,k<hK->¬A k)(dh:∀k c t f,A k->W.heap[k]? = some (.cells c t f)->t∉cz):mn hK cz W b6 :=
 ⟨⟨h.os,h.tape,h.output,h.size,fun k hk=>h.block k (by omega) (af k hk)⟩,fun k c t f hk aB=>h.block k (cy hk) fun a=>dh k c t f a hk aB⟩
theorem Mod.high{A:Nat->Prop}{w W b6:A_}{row:H_ Nat}(h:Mod A w W)(aK:W.grownBy b6 row)(aL:∀r,row=some r->w.heap.size<=r):Mod A w b6 :=
 h.comp (Mod.grown (A:=fun k=>row=some k) aK fun k e=>e) (fun _ _ a=>a) fun i U e=>by have:=aL i e;omega
def eI(aO:Nat)(bs:C_ Nat)(cz:C_ F_)(W b6:A_):Prop:=Mod (fun k=>k∈bs\/(aO<=k/\∃c t f,t∈cz/\W.heap[k]? = some (.cells c t f))) W b6
theorem Ext.A8{aO:Nat}{bs:C_ Nat}{cz:C_ F_}{W b6:A_}(h:Ext W b6):eI aO bs cz W b6:=h.mod
theorem eI.trans{aO:Nat}{bs:C_ Nat}{cz:C_ F_}{a b c:A_}(h:eI aO bs cz a b)(k:eI aO bs cz b c):eI aO bs cz a c :=
 ⟨k.os.trans h.os,k.tape.trans h.tape,k.output.trans h.output,Nat.le_trans h.size k.size,fun i U ay=>by
  have e:=h.block i U ay;refine(k.block i (Nat.lt_of_lt_of_le U h.size) fun a=>ay ?_).trans e;rcases a with a | ⟨df,c,t,f,a2,a3⟩
  .exact .inl a
  .exact .inr ⟨df,c,t,f,a2,by rw[<-e];exact a3⟩⟩
theorem dn.A8{aO b:Nat}{bs:C_ Nat}{cz:C_ F_}{W b6:A_}(h:dn b W b6)(ak:b∈bs):eI aO bs cz W b6:=(h.mod (A:=fun k=>k=b) rfl).Al fun k e=>.inl (e ▸ ak)
theorem eI.grown{α:Type}{enc:α->C_ B_}{sz aO:Nat}{e:F_}{bs:C_ Nat}{cz:C_ F_}{W b6:A_}{v:B_}{xs:C_ α}(aM:aW enc e sz aO W v xs)(aK:W.grownBy b6 v.ownBlock)(he:e∈cz):eI aO bs cz W b6 :=
 (Mod.grown (A:=fun k=>v.ownBlock=some k) aK fun k e=>e).Al fun k hk=>by
  obtain⟨cur,h⟩:=aM.cu k hk;exact .inr ⟨(aM.lt k hk).1,_,_,_,he,h⟩
theorem eI.keeps{aO B:Nat}{bs:C_ Nat}{cz:C_ F_}{W b6:A_}(h:eI aO bs cz W b6)(km:∀b∈bs,b<B):KeepsFrom B W b6 :=
 Mod.keeps h fun k hk a=>by
  rcases a with a | ⟨_,c,t,f,_,a⟩
  .have:=km k a;omega
  .exact⟨c,t,f,a⟩
theorem eI.ib{aO hK:Nat}{bs:C_ Nat}{cz nz:C_ F_}{W b6:A_}(h:eI aO bs cz W b6)(ay:hK<=W.heap.size)(af:hK<=aO)(ak:∀b∈bs,hK<=b/\∀c t f,W.heap[b]? = some (.cells c t f)->t∉nz)(aB:∀t∈cz,t∉nz):mn hK nz W b6 :=
 Mod.ib h ay (fun k hk a=>by
  rcases a with a | ⟨a,_⟩
  .have:=(ak k a).1;omega
  .omega) fun k c t f a hk=>by
  rcases a with a | ⟨_,kE,ig,tU,df,a2⟩
  .exact(ak k a).2 c t f hk
  .rw[hk] at a2;injection a2 with a2;injection a2 with _ a2;subst a2;exact aB _ df
theorem eI.from{bs:C_ Nat}{cz:C_ F_}{w W b6:A_}(h:Mod (fun k=>k∈bs) w W)(c:eI w.heap.size bs cz W b6):Mod (fun k=>k∈bs) w b6 :=
 h.comp c (fun _ _ a=>a) fun k hk a=>by
  rcases a with a | ⟨a,_⟩
  .exact a
  .omega
theorem eI.obj{aO:Nat}{bs:C_ Nat}{cz:C_ F_}{W b6:A_}(h:eI aO bs cz W b6){k:Nat}{c:Array B_}{t:F_}{f:Nat×Nat}(hk:W.heap[k]? = some (.cells c t f))(ak:k∉bs)(aB:t∉cz):b6.heap[k]? = some (.cells c t f):=by
 rw[Mod.block h k (cy hk) fun a=>?_]
 .exact hk
 .rcases a with a | ⟨_,kE,ig,tU,df,a2⟩
  .exact ak a
  .rw[hk] at a2;injection a2 with a2;injection a2 with _ a2;subst a2;exact aB df
end
end bb
end
section
namespace Go.Proofs.R
open Go bb Go.Proofs
def D.c:yL:=⟨37,[.tmp 2], (.iJ (.dk [bN 1 (.box T.g (ae 0)),fe 2 (.const cp)]) (.iJ (.dk [bN 3 (.new T.c cp)]) (.iJ (.dk [bD 8 (.gg [cv,cv] [(0,1),(1,1)] [(0,(cf (-1)))]),bN 4 (.new T.a cv),bN 5 (.new T.e (.agg #[cv,cv])),e6 (.st (ae 4) (cf (-1))),pC 2 5 8]) (.tu (.iJ (.dk [h0 9 5 1,nC 10 F.a3 [9]]) (.cu 0 (.ts (ae 10) 11 (.dk [bN 6 (.new T.e (.agg #[cv,cv])),pC 2 6 11]) (.cu 1 (.seq (cJ [h0 12 2 6,h0 13 2 5,fU .neq T.e 14 12 13] (jL 14 (.dk [bp 15 4,gZ .add T.a 16 15 1,ys 4 16]) .skip)) (cJ [h0 17 2 6,pC 2 5 17] (cJ [bl 18 3 1,bp 19 18,bl 20 0 6,bp 21 20,dE 22 5 19 21,bl 23 4 22,bp 24 23,j2 25 24,fe 26 (cf 0)] (.cu 2 (.loop (cJ [fU .lss T.a 27 26 25] (uS 27 2
 (.seq (.cu 3 (cJ [aq 28 26,aq 7 28] (.dk [bp 29 3,bp 30 4,aq 31 7,bD 32 (.gg [cv,cv] [(0,1),(1,1)] [(0,(ae 30)),(1,(ae 31))]),bN 33 (.fZ T.i 1 2 [cv,cv] [(0,(ae 32))]),bN 34 (.app T.c T.i 2 16 (ae 29) (ae 33)),ys 3 34]))) (uR T.a 35 26))))))))))))) (cJ [bp 36 3,aq 2 36] .ret)))))⟩
theorem CO.c:y0 Tryz.prog F.c=some D.c:=by kernel_rfl
def D.qB:yL:=⟨78,[.cell 6], (.iJ (.dk [bN 3 (.box T.g (ae 0)),bN 4 (.box T.a (ae 1)),bN 6 (.new T.n (.bool false))]) (.iJ (cJ [h0 14 5 3,nC 15 F.oz [14],bD 16 (.gh 0 (ae 15)),gZ .neq T.rr 17 16 0] (jL 17 (cJ [e6 (.st (ae 6) (js false))] .ret) .skip)) (.iJ (.dM (wO (h0 18 5 3) (wO (h0 20 5 3) (.alt (nC 19 F.b [18]) (.bk (nC 21 F.c [20]) (.alt (bN 8 (.new T.c cp)) (wO (aq 7 19) (.bk (ys 8 21) .done .nil)) .nil) (.alt (bN 8 (.new T.c cp)) (.bk (nC 21 F.c [20]) (wO (aq 7 19) (.bk (ys 8 21) .done .nil)) .nil) .nil)) (.alt (bN 8 (.new T.c cp)) (.alt (nC 19 F.b [18]) (.bk (nC 21 F.c [20]) (wO (aq 7 19) (.bk (ys 8 21) .done .nil)) .nil) .nil) .nil))))) (.iJ (.seq (.qD [bp 22 4,gZ .lss T.a 23 22 0,aq 24 23,lz 24 (bp 25 4),lz 24 (aq 26 7),lz 24 (j2 27 26),lz 24 (fU .geq T.a 28 25 27),oj 29 24 28,aq 30 29,lz 30 (aq 31 2),lz 30 (gZ .lss T.a 32 31 0),oj 33 30 32,aq 34 33,lz 34 (aq 35 2),lz 34 (bl 36 3 3),lz 34 (bp 37 36),lz 34 (aq 38 7),lz 34 (bp 39 4),lz 34 (dE 40 2 38 39),lz 34 (bl 41 0 40),lz 34 (bp 42 41),lz 34 (dE 43 5 37 42),lz 34 (bl 44 2 43),lz 34 (bp 45 44),lz 34 (fU .geq T.a 46 35 45),oj 47 34 46]) (jL 47 (cJ [e6 (.st (ae 6) (js false))] .ret) .skip)) (.iJ (.dk [h0 48 5 3,nC 49 F.a4 [48],bN 9 (.new T.gl cp),ys 9 49]) (.tu (.iJ (.dk [h0 50 5 3,bp 51 4,aq 52 2,nC 53 F.a5 [50,51,52]]) (.cu 0 (.ts (ae 53) 54 (.dk [aq 10 54]) (.cu 1 (cJ [bD 55 (.uz F.y [] [(ae 4)]),aq 11 55] (cJ [bp 56 8,j2 57 56,fe 58 (cf 0)] (.cu 2 (.loop (cJ [fU .lss T.a 59 58 57] (uS 59 2
 (.seq (.cu 3 (cJ [aq 60 58,dE 61 2 56 58,h0 62 2 61,bN 13 (.new T.i (.agg #[cv,cv])),aq 12 60,pC 2 13 62] (.seq (.qD [aq 63 11,h0 64 2 13,cb 65 (.val (ae 63) [(ae 64)]),aq 66 65,rf 66 (bp 67 9),rf 66 (aq 68 10),rf 66 (dE 69 2 67 68),rf 66 (h0 70 2 69),rf 66 (bp 71 9),rf 66 (aq 72 12),rf 66 (dE 73 2 71 72),rf 66 (h0 74 2 73),rf 66 (nC 75 F.mW [70,74]),oR 76 66 75]) (jL 76 (cJ [e6 (.st (ae 6) (js false))] .ret) .skip)))) (uR T.a 77 58)))))))))))) (cJ [e6 (.st (ae 6) (js true))] .ret)))))))⟩
theorem CO.qB:y0 Tryz.prog F.qB=some D.qB:=by kernel_rfl
def D.f5:yL:=⟨13,[.tmp 4], (.iJ (.dk [bN 2 (.box T.d (ae 0)),fe 4 (.const cp)]) (.tu (.iJ (.dk [aq 6 1]) (.cu 0 (.ts (ae 6) 7 (.dk [bN 5 (.new T.e (.agg #[cv,cv])),pC 2 5 7]) (.cu 1 (.dk [bp 8 2,h0 9 2 5,bN 10 (.fZ T.e 1 2 [cv,cv] [(0,(ae 9))]),bN 11 (.app T.d T.e 2 16 (ae 8) (ae 10)),ys 2 11]))))) (cJ [bp 12 2,aq 4 12] .ret)))⟩
theorem CO.f5:y0 Tryz.prog F.f5=some D.f5:=by kernel_rfl
end Go.Proofs.R
end
section
namespace o
open Go Go.RowKit bb
theorem Vn(x:cZ):ry abp x.enc:=⟨⟨_,rfl⟩,⟨_,rfl⟩,trivial⟩
theorem akT(x y:cZ)(h:x.enc=y.enc):x=y:=by cases x;cases y;simpa[cZ.enc] using h
abbrev xb(m:Model):={x:cZ // x.of m}
end o
namespace bb
open Go Go.RowKit
theorem Ext.Wx{w w':A_}(h:Ext w w'):w.grownBy w' none:=⟨h.os,h.tape,h.output,h.size,fun k hk _=>h.heap hk⟩
end bb
namespace Go.Proofs.R
open Go Go.RowKit bb
theorem afv(cs:C_ B_)(m:o.Model)(p:o.dz)(b7 ec:B_)(w:A_)(h:o.dV w cs m) :
  a7 Tryz.prog F.Hg #[.agg cs.toArray,.agg (p.enc b7 ec).toArray] w fun v w'=>v = .int .i64 (o.elems m p)/\Ext w w':=by
 obtain⟨cd,bw,bO,c1,bV,c2,b2,br,cj,bF,rfl,af,h1,I,ab,aD,eU,ek,ev,ef,ew⟩:=h.form;refine bn E.Hg ?_;refine J ?_;intro w1 bo cT al ai;refine J ?_;intro aH bR dt ao av;have c7:∀{w'},Ext aH w'->Ext w w':=fun e=>(al.trans ao).trans e;refine J ?_;rw[o.elems];apply I_<;>intro g1
 .refine J ?_;rw[o.gX (.inl (by omega))];exact⟨aU,c7 (Ext.refl _)⟩
 refine J ?_;apply I_<;>intro g2
 .refine J ?_;rw[o.gX (.inr (by omega))];exact⟨aU,c7 (Ext.refl _)⟩
 have U:(p.over - 1).toNat<m.scalars.length:=by omega
 obtain⟨a,rfl⟩:=af.addr;rw[o.ja (by omega) (by omega)];refine J ?_;refine K_ (p.over - 1).toNat (by omega) U ?_;refine J ?_;apply I_<;>intro g3
 .refine J ?_;refine⟨?_,c7 (Ext.refl _)⟩;rw[if_pos (by omega)];rfl
 refine J ?_;apply I_<;>intro g4
 .refine J ?_;refine⟨?_,c7 (Ext.refl _)⟩;rw[if_pos (by omega)];rfl
 refine J ?_;refine⟨?_,c7 (Ext.refl _)⟩;rw[if_neg (by omega)];congr 1;omega
theorem aow(cs:C_ B_)(m:o.Model)(p:o.dz)(b7 ec:B_)(w:A_)(h:o.dV w cs m) :
  a7 Tryz.prog F.JW #[.agg cs.toArray,.agg (p.enc b7 ec).toArray] w fun v w'=>v = .int .i64 (o.elems m p)/\Ext w w':=by
 obtain⟨cd,bw,bO,c1,bV,c2,b2,br,cj,bF,rfl,af,h1,I,ab,aD,eU,ek,ev,ef,ew⟩:=h.form;refine bn E.JW ?_;refine J ?_;intro w1 bo cT al ai;refine J ?_;intro aH bR dt ao av;have c7:∀{w'},Ext aH w'->Ext w w':=fun e=>(al.trans ao).trans e;refine J ?_;rw[o.elems];apply I_<;>intro g1
 .refine J ?_;rw[o.gX (.inl (by omega))];exact⟨aU,c7 (Ext.refl _)⟩
 refine J ?_;apply I_<;>intro g2
 .refine J ?_;rw[o.gX (.inr (by omega))];exact⟨aU,c7 (Ext.refl _)⟩
 have U:(p.over - 1).toNat<m.scalars.length:=by omega
 obtain⟨a,rfl⟩:=af.addr;rw[o.ja (by omega) (by omega)];refine J ?_;refine K_ (p.over - 1).toNat (by omega) U ?_;refine J ?_;apply I_<;>intro g3
 .refine J ?_;refine⟨?_,c7 (Ext.refl _)⟩;rw[if_pos (by omega)];rfl
 refine J ?_;apply I_<;>intro g4
 .refine J ?_;refine⟨?_,c7 (Ext.refl _)⟩;rw[if_pos (by omega)];rfl
 refine J ?_;refine⟨?_,c7 (Ext.refl _)⟩;rw[if_neg (by omega)];congr 1;omega
def YP(x:o.cZ):B_:=.agg x.enc.toArray
theorem YX{oO w0:A_}{b:Nat}{cs:C_ B_}{m:o.Model}(ah:w0.heap[b]? = some (.cells cs.toArray T.g))(h:o.dV oO cs m)(p3:Ext oO w0) :
  SeqStopsK Fence.wide 0 Tryz.prog F.z #[.pointer (some ⟨b,0,none⟩)] (fun x:o.xb m=>#[YP x.1]) (mn oO.heap.size [T.l,T.g]) (fun xs=>xs.map Subtype.val=o.insts m) (fun _=>True) (o.insts m).length w0:=by
 intro l iO Lv W ak qJ ahz bS IJ;have Bz:Ext oO W:=p3.trans ak;have Xj:=Ext.obj (w:=w0) ak ah;obtain⟨cd,bw,bO,c1,bV,c2,b2,br,cj,bF,rfl,af,h1,I,ab,aD,eU,ek,ev,ef,ew⟩:=h.form;refine callsIn_wide.2 (Calls.mono (show a7 Tryz.prog F.z #[.func (.yield l) #[] #[],.pointer (some ⟨b,0,none⟩)] W (fun _ b6=>(∃xs,xs.map Subtype.val=o.insts m/\iO xs b6)\/(∃pre:C_ (o.xb m),True/\Lv pre b6)) from ?_) fun e b6 ⟨v,bt,aI⟩=>⟨⟨v,bt⟩,aI⟩);have Bp:∀{pre:C_ (o.xb m)} {w w':A_},iO pre w->Ext w w'->iO pre w':=fun {pre w w'} aE e=>qJ pre w w' none aE e.Wx (fun r e=>by cases e);refine bn E.z ?_;refine J ?_;refine L_ 9 m.procs.length [0,1,7,8] (fun _=>[]) ([]:C_ (o.xb m)) (fun k pre w'=>(Ext oO w'/\w'.heap[b]? = some (.cells #[.slice cd m.scalars.length bw,.slice bO m.vars.length c1,.slice bV m.aw.length c2,.slice b2 m.procs.length br,.slice cj m.props.length bF] T.g)/\iO pre w')/\pre.map Subtype.val++o.jD m (m.procs.drop k) k=o.insts m) bc bc ⟨⟨Bz,Xj,IJ⟩,by simp[o.insts]⟩ ?_;clear Xj ah;rintro k pre S w1 hk ⟨⟨al,Xk,XU⟩,rR⟩;refine J ?_;apply I_<;>intro g1
 .have aZ:k<m.procs.length:=by omega
  obtain⟨a,rfl⟩:=ab.addr;obtain⟨an,b7,ec,dD,e2,fO⟩:=ab.at k aZ;obtain⟨_,_,rfl,_⟩:=e2.form;obtain⟨_,_,rfl,_⟩:=fO.form;rw[o.YR aZ] at rR;have rH:=cy Xk;refine eh ?_;simp -dsimp only[cB];refine eh ?_;simp -dsimp only[cB];refine eh ?_;intro CA bR dt nk qK;refine eh ?_;intro aH akA av;have ao:=akA.ext nk dt;have Xl:=ao.obj Xk;have l7:=Bp XU ao;have e9:∀(q:C_ (o.xb m)) (r:C_ o.cZ),q.map Subtype.val++r=o.insts m->r≠[]->q.length<(o.insts m).length:=fun q r e aL=>by
   rw[<-e,List.length_append,List.length_map]
   have:=List.length_pos_iff.2 aL
   omega
  have ue:=o.DA m m.procs[k];refine eh ?_;refine S_ [0,1,3,4,7,8,9] (fun _=>[]) (fun(Fo:C_ (o.xb m)) w'=>(Ext oO w'/\w'.heap[bR]? = aH.heap[bR]? /\ w'.heap[b]? = aH.heap[b]? /\ iO Fo w')/\Fo.map Subtype.val=pre.map Subtype.val++o.jb k m.procs[k]) ?_ ?_
  .refine J ?_;apply I_<;>intro g2
   .have bt:o.jb k m.procs[k]=[⟨(k:Int),0⟩]:=by unfold o.jb;rw[if_pos g2]
    rw[bt] at rR;refine J ?_;refine _y (bS pre ⟨⟨(k:Int),0⟩,by simp,by simpa using aZ,by simp⟩ aH l7 (e9 pre _ (by simpa[List.append_assoc] using rR) (by simp))) ?_;rintro e aP (⟨rfl,xP,nq⟩ | ⟨rfl,xP⟩)
    .refine⟨.bool true,rfl,?_⟩;refine J ?_;exact⟨_,trivial,⟨Below.trans (Ext.trans al ao) nq.1,nq.2 bR _ _ _ av (by simp),nq.2 b _ _ _ Xl (by simp),xP⟩,by simp[bt]⟩
    .refine⟨.bool false,rfl,?_⟩;refine J ?_;exact .inr ⟨_,trivial,xP⟩
   .have bt:o.jb k m.procs[k]=[]:=by unfold o.jb;rw[if_neg g2]
    refine J ?_;exact⟨pre,trivial,⟨al.trans ao,aU,aU,l7⟩,by simp[bt]⟩
  rintro P7 S aP ⟨⟨aj,bu,Xm,xP⟩,xX⟩;rw[av] at bu;rw[Xl] at Xm;refine J ?_;refine J_ (afv _ m m.procs[k] _ _ aP (h.ext aj)) ?_;rintro _ aR ⟨rfl,aA⟩;have ai8:=Bp xP aA;have Xn:=aA.obj Xm;have pU:=aj.trans aA;have Yo:P7.map Subtype.val++o.jF k (o.elems m m.procs[k])++o.jD m (m.procs.drop (k+1)) (k+1)=o.insts m:=by rw[xX,<-rR];simp
  refine J ?_;refine L_ 27 (o.elems m m.procs[k]) [0,1,3,7,8,9,26] (fun _=>[]) P7 (fun j Fo w'=>(Ext oO w'/\w'.heap[b]? = aR.heap[b]? /\ iO Fo w')/\Fo.map Subtype.val=P7.map Subtype.val++o.jF k j) bc bc ⟨⟨pU,rfl,ai8⟩,by simp[o.jF]⟩ ?_;rintro j P8 S bq aE ⟨⟨aJ,Ir,Ep⟩,vR⟩;rw[Xn] at Ir;refine J ?_;apply I_<;>intro g3
  .have et:j<o.elems m m.procs[k]:=by omega
   have ch:P8.length<(o.insts m).length:=by
    have bt:=congrArg List.length Yo;have aI:=congrArg List.length vR;simp only[List.length_append,List.length_map,o.jF,List.length_range] at bt aI;omega
   refine J ?_;refine _y (bS P8 ⟨⟨(k:Int),(j:Int)+1⟩,by simp,by simpa using aZ,by constructor<;>simp<;>omega⟩ bq Ep ch) ?_;rintro e bB (⟨rfl,BM,Er⟩ | ⟨rfl,BM⟩)
   .refine⟨.bool true,rfl,?_⟩;refine J ?_;exact⟨et,aU,_,trivial,⟨Below.trans aJ Er.1,by rw[Er.2 b _ _ _ Ir (by simp),Ir,Xn],BM⟩,by simp[vR,o.aag]⟩
   .refine⟨.bool false,rfl,?_⟩;refine J ?_;exact .inr ⟨_,trivial,BM⟩
  .have nZ:j=o.elems m m.procs[k]:=by omega
   subst nZ;refine J ?_;exact⟨aZ,aU,P8,trivial,⟨aJ,Ir,Ep⟩,by rw[vR];exact Yo⟩
 .refine J ?_;rw[List.drop_eq_nil_of_le (by omega)] at rR;exact .inl ⟨pre,by simpa[o.jD] using rR,XU⟩
end Go.Proofs.R
end
section
namespace o
open Go
def cZ.key(x:cZ):Int:=5*x.proc+x.elem
def chain:cZ->C_ cZ->Prop
 | _,[]=>True
 | a,x :: r=>x≠a/\chain x r
theorem U9:∀(l:C_ cZ) (a:cZ),(a :: l).Pairwise (fun x y=>x.key<y.key)->chain a l
 | [],_,_=>trivial
 | x :: r,a,h=>by
  obtain⟨h1,I⟩:=List.pairwise_cons.1 h;refine⟨fun e=>?_,U9 r x I⟩
  have:=h1 x (by simp)
  rw[e] at this;exact absurd this (Int.lt_irrefl _)
theorem YW{m:Model}:∀(l:C_ dz) (i:Nat),(jD m l i).Pairwise (fun x y=>x.key<y.key)/\∀x∈jD m l i,5*(i:Int)<=x.key
 | [],_=>⟨List.Pairwise.nil,fun x ag=>by simp[jD] at ag⟩
 | p :: r,i=>by
  obtain⟨h1,I⟩:=YW r (i+1);have aM:∀x∈jb i p,x=⟨(i:Int),0⟩:=fun x ag=>by
   unfold jb at ag;split at ag
   .simpa using ag
   .cases ag
  have aG:∀x∈jF i (elems m p),∃k:Nat,k<4/\x=⟨(i:Int),(k:Int)+1⟩:=fun x ag=>by
   unfold jF at ag;obtain⟨k,hk,rfl⟩:=List.mem_map.1 ag
   have:=List.mem_range.1 hk
   have:=DA m p
   exact⟨k,by omega,rfl⟩
  have ps:(jF i (elems m p)).Pairwise (fun x y=>x.key<y.key):=by
   unfold jF;rw[List.pairwise_map];exact List.Pairwise.imp (fun {a b} D0=>by simp only[cZ.key];omega) List.pairwise_lt_range
  have anI:(jb i p).Pairwise (fun x y=>x.key<y.key):=by
   unfold jb;split
   .exact List.pairwise_singleton _ _
   .exact List.Pairwise.nil
  simp only[jD];refine⟨List.pairwise_append.2 ⟨List.pairwise_append.2 ⟨anI,ps,fun a aV b ak=>?_⟩,h1,fun a aV b ak=>?_⟩,fun x ag=>?_⟩
  .obtain rfl:=aM a aV;obtain⟨k,_,rfl⟩:=aG b ak;simp only[cZ.key];omega
  .have dt:=I b ak;rcases List.mem_append.1 aV with aV | aV
   .obtain rfl:=aM a aV;simp only[cZ.key];simp at dt;unfold cZ.key at dt;omega
   .obtain⟨k,hk,rfl⟩:=aG a aV;unfold cZ.key at dt ⊢;simp at dt ⊢;omega
  .rcases List.mem_append.1 ag with ag | ag
   .rcases List.mem_append.1 ag with ag | ag
    .obtain rfl:=aM x ag;simp[cZ.key]
    .obtain⟨k,hk,rfl⟩:=aG x ag;unfold cZ.key;simp;omega
   .have:=I x ag
    simp at this;omega
theorem akW(m:Model):chain ⟨-1,0⟩ (insts m):=by
 obtain⟨h1,I⟩:=YW (m:=m) m.procs 0;refine U9 _ _ (List.pairwise_cons.2 ⟨fun x ag=>?_,h1⟩)
 have:=I x ag
 unfold cZ.key at this ⊢;simp at this ⊢;omega
theorem Wp(m:Model):∀(l:C_ cZ) (i:Nat) (a:cZ) (out:C_ Ref),chain a l->(l.foldl (mf m) ((i:Int) - 1,a,out)).2.2=out++tr m l i
 | [],_,_,_,_=>by simp[tr]
 | x :: r,i,a,out,h=>by
  simp only[List.foldl_cons];have e:mf m ((i:Int) - 1,a,out) x=(((i+1:Nat):Int) - 1,x,out++refsOf i (wq m x)):=by
   unfold mf;simp only;rw[if_pos h.1];congr 1
   .omega
   .congr 2;congr 1;omega
  rw[e,Wp m r (i+1) x _ h.2];simp[tr]
theorem aoJ(m:Model):((insts m).foldl (mf m) (-1,⟨-1,0⟩,[])).2.2=refs m:=by
 have:=Wp m (insts m) 0 ⟨-1,0⟩ [] (akW m)
 simpa[refs] using this
structure w2(m:Model):Prop where
 procs:m.procs.length<=30
 cL:∀p∈m.procs,p.cL.length<=30
theorem PR{m:Model}(h:w2 m)(x:cZ):wq m x<=30:=by
 unfold wq;split
 .rename_i p ar;refine h.cL p ?_;unfold nth at ar;by_cases af:0<=x.proc
  .rw[if_pos af] at ar;exact List.mem_of_getElem? ar
  .rw[if_neg af] at ar;cases ar
 .omega
theorem Wo{m:Model}(h:w2 m):∀(l:C_ cZ) (s:Int×cZ×C_ Ref),s.1<=(l.foldl (mf m) s).1/\(l.foldl (mf m) s).1<=s.1+l.length/\(l.foldl (mf m) s).2.2.length<=s.2.2.length+30*l.length
 | [],s=>by simp
 | x :: r,s=>by
  obtain⟨h1,I,ab⟩:=Wo h r (mf m s x);simp only[List.foldl_cons,List.length_cons];have ay:=PR h x;have bt:s.1<=(mf m s x).1/\(mf m s x).1<=s.1+1:=by unfold mf;simp only;split<;>omega
  have aI:(mf m s x).2.2.length<=s.2.2.length+30:=by unfold mf refsOf;simp only[List.length_append,List.length_map,List.length_range];omega
  omega
theorem aaT{m:Model}(h:w2 m):∀(l:C_ cZ) (i:Nat),(tr m l i).length<=30*l.length
 | [],_=>by simp[tr]
 | x :: r,i=>by
  have:=aaT h r (i+1)
  have:=PR h x
  simp only[tr,List.length_append,refsOf,List.length_map,List.length_range,List.length_cons];omega
theorem yh{m:Model}(h:w2 m):(refs m).length<=4500:=by
 have:=aaT h (insts m) 0
 have:=uo m
 have:=h.procs
 unfold refs;omega
structure TN(m:Model)(r:Ref)(i p k:Nat):Prop where
 U:i<(insts m).length
 pw:r.inst=i
 ip:(insts m)[i].proc=p
 ar:p<m.procs.length
 uH:r.cmd=k
 hk:k<m.procs[p].cL.length
theorem aaU{m:Model}:∀(l:C_ cZ) (i0:Nat) (r:Ref),r∈tr m l i0->∃j,∃aE:j<l.length,r.inst=((i0+j:Nat):Int)/\∃k:Nat,k<wq m l[j]/\r.cmd=k
 | [],_,_,h=>by simp[tr] at h
 | x :: l,i0,r,h=>by
  simp only[tr,List.mem_append] at h;rcases h with h | h
  .unfold refsOf at h;obtain⟨k,hk,rfl⟩:=List.mem_map.1 h;exact⟨0,by simp,by simp,k,by simpa using hk,rfl⟩
  .obtain⟨j,aE,h1,k,I,ab⟩:=aaU l (i0+1) r h;exact⟨j+1,by simpa using aE,by rw[h1];congr 1;omega,k,by simpa using I,ab⟩
theorem aoI{m:Model}{r:Ref}(h:r∈refs m):∃i p k,TN m r i p k:=by
 obtain⟨j,aE,h1,k,I,ab⟩:=aaU _ _ _ h;have ag:=rW (insts m)[j] (List.getElem_mem _);obtain⟨p,ar⟩:=Int.eq_ofNat_of_zero_le ag.aO;have rQ:p<m.procs.length:=by have:=ag.U;omega
 refine⟨j,p,k,aE,by rw[h1];simp,ar,rQ,ab,?_⟩;unfold wq at I;rw[ar,ja (by omega) (by omega)] at I;simpa using I
end o
end
section
namespace bb
open Go Go.RowKit
def UA(cz t:F_)(sz b:Nat)(z:Array B_):yL:=⟨13,[.tmp 4],
 (.iJ (.dk [bN 2 (.box cz (ae 0)),fe 4 (.const (.slice none 0 0))])
 (.tu (.iJ (.dk [aq 6 1])
 (.cu 0 (.ts (ae 6) 7 (.dk [bN 5 (.new t (.agg z)),e6 (.hz sz (ae 5) (ae 7))]) (.cu 1 (.dk [bp 8 2,ez 9 (.dY sz (ae 5)),bN 10 (.fZ t 1 sz z.toList [(0,(ae 9))]),bN 11 (.app cz t sz b (ae 8) (ae 10)),ys 2 11])))))
 (.seq (.dk [bp 12 2,aq 4 12])
 .ret)))⟩
theorem Zy:∀(vs pre post:C_ B_),vs.length<=post.length->(vs.zipIdx pre.length).foldl (fun cs (x:B_×Nat)=>cs.set (0+x.2) x.1) (pre++post)=pre++vs++post.drop vs.length
 | [],pre,post,_=>by simp
 | v :: vs,pre,[],h=>by simp at h
 | v :: vs,pre,p :: post,h=>by
  have eS:=Zy vs (pre++[v]) post (by simpa using h);simp only[List.length_append,List.length_cons,List.length_nil] at eS;simp only[List.zipIdx_cons,List.foldl_cons,List.length_cons,List.drop_succ_cons];rw[show(pre++p :: post).set (0+pre.length) v=(pre++[v])++post from by simp,eS];simp
theorem agB{S:Fr}{sz:Nat}{z cs:C_ B_}{t:Nat}(aB:S t = .agg cs.toArray)(ah:cs.length=sz)(bA:z.length=sz)(af:0<sz):eW S ((List.range 1).map fun i=>(i*sz,sz)) [(0,.tmp t)] z=some cs:=by
 have e:lay z 0 (.agg cs.toArray)=cs:=by
  have:=Zy cs [] z (by omega)
  simp only[List.nil_append,List.length_nil] at this;unfold lay;simp only[Value.cells];rw[this,List.drop_eq_nil_of_le (by omega),List.append_nil]
 have bt:(aS S (.tmp t)).cells.size=sz:=by
  show(S t).cells.size=sz;rw[aB];simp[Value.cells,ah]
 have aI:((List.range 1).map fun i=>(i*sz,sz))[0]? = some (0,sz):=by simp
 unfold eW;simp only[aI];rw[if_pos ⟨bt,by omega⟩];unfold eW;show some (lay z 0 (S t))=_;rw[aB,e]
section
variable{α:Type}{P:Program}{f:FuncId}{t cz:TypeId}{sz b:Nat}{enc:α->List Value}{z:Array Value}
theorem adp(hm:P.follows .mixedOrders=true)(dK:y0 P f=some (UA cz t sz b z))(bA:z.size=sz)(hlen:∀x,(enc x).length=sz)(vQ:∀x,∀u∈enc x,u.oneCell'=true)(dy:0<sz)
  {jz:Nat}{hJ:Array B_}{hK:Nat}{nz:C_ F_}{nL pJ:C_ α->Prop}{N:Nat}{w0 w:A_}(di:okF P jz=true)
  (s0:SeqStopsK Fence.wide 0 P jz hJ (fun x=>#[.agg (enc x).toArray]) (mn hK nz) nL pJ N w0)(he:Ext w0 w)(zz:hK<=w.heap.size)(aB:t∉nz)(EJ:cz∉nz)(cw:cz≠t)(fV:N*b<=140737488355328)(WW:N<=maxLen) :
  a7 P f #[.slice none 0 0,.func (.func jz) #[] hJ] w fun v w'=>(∃xs,nL xs/\aW enc t sz w.heap.size w' v xs)/\Ext w w':=by
 refine gk.start hm dK (args:=[_,_]) (Nat.le_of_ble_eq_true rfl) ?_;dsimp only[UA,ae,cf,js,bD,ez,bN,cb,e6,bT,aq,fe,bl,bp,dE,ys,j2];refine gk.iJ ?_;refine J ?_;intro w1 bo cT al ai;refine J ?_;refine gk.tu (gk.iJ ?_);simp -dsimp only[c0,cB,Nat.reduceAdd,Nat.reduceEqDiff,reduceIte,reduceCtorEq,dd];refine gk.cu (gk.ts (w0:=w0) (enc:=fun x=>.agg (enc x).toArray) (by simp[dp,bL]) di s0 (he.trans al) (mn.ok nz (Nat.le_trans zz al.size))
  (fun pre W=>Mod (fun k=>k=bo) w1 W/\∃(aQ:H_ Addr) (n c:Nat),W.heap[bo]? = some (.cells #[.slice aQ n c] cz)/\aW enc t sz w1.heap.size W (.slice aQ n c) pre) ?_ ⟨Mod.refl _ _,none,0,0,ai,aW.nil _ _ _ _ _⟩ ?_ ?_)
 .rintro pre W b6 row ⟨hm,aQ,n,c,ak,aM⟩ aK aL;refine⟨hm.high aK fun r e=>(aL r e).1,aQ,n,c,?_,aM.mod (Mod.grown (A:=fun k=>row=some k) aK fun k e=>e) fun k hk a=>?_⟩
  .rw[aK.block bo (cy ak) fun e=>?_]
   .exact ak
   .obtain⟨ad,h1,I⟩:=(aL bo e.symm).2;rw[ak] at h1;injection h1 with h1;subst h1;cases I
  .obtain⟨cur,ab⟩:=aM.cu k hk;obtain⟨ad,h1,I⟩:=(aL k a).2;rw[ab] at h1;injection h1 with h1;subst h1;cases I
 .rintro pre x W ⟨hm,aQ,n,c,oE,aM⟩ ch;have X2:=cy ai;have as0:=hm.size
  try (simp -dsimp only[c0,cB,Nat.reduceAdd,Nat.reduceEqDiff,reduceIte,reduceCtorEq,dd])
  refine O_ fun iy dx k9 aJ cc=>?_
  try (simp -dsimp only[c0,cB,Nat.reduceAdd,Nat.reduceEqDiff,reduceIte,reduceCtorEq,dd])
  refine T_ cc bA (by simpa using hlen x) (by simpa using vQ x) fun eP hw av=>?_
  try (simp -dsimp only[c0,cB,Nat.reduceAdd,Nat.reduceEqDiff,reduceIte,reduceCtorEq,dd])
  have aI:=hw.ext aJ k9;refine⟨aI.keeps _,aI.ib (by omega),fun nN vT=>?_⟩;obtain⟨l,aF,lg,iW⟩:=vT.mod;have bu:=vT.cells av;have fW:=vT.cells (aI.obj oE);have eu:aW enc t sz w1.heap.size nN (.slice aQ n c) pre:=(aM.ext aI).mod iW fun k hk a=>by
   subst a;obtain⟨cur,ab⟩:=(aM.ext aI).cu k hk;exact lg _ _ _ ab
  try (simp -dsimp only[c0,cB,Nat.reduceAdd,Nat.reduceEqDiff,reduceIte,reduceCtorEq,dd])
  refine _D fW (Ext.refl _) rfl ?_
  try (simp -dsimp only[c0,cB,Nat.reduceAdd,Nat.reduceEqDiff,reduceIte,reduceCtorEq,dd])
  refine _B (hA bu) (hlen x) ?_
  try (simp -dsimp only[c0,cB,Nat.reduceAdd,Nat.reduceEqDiff,reduceIte,reduceCtorEq,dd])
  refine Y_ (agB (cs:=enc x) (by simp[bL]) (hlen x) (by simpa using bA) dy) fun AM tJ Bv aA bH=>?_
  try (simp -dsimp only[c0,cB,Nat.reduceAdd,Nat.reduceEqDiff,reduceIte,reduceCtorEq,dd])
  have aji:pre.length+1<=N:=ch;refine _X (ys:=[x]) (eu.ext aA) hlen (by simpa using hA bH) rfl vQ (Nat.le_trans (Nat.mul_le_mul_right b aji) fV) (by simp only[List.length_cons,List.length_nil];omega) (by have:=iW.size;have:=aA.size;have:=aI.size;omega) fun b9 pL dL iE kJ=>?_;obtain⟨kv,pN,rfl,_⟩:=dL.form;have fy:=aA.obj fW;have D4:pL.heap[bo]? = some (.cells #[.slice aQ n c] cz):=by
   rw[iE.block bo (cy fy) fun e=>?_]
   .exact fy
   .obtain⟨cur,ab⟩:=(eu.ext aA).cu bo e.symm;rw[fy] at ab;injection ab with ab;injection ab with _ ab;exact cw ab
  try (simp -dsimp only[c0,cB,Nat.reduceAdd,Nat.reduceEqDiff,reduceIte,reduceCtorEq,dd])
  refine _V D4 (by simp) rfl fun k2 gn b4=>?_
  try (simp -dsimp only[c0,cB,Nat.reduceAdd,Nat.reduceEqDiff,reduceIte,reduceCtorEq,dd])
  have fB:∀k,(Value.slice aQ n c).ownBlock=some k->w1.heap.size<=k:=fun k hk=>(eu.lt k hk).1;have al0:Mod (fun k=>(Value.slice aQ n c).ownBlock=some k\/k=bo) AM k2:=(Mod.grown (A:=fun k=>(Value.slice aQ n c).ownBlock=some k) iE fun k e=>e).comp (A':=fun k=>k=bo) (gn.mod rfl) (fun _ _ a=>.inl a) (fun _ _ a=>.inr a);have PI:Mod (fun k=>(Value.slice aQ n c).ownBlock=some k\/k=bo) nN k2:=aA.mod.comp al0 (A:=fun _=>False) (fun _ _ h=>h.elim) (fun _ _ h=>h);refine⟨PI.keeps fun k hk a=>?_,PI.ib (by have:=iW.size;have:=aI.size;omega) (fun k hk a=>?_) (fun k kE ig tU a hk x0=>?_),?_,kv,_,pN,b4,?_⟩
  .rcases a with a | a
   .obtain⟨cur,ab⟩:=eu.cu k a;exact⟨_,_,_,ab⟩
   .subst a;exact⟨_,_,_,fW⟩
  .rcases a with a | a
   .have:=fB k a;have:=al.size;omega
   .omega
  .rcases a with a | a
   .obtain⟨cur,ab⟩:=eu.cu k a;rw[ab] at hk;injection hk with hk;injection hk with _ hk;subst hk;exact aB x0
   .subst a;rw[fW] at hk;injection hk with hk;injection hk with _ hk;subst hk;exact EJ x0
  .refine(hm.comp (B:=fun k=>k=bo) (A':=fun k=>(Value.slice aQ n c).ownBlock=some k\/k=bo\/k=l) ?_ (fun _ _ a=>a) fun k hk a=>?_)
   .exact(aI.mod (A:=fun _=>False)).comp (iW.comp PI (fun _ _ a=>(Or.inr (Or.inr a):_\/_\/_)) (fun _ _ a=>by rcases a with a | a;exact .inl a;exact .inr (.inl a))) (fun _ _ h=>h.elim) (fun _ _ h=>h)
   .rcases a with a | a | a
    .have:=fB k a;omega
    .exact a
    .omega
  .refine dL.mod (gn.mod (A:=fun k=>k=bo) rfl) fun k hk a=>?_;subst a;obtain⟨cur,ab⟩:=dL.cu k hk;rw[D4] at ab;injection ab with ab;injection ab with _ ab;exact cw ab
 .rintro D xs W h4 bZ ⟨hm,aQ,n,c,oE,aM⟩ a6;simp -dsimp only[c0,cB,Nat.reduceAdd,Nat.reduceEqDiff,reduceIte,reduceCtorEq,dd];refine _D oE (Ext.refl _) rfl ?_;simp -dsimp only[c0,cB,Nat.reduceAdd,Nat.reduceEqDiff,reduceIte,reduceCtorEq,dd];refine gk.ret a6 ?_;simp -dsimp only[c0,cB,Nat.reduceAdd,Nat.reduceEqDiff,reduceIte,reduceCtorEq,dd];have bt:Ext w W:=hm.ext al fun k hk e=>by omega
  refine⟨⟨xs,bZ,(aM.mod (A:=fun k=>k=D) ((dn.fr _ _ _).mod rfl) fun k hk a=>?_).low al.size⟩,bt.fr (Nat.le_trans al.size h4) _⟩;subst a;obtain⟨cur,ab⟩:=aM.cu k hk;rw[a6] at ab;injection ab with ab;cases ab
end
end bb
end
section
namespace bb
open Go Go.RowKit
theorem aW.map{α β:Type}{enc:β->C_ B_}{g:α->β}{e:F_}{sz base:Nat}{w:A_}{v:B_}{xs:C_ α}(h:aW (fun x=>enc (g x)) e sz base w v xs):aW enc e sz base w v (xs.map g):=by
 unfold aW at *;rw[List.length_map,List.flatMap_map];exact h
theorem aW.iv{α:Type}{enc:α->C_ B_}{e:F_}{sz base:Nat}{w:A_}{v:B_}{xs:C_ α}(dy:∀x,(enc x).length=sz)(h:aW enc e sz base w v xs):bh sz (Flat enc) w v xs:=aW.jH dy h
theorem aW.new{α:Type}{enc:α->C_ B_}{e:F_}{sz:Nat}{w w':A_}{v:B_}{xs:C_ α}(dy:∀x,(enc x).length=sz)(h:aW enc e sz w.heap.size w' v xs):eD w (fun w=>bh sz (Flat enc) w v xs) w':=fun aH m =>
 aW.jH dy (aW.mod h m fun k hk a=>by have:=(h.lt k hk).1;omega)
end bb
namespace Go.Proofs.R
open Go Go.RowKit bb
abbrev ke(w:A_)(v:B_)(l:C_ o.cZ):Prop:=bh 2 (Flat o.cZ.enc) w v l
abbrev sq(w:A_)(v:B_)(l:C_ o.Ref):Prop:=bh 2 (Flat o.Ref.enc) w v l
theorem Y9(cs:C_ B_)(m:o.Model)(w:A_)(h:o.dV w cs m) :
  a7 Tryz.prog F.a3 #[.agg cs.toArray] w fun v w'=>(∃b,v = .func (.func F.z) #[] #[.pointer (some ⟨b,0,none⟩)]/\w'.heap[b]? = some (.cells cs.toArray T.g))/\Ext w w':=by
 obtain⟨cd,bw,bO,c1,bV,c2,b2,br,cj,bF,rfl,_⟩:=h.form;refine bn E.a3 ?_;refine J ?_;intro w1 bo cT al ai;refine J ?_;exact⟨⟨bo,rfl,ai⟩,al⟩
theorem v7(cs:C_ B_)(m:o.Model)(w:A_)(h:o.dV w cs m)(aK:m.cN) :
  a7 Tryz.prog F.b #[.agg cs.toArray] w fun v w'=>aW o.cZ.enc T.e 2 w.heap.size w' v (o.insts m)/\Ext w w':=by
 obtain⟨cd,bw,bO,c1,bV,c2,b2,br,cj,bF,rfl,_⟩:=h.form;have ar:=aK.procs;have aF:=o.uo m;unfold o.ei at ar;refine bn E.b ?_;refine J ?_;intro w1 bo cT al ai;refine J ?_;refine J_ (Y9 _ m w1 (h.ext al)) ?_;rintro _ aH ⟨⟨b,rfl,av⟩,ao⟩;have c7:Ext w aH:=al.trans ao;refine J ?_;refine J_ (f:=F.iz) (R:=fun v w'=>aW o.cZ.enc T.e 2 aH.heap.size w' v (o.insts m)/\Ext aH w') ?_ ?_
 .refine u1 E.iz ?_;refine nO ?_;refine J ?_;refine J_ (adp (α:=o.xb m) (enc:=fun x=>x.1.enc) lj CO.f5 rfl (fun _=>rfl) (fun x u hu=>by simp[o.cZ.enc] at hu;rcases hu with rfl | rfl<;>rfl) (by decide) (by kernel_rfl)
   (YX av h c7) (Ext.refl _) c7.size (by decide) (by decide) (by decide) (by omega) (by unfold maxLen;omega)) ?_
  rintro v aP ⟨⟨xs,p7,aM⟩,aj⟩;refine J ?_;exact⟨by rw[<-p7];exact aM.map,aj⟩
 .rintro v aP ⟨aM,aj⟩;refine J ?_;exact⟨aM.low c7.size,c7.trans aj⟩
structure lY(w1:World)(b0 cF dx:Nat)(s:Int×o.cZ×List o.Ref)(W:World):Prop where
 mod:Mod (fun k=>k∈[b0,cF,dx]) w1 W
 ex:∃aQ n c,W.heap[b0]? = some (.cells #[.slice aQ n c] T.c)/\aW o.Ref.enc T.i 2 w1.heap.size W (.slice aQ n c) s.2.2
 aD:W.heap[cF]? = some (.cells #[.int .i64 s.1] T.a)
 aY:W.heap[dx]? = some (.cells s.2.1.enc.toArray T.e)
theorem lY.move{w1:A_}{b0 cF dx:Nat}{s:Int×o.cZ×C_ o.Ref}{W b6:A_}{A:Nat->Prop}(h:lY w1 b0 cF dx s W)(m:Mod A W b6)(dh:∀k c t f,W.heap[k]? = some (.cells c t f)->¬A k)(jl:∀k,A k->w1.heap.size<=k):lY w1 b0 cF dx s b6:=by
 obtain⟨aQ,n,c,e,aM⟩:=h.ex;refine⟨h.mod.comp m (fun _ _ a=>a) fun k hk a=>absurd (jl k a) (by omega),⟨aQ,n,c,m.obj (dh _ _ _ _ e) e,aM.mod m fun k hk a=>?_⟩,m.obj (dh _ _ _ _ h.aD) h.aD,m.obj (dh _ _ _ _ h.aY) h.aY⟩;obtain⟨cur,ab⟩:=aM.cu k hk;exact dh _ _ _ _ ab a
theorem lY.ext{w1:A_}{b0 cF dx:Nat}{s:Int×o.cZ×C_ o.Ref}{W b6:A_}(h:lY w1 b0 cF dx s W)(e:Ext W b6):lY w1 b0 cF dx s b6:=h.move (A:=fun _=>False) e.mod (fun _ _ _ _ _ h=>h) fun _ h=>h.elim
theorem xi{W:A_}{k:Nat}{c kE:Array B_}{t ig:F_}{f tU:Nat×Nat}(h:W.heap[k]? = some (.cells c t f))(bd:W.heap[k]? = some (.cells kE ig tU)):t=ig:=by
 rw[h] at bd;injection bd with bd;injection bd
theorem lY.kW{w1:A_}{b0 cF dx:Nat}{s:Int×o.cZ×C_ o.Ref}{W b6:A_}{n:Int}(h:lY w1 b0 cF dx s W)(hw:dn cF W b6)(ah:b6.heap[cF]? = some (.cells #[.int .i64 n] T.a))(n34:b0≠cF)(n45:dx≠cF):lY w1 b0 cF dx (n,s.2) b6:=by
 obtain⟨aQ,k,c,e,aM⟩:=h.ex;refine⟨h.mod.comp (A':=fun k=>k=cF) (hw.mod rfl) (fun _ _ a=>a) fun k hk a=>by simp[a],⟨aQ,k,c,hw.obj e n34,aM.mod (hw.mod (A:=fun k=>k=cF) rfl) fun k hk a=>?_⟩,ah,hw.obj h.aY n45⟩;subst a;obtain⟨cur,ab⟩:=aM.cu k hk;exact absurd (xi ab h.aD) (by decide)
theorem lY.ie{w1:A_}{b0 cF dx:Nat}{s:Int×o.cZ×C_ o.Ref}{W b6:A_}{x:o.cZ}(h:lY w1 b0 cF dx s W)(hw:dn dx W b6)(ah:b6.heap[dx]? = some (.cells x.enc.toArray T.e))(n35:b0≠dx)(n45:dx≠cF):lY w1 b0 cF dx (s.1,x,s.2.2) b6:=by
 obtain⟨aQ,k,c,e,aM⟩:=h.ex;refine⟨h.mod.comp (A':=fun k=>k=dx) (hw.mod rfl) (fun _ _ a=>a) fun k hk a=>by simp[a],⟨aQ,k,c,hw.obj e n35,aM.mod (hw.mod (A:=fun k=>k=dx) rfl) fun k hk a=>?_⟩,hw.obj h.aD (Ne.symm n45),ah⟩;subst a;obtain⟨cur,ab⟩:=aM.cu k hk;exact absurd (xi ab h.aY) (by decide)
theorem lY.app{w1:A_}{b0 cF dx:Nat}{s:Int×o.cZ×C_ o.Ref}{W b6 GF:A_}{aQ kv:H_ Addr}{n c j9 kE:Nat}{l:C_ o.Ref}(h:lY w1 b0 cF dx s W)(he:W.heap[b0]? = some (.cells #[.slice aQ n c] T.c))
  (aM:aW o.Ref.enc T.i 2 w1.heap.size W (.slice aQ n c) s.2.2)(mC:aW o.Ref.enc T.i 2 w1.heap.size b6 (.slice kv j9 kE) l)(aK:W.grownBy b6 (Value.slice aQ n c).ownBlock)(hw:dn b0 b6 GF)
  (ah:GF.heap[b0]? = some (.cells #[.slice kv j9 kE] T.c))(n34:b0≠cF)(n35:b0≠dx):lY w1 b0 cF dx (s.1,s.2.1,l) GF/\eI w1.heap.size [b0,cF,dx] [T.i] W GF:=by
 have bC:eI w1.heap.size [b0,cF,dx] [T.i] W b6:=eI.grown aM aK (by simp);have mJ:∀{k:Nat} {c:Array B_} {t:F_},W.heap[k]? = some (.cells c t)->t≠T.i->b6.heap[k]? = some (.cells c t):=fun {k c t} hk aB=>by
  rw[aK.block k (cy hk) fun e=>?_]
  .exact hk
  .obtain⟨cur,ab⟩:=aM.cu k e.symm;exact aB (xi hk ab)
 have H7:=bC.trans (hw.A8 (by simp));refine⟨⟨eI.from h.mod H7,⟨kv,j9,kE,ah,mC.mod (hw.mod (A:=fun k=>k=b0) rfl) fun k hk a=>?_⟩,hw.obj (mJ h.aD (by decide)) (Ne.symm n34),hw.obj (mJ h.aY (by decide)) (Ne.symm n35)⟩,H7⟩;subst a;obtain⟨cur,ab⟩:=mC.cu k hk;exact absurd (xi ab (mJ he (by decide))) (by decide)
theorem yi(cs:C_ B_)(m:o.Model)(w:A_)(h:o.dV w cs m)(cI:o.w2 m) :
  a7 Tryz.prog F.c #[.agg cs.toArray] w fun v w'=>aW o.Ref.enc T.i 2 w.heap.size w' v (o.refs m)/\Ext w w':=by
 obtain⟨cd,bw,bO,c1,bV,c2,b2,br,cj,bF,rfl,af,h1,I,ab,aD,eU,ek,ev,ef,ew⟩:=h.form;have lJ:=o.uo m;have rQ:=cI.procs;refine gk.start lj CO.c (args:=[_]) (Nat.le_of_ble_eq_true rfl) ?_;dsimp only[D.c,ae,cf,js,bD,ez,bN,cb,e6,bT,aq,fe,bl,bp,dE,ys,j2,cv,cp,qh,fU,gZ,oR,oj,cJ,jL,h0,pC,Lg,CE,nC,uS,uR,rf,lz,wO,List.map_cons,List.map_nil];refine gk.iJ ?_;refine J ?_;intro K5 bo cT qM Ec;refine J ?_;refine gk.iJ ?_;refine J ?_;intro K8 b0 fW pX oE;refine J ?_;refine gk.iJ ?_;refine J ?_;intro yv cF fy nm hf;refine J ?_;intro wd dx k9 pY Xo;have Ii:dx≠cF:=by have:=cy hf;omega
 replace hf:=pY.obj hf;refine J ?_;intro aqZ I6 fl;have ais:=I6.obj Xo Ii;refine J ?_;intro wf I7 Is;replace Is:wf.heap[dx]? = some (.cells (⟨-1,0⟩:o.cZ).enc.toArray T.e):=Is;have FZ:=cy Ec;have F0:=cy oE;have auM:=cy hf;have ME:Ext K5 wf:=I7.ext (I6.ext ((pX.trans nm).trans pY) (by have:=pX.size;omega)) (by have:=pX.size;have:=nm.size;omega);have VQ:Ext K8 aqZ:=I6.ext (nm.trans pY) (by omega);have VR:Ext K8 wf:=I7.ext VQ (by have:=nm.size;omega);have Xb:=VR.obj oE;have ahX:=ME.obj Ec;replace fl:=I7.obj fl (Ne.symm Ii);have n34:b0≠cF:=by omega
 have n35:b0≠dx:=by have:=nm.size;omega
 have auG:=pX.size;have auL:=nm.size;clear ais Xo hf I6 I7 VQ VR oE Ec pX nm pY;refine gk.tu (gk.iJ ?_);refine J ?_;refine J_ (Y9 _ m wf (h.ext (qM.trans ME))) ?_;rintro _ sb ⟨⟨arJ,rfl,Ny⟩,Em⟩;have wU:∀{w'},Ext sb w'->Ext w w':=fun e=>((qM.trans ME).trans Em).trans e;have Il:=Em.obj Xb;have Nn:=Em.obj ahX;have M0:=Em.obj fl;have M3:=Em.obj Is;have aty:=cy Il;have atz:=cy M0;have atA:=cy M3;simp -dsimp only[c0,cB,Nat.reduceAdd,Nat.reduceEqDiff,reduceIte,reduceCtorEq,dd];refine gk.cu (gk.ts (w0:=sb) (enc:=fun x:o.xb m=>YP x.1) (by simp[dp,bL]) (by kernel_rfl) (YX Ny h (wU (Ext.refl _))) (Ext.refl _) (mn.ok _ (wU (Ext.refl _)).size)
  (fun pre W=>lY sb b0 cF dx ((pre.map Subtype.val).foldl (o.mf m) (-1,⟨-1,0⟩,[])) W) ?_ ⟨Mod.refl _ _,⟨none,0,0,Il,aW.nil _ _ _ _ _⟩,M0,M3⟩ ?_ ?_)
 .rintro pre W b6 row h9 aK aL;refine h9.move (A:=fun k=>row=some k) (Mod.grown aK fun k e=>e) (fun k c t f hk a=>?_) fun k a=>(aL k a).1;obtain⟨ad,h1,I⟩:=(aL k a).2;rw[hk] at h1;injection h1 with h1;subst h1;cases I
 .rintro pre x W h9 ch;have tZ:=o.Wo cI (pre.map Subtype.val) (-1,⟨-1,0⟩,[]);simp only[List.length_map,List.length_nil] at tZ;have key:((pre++[x]).map Subtype.val).foldl (o.mf m) (-1,⟨-1,0⟩,[])=o.mf m ((pre.map Subtype.val).foldl (o.mf m) (-1,⟨-1,0⟩,[])) x.1:=by
   rw[List.map_append,List.foldl_append];rfl
  generalize (pre.map Subtype.val).foldl (o.mf m) (-1,⟨-1,0⟩,[])=s at h9 tZ key;have Oq:=o.PR cI x.1;have zD:=x.2;refine eh ?_;intro iy dP fX al b4;refine eh ?_;refine⟨al.keeps _,al.ib (Nat.le_trans (wU (Ext.refl _)).size h9.mod.size),fun eP vT=>?_⟩;obtain⟨l,aF,lg,fA⟩:=vT.mod;replace b4:=vT.cells b4;have vV:lY sb b0 cF dx s eP:=(h9.ext al).move fA (fun k c t f hk a=>by subst a;exact lg _ _ _ hk) fun k a=>by omega
  have aft:sb.heap.size<=eP.heap.size:=vV.mod.size;have ar9:eP.heap[bo]? = sb.heap[bo]? := vV.mod.block bo (cy Nn) (by simp;omega);have X8:dP∉[b0,cF,dx]:=by have:=h9.mod.size;simp;omega
  clear h9 vT fA lg M0 M3 Il fl Xb Is;generalize kJ:(if x.1≠s.2.1 then s.1+1 else s.1)=at' at key;refine eh ?_;refine S_ [1,3,4,5,6] (fun _=>[]) (fun(_:Unit) b6=>lY sb b0 cF dx (at',s.2) b6/\eI sb.heap.size [b0,cF,dx] [T.i] eP b6) ?_ ?_
  .have ar2:=vV.aD;have WD:=vV.aY;refine J ?_;refine _7 (sig:=o.abp) (by kernel_rfl) (o.Vn _) (o.Vn _) fun r aL=>?_;refine J ?_;refine N_ (fun g1=>?_) (fun g1=>?_)
   .have cw:x.1≠s.2.1:=fun e=>aL.1 g1 (by rw[e]);rw[if_pos cw] at kJ;subst kJ;refine J ?_;intro nN gd bu;refine J ?_;exact⟨(),trivial,vV.kW gd bu n34 Ii,gd.A8 (by simp)⟩
   .have heq:x.1=s.2.1:=o.akT _ _ (Classical.byContradiction fun ay=>by rw[aL.2 ay] at g1;cases g1);rw[if_neg (by simp[heq])] at kJ;subst kJ;refine J ?_;exact⟨(),trivial,vV,(Ext.refl eP).A8⟩
  rintro _ S nN ⟨OO,Xp⟩;replace b4:=eI.obj Xp b4 X8 (by decide);have No:=OO.mod.block bo (cy Nn) (by simp;omega);rw[Nn] at No;have WD:=OO.aY;have VG:∀b∈[b0,cF,dx],w.heap.size<=b:=fun b ak=>by
   have:=qM.size
   simp at ak;rcases ak with rfl | rfl | rfl<;>omega
  refine eh ?_;simp -dsimp only[cB];refine eh ?_;intro AM du bH;have Yw:=OO.ie du bH n35 Ii;have aiu:=eI.trans Xp (du.A8 (by simp));have asa:=du.obj No (by omega);replace b4:=du.obj b4 (by simp at X8;omega);have Dy:Ext w AM:=Yw.mod.ext (wU (Ext.refl _)) fun k hk a=>by have:=VG k a;omega
  clear No WD;obtain⟨B3,zw⟩:=Int.eq_ofNat_of_zero_le zD.aO;have p2:B3<m.procs.length:=by have:=zD.U;omega
  obtain⟨a,rfl⟩:=ab.addr;obtain⟨an,b7,ec,dD,e2,fO⟩:=ab.at B3 p2;obtain⟨_,_,rfl,_⟩:=e2.form;obtain⟨_,_,rfl,lc⟩:=fO.form;have ns:o.wq m x.1=m.procs[B3].cL.length:=by
   unfold o.wq;rw[zw,o.ja (by omega) (by omega)];simp
  rw[ns] at Oq;refine J ?_;refine K_ B3 zw p2 ?_;refine J ?_;refine L_ 26 m.procs[B3].cL.length [1,3,4,5,6,25] (fun _=>[]) () (fun j _ b6=>lY sb b0 cF dx (at',x.1,s.2.2++o.refsOf at' j) b6/\eI sb.heap.size [b0,cF,dx] [T.i] eP b6) bc bc ⟨by simpa[o.refsOf] using Yw,aiu⟩ ?_;rintro j _ S k2 aE ⟨EI,NC⟩;refine J ?_;apply I_<;>intro g2
  .obtain⟨aQ,n,c,ba,aM⟩:=EI.ex;have bG:=EI.aD;have as7:=EI.mod.size;refine J ?_;intro rq arH h6 bz c9;refine J ?_;have hlen:(s.2.2++o.refsOf at' j).length+1<=5000:=by
    simp only[List.length_append,o.refsOf,List.length_map,List.length_range];omega
   refine _X (ys:=[(⟨at',(j:Int)⟩:o.Ref)]) (aM.ext bz) (fun _=>rfl) (by simpa[o.Ref.enc] using hA c9) rfl (by intro y u hu;simp[o.Ref.enc] at hu;rcases hu with rfl | rfl<;>rfl)
    (by simp only[List.length_cons,List.length_nil];omega) (by simp only[List.length_cons,List.length_nil];unfold maxLen;omega) (by have:=bz.size;omega) fun b9 ac1 hr zt _=>?_
   obtain⟨kv,pN,rfl,_⟩:=hr.form;have arX:ac1.heap[b0]? = some (.cells #[.slice aQ n c] T.c):=by
    rw[zt.block b0 (cy (bz.obj ba)) fun e=>?_]
    .exact bz.obj ba
    .obtain⟨cur,ab⟩:=(aM.ext bz).cu b0 e.symm;exact absurd (xi ab (bz.obj ba)) (by decide)
   refine J ?_;intro arA hG dX;obtain⟨akr,aiv⟩:=(EI.ext bz).app (bz.obj ba) (aM.ext bz) hr zt hG dX n34 n35;refine J ?_;exact⟨by omega,aU,(),trivial,by rw[o.aoH,<-List.append_assoc];exact akr,eI.trans NC (eI.trans bz.A8 aiv)⟩
  .have nZ:j=m.procs[B3].cL.length:=by omega
   refine J ?_;refine⟨eI.keeps NC (fun b ak=>?_),eI.ib NC (Nat.le_trans (wU (Ext.refl _)).size aft) (wU (Ext.refl _)).size (fun b ak=>⟨VG b ak,fun c t f hk aB=>?_⟩) (by decide),?_⟩
   .simp at ak;rcases ak with rfl | rfl | rfl<;>omega
   .simp at ak;rcases ak with rfl | rfl | rfl
    .obtain⟨_,_,_,e,_⟩:=vV.ex
     have:=xi hk e;subst this;revert aB;decide
    .have:=xi hk vV.aD;subst this;revert aB;decide
    .have:=xi hk vV.aY;subst this;revert aB;decide
   .show lY sb b0 cF dx _ k2;rw[key]
    have:o.mf m s x.1=(at',x.1,s.2.2++o.refsOf at' j):=by unfold o.mf;rw[kJ,ns,nZ]
    rw[this];exact EI
 .rintro D xs W h4 bZ h9 a6;obtain⟨aQ,n,c,ba,aM⟩:=h9.ex;have sV:=o.aoJ m;rw[bZ] at aM;rw[sV] at aM;simp -dsimp only[c0,cB,Nat.reduceAdd,Nat.reduceEqDiff,reduceIte,reduceCtorEq,dd];refine _D ba (Ext.refl _) rfl ?_;simp -dsimp only[c0,cB,Nat.reduceAdd,Nat.reduceEqDiff,reduceIte,reduceCtorEq,dd];refine gk.ret a6 ?_;simp -dsimp only[c0,cB,Nat.reduceAdd,Nat.reduceEqDiff,reduceIte,reduceCtorEq,dd];have HG:w.heap.size<=sb.heap.size:=(wU (Ext.refl _)).size;have bt:Ext w W:=h9.mod.ext (wU (Ext.refl _)) fun k hk a=>by
   have:=qM.size
   simp at a;rcases a with rfl | rfl | rfl<;>omega
  refine⟨(aM.mod (A:=fun k=>k=D) ((dn.fr _ _ _).mod rfl) fun k hk a=>?_).low HG,bt.fr (Nat.le_trans HG h4) _⟩;subst a;obtain⟨cur,ab⟩:=aM.cu k hk;rw[a6] at ab;injection ab with ab;cases ab
end Go.Proofs.R
end
section
namespace o
theorem YQ:∀(y:cZ),∀u∈y.enc,u.oneCell'=true:=by intro y u hu;simp[cZ.enc] at hu;rcases hu with rfl | rfl<;>rfl
end o
namespace Go.Proofs.R
open Go Go.RowKit bb
theorem Qt(cs:C_ B_)(m:o.Model)(w:A_)(h:o.dV w cs m)(aK:m.cN) :
  a7 Tryz.prog F.JV #[.agg cs.toArray] w fun v w'=>aW o.cZ.enc T.e 2 w.heap.size w' v (o.insts m)/\Ext w w':=by
 obtain⟨cd,bw,bO,c1,bV,c2,b2,br,cj,bF,rfl,af,h1,I,ab,aD,eU,ek,ev,ef,ew⟩:=h.form;have ar:=aK.procs;have aF:=o.uo m;unfold o.ei at ar;refine bn E.JV ?_;refine J ?_;intro w1 bo cT al ai;refine J ?_;refine L_ 4 m.procs.length [1] (fun x:hc×C_ o.cZ=>[(3,.slice x.1.1 x.1.2.1 x.1.2.2)]) ((none,0,0),[]) (fun k x w'=>(Ext w w'/\w'.heap[bo]? = w1.heap[bo]?)/\aW o.cZ.enc T.e 2 w.heap.size w' (.slice x.1.1 x.1.2.1 x.1.2.2) x.2/\x.2++o.jD m (m.procs.drop k) k=o.insts m) bc bc ⟨⟨al,rfl⟩,aW.nil _ _ _ _ _,by simp[o.insts]⟩ ?_;rw[ai];clear ai;rintro k ⟨v,l⟩ S aH hk ⟨⟨ao,av⟩,fo,rM⟩;refine J ?_;apply I_<;>intro g1
 .have aZ:k<m.procs.length:=by omega
  obtain⟨a,rfl⟩:=ab.addr;obtain⟨an,b7,ec,dD,e2,fO⟩:=ab.at k aZ;obtain⟨_,_,rfl,_⟩:=e2.form;obtain⟨_,_,rfl,_⟩:=fO.form;rw[o.YR aZ] at rM;have xR:=congrArg List.length rM;simp only[List.length_append] at xR;have ue:=o.DA m m.procs[k];refine eh ?_;simp -dsimp only[cB];refine eh ?_;refine S_ [1,4] (fun x:hc=>[(3,.slice x.1 x.2.1 x.2.2)]) (fun x w'=>(Ext w w'/\w'.heap[bo]? = aH.heap[bo]?)/\aW o.cZ.enc T.e 2 w.heap.size w' (.slice x.1 x.2.1 x.2.2) (l++o.jb k m.procs[k])) ?_ ?_
  .refine J ?_;apply I_<;>intro g2
   .have bt:o.jb k m.procs[k]=[⟨(k:Int),0⟩]:=by unfold o.jb;rw[if_pos g2]
    rw[bt] at xR ⊢;simp only[List.length_cons,List.length_nil] at xR;refine J ?_;intro aP b0 fW aj bu;have eu:=fo.ext aj;have oE:=aj.obj av;refine J ?_;refine V_ (y:=⟨(k:Int),0⟩) eu bu rfl (fun _=>rfl) o.YQ (by simp only;omega) (by unfold maxLen;simp only;omega) (ao.trans aj).size fun aQ n c aR eR BF=>?_;refine J ?_;exact⟨(aQ,n,c),bc,⟨eu.mw (ao.trans aj) BF (Nat.le_refl _),by rw[av];exact eu.box BF oE (by decide)⟩,eR⟩
   .have bt:o.jb k m.procs[k]=[]:=by unfold o.jb;rw[if_neg g2]
    refine J ?_;exact⟨v,bc,⟨ao,aU⟩,by rw[bt,List.append_nil];exact fo⟩
  rintro v3 S aP ⟨⟨aj,bu⟩,eu⟩;rw[av] at bu;clear av;refine J ?_;refine _W [1,4] (fun x:hc×Nat=>[(3,.slice x.1.1 x.1.2.1 x.1.2.2),(5,.int .i64 ((x.2:Int)+1))]) (v3,0) (fun x w'=>(x.2<=o.elems m m.procs[k]/\Ext w w'/\w'.heap[bo]? = aP.heap[bo]?)/\aW o.cZ.enc T.e 2 w.heap.size w' (.slice x.1.1 x.1.2.1 x.1.2.2) (l++o.jb k m.procs[k]++o.jF k x.2)) (fun x=>4 - x.2) bc ⟨⟨Nat.zero_le _,aj,rfl⟩,by simpa[o.jF] using eu⟩ ?_;rw[bu];clear bu;rintro⟨v4,j⟩ S aR ⟨⟨aE,aA,bH⟩,eR⟩;refine J ?_;refine P_ _ (fun w' e=>aow _ m m.procs[k] _ _ w' (h.ext (aA.trans e))) ?_;refine J ?_;intro bq aJ;have cc:=aJ.obj bH;have dL:=eR.ext aJ;refine J ?_;apply I_<;>intro g2
  .have et:j<o.elems m m.procs[k]:=by omega
   refine J ?_;intro bB dP fX aT b4;have dB:=dL.ext aT;have oE:=aT.obj cc;have BA:=(aA.trans aJ).trans aT;refine J ?_;have jl:(l++o.jb k m.procs[k]++o.jF k j).length+1<=(o.insts m).length:=by
    simp only[List.length_append,o.jF,List.length_map,List.length_range] at xR ⊢;omega
   refine V_ (y:=⟨(k:Int),(j:Int)+1⟩) dB b4 rfl (fun _=>rfl) o.YQ (Nat.le_trans (Nat.mul_le_mul_right 16 jl) (by omega)) (Nat.le_trans jl (by unfold maxLen;omega)) BA.size fun aQ n c bQ dS lb=>?_;refine J ?_;exact⟨((aQ,n,c),j+1),bc,⟨⟨by show j+1<=_;omega,dB.mw BA lb (Nat.le_refl _),dB.box lb oE (by decide)⟩,by rw[o.aag,<-List.append_assoc];exact dS⟩,by show 4 - (j+1)<4 - j;omega⟩
  .have nZ:j=o.elems m m.procs[k]:=by simp only at aE;omega
   refine J ?_;exact⟨aZ,aU,(v4,l++(o.jb k m.procs[k]++o.jF k j)),bc,⟨aA.trans aJ,cc⟩,by rw[<-List.append_assoc];exact dL,by rw[nZ,<-rM];simp⟩
 .rw[List.drop_eq_nil_of_le (by omega)] at rM;refine J ?_;refine⟨?_,ao⟩;simp only[o.jD,List.append_nil] at rM;rw[<-rM];exact fo
end Go.Proofs.R
end
section
namespace bb
open Go
def cR(n:Int):C_ B_:=[.int .i64 n]
theorem rC:∀(y:Int),∀u∈cR y,u.oneCell'=true:=by intro y u hu;simp[cR] at hu;subst hu;rfl
instance atc:qj (Flat cR) (fun n=>[Value.int .i64 n]):=⟨fun _ _ _ h=>h⟩
end bb
end
section
namespace Go.Proofs.R
open Go Go.RowKit bb
abbrev encI:Int->C_ B_:=fun n=>[Value.int .i64 n]
abbrev mU(base:Nat)(w:A_)(v:B_)(xs:C_ Int):Prop:=aW encI T.a 1 base w v xs
structure qn(base b:Nat)(w:World)(m:Value)(st:List Int):Prop where
 ex:∃Ac,w.heap[b]? = some (.cells #[Ac,m] T.mX)/\mU base w Ac st
 lt:b<base
 le:base<=w.heap.size
theorem qn.ext{base b:Nat}{w w':A_}{m:B_}{st:C_ Int}(h:qn base b w m st)(he:Ext w w'):qn base b w' m st :=
 let ⟨Ac,h1,I⟩:=h.ex
 ⟨⟨Ac,he.obj h1,I.ext he⟩,h.lt,Nat.le_trans h.le he.size⟩
theorem DK(st:C_ Int)(h:0<st.length):st.getLastD 0=st[st.length - 1]:=by
 rw[List.getLastD_eq_getLast?,List.getLast?_eq_getElem?,List.getElem?_eq_getElem (by omega)];rfl
theorem abQ(base b:Nat)(w:A_)(m:B_)(st:C_ Int)(h:qn base b w m st)(af:0<st.length) :
  a7 Tryz.prog F.HI #[.pointer (some ⟨b,0,none⟩)] w fun v w'=>v = .int .i64 (st.getLastD 0)/\Ext w w':=by
 obtain⟨Ac,cU,aM⟩:=h.ex;obtain⟨aQ,cap,rfl,ah,hm⟩:=aM.form;have U:Ints w _ st:=aW.jH (enc:=encI) (sz:=1) (fun _=>rfl) aM;obtain⟨a,rfl⟩:=U.addr af;unfold maxLen at hm;refine bn E.HI ?_;refine az ?_;refine K_ (st.length - 1) (by omega) (by omega) ?_;refine az ?_;intro w1 he;refine az ?_;rw[DK _ af];exact ca
theorem ale(x:o.Node)(cs:C_ B_)(s:o.Scope)(base b:Nat)(w:A_)(m:B_)(st:C_ Int)(ag:x.ok)(h:o.fJ w cs s)(hm:qn base b w m st)(ab:x.op=3->0<st.length) :
  a7 Tryz.prog F.Hy #[.pointer (some ⟨b,0,none⟩),.agg x.enc.toArray,.agg cs.toArray] w fun v w'=>v = .tuple #[.int .i64 (o.iY x s (st.getLastD 0)).1,.int .i64 (o.iY x s (st.getLastD 0)).2]/\Ext w w':=by
 obtain⟨a0,bw,df,c1,a2,c2,a3,br,a4,bF,rfl,q2,cV,dq,dU,hy,eU,ek,ev,ef,ew⟩:=h.form;refine bn E.Hy ?_;simp -dsimp only[cB];refine qv ?_;refine O_ fun w1 bo cT al ai=>?_;refine qv ?_;refine O_ fun aH bR dt ao av=>?_;have he:=al.trans ao;have cC:aH.heap[bo]? = some (.cells #[.int .i64 x.op,.int .i64 x.n] T.f):=ao.obj ai;clear ai;refine qv ?_;simp -dsimp only[cB];refine qv ?_;refine _s (fun aX w'=>aX 0 = .pointer (some ⟨b,0,none⟩)/\aX 4 = .pointer (some ⟨bo,0,none⟩)/\aX 5 = .pointer (some ⟨bR,0,none⟩)/\w'=aH/\(x.op=2\/x.op=3\/x.op=4) /\
  aX 8=if x.op=4 then .slice a4 s.locals.length bF else .slice df s.vars.length c1) ?_ ?_
 .refine az ?_;apply I_<;>intro g1
  .refine az ?_;refine J_ (LN x.n 0 aH) ?_;rintro _ aP ⟨rfl,aj⟩;have hk:o.iY x s (st.getLastD 0)=if o.within x.n then (0,0) else (0,10):=by rw[o.iY,if_pos g1]
   have aB:(o.tell (· + ·) x.n 0).2=o.within x.n:=by
    unfold o.tell
    have:o.within 0=true:=rfl
    simp only[Int.add_zero,this,Bool.and_true,Bool.and_self];split<;>simp_all
   rw[hk,aB];refine az ?_;refine N_ (fun g2=>?_) (fun g2=>?_)
   all_goals
    refine az ?_;rw[g2];exact ca
  refine az ?_;apply I_<;>intro g4
  .refine az ?_;refine⟨trivial,trivial,trivial,trivial,.inr (.inr g4),by rw[if_pos g4]⟩
  refine az ?_;apply I_<;>intro g2
  .refine az ?_;refine⟨trivial,trivial,trivial,trivial,.inl g2,by rw[if_neg g4]⟩
  refine az ?_;apply I_<;>intro g3
  .refine az ?_;refine⟨trivial,trivial,trivial,trivial,.inr (.inl g3),by rw[if_neg g4]⟩
  refine az ?_;refine R_ (c:=[_,_]) cC (Ext.refl _) rfl ?_;refine az ?_;refine R_ (c:=[_,_,_,_,_,_]) av (Ext.refl _) rfl ?_;refine az ?_;refine J_ (alf x _ s aH ag (h.ext he)) ?_;rintro _ aP ⟨rfl,aj⟩;refine az ?_;have hk:o.iY x s (st.getLastD 0)=o.mc x s:=by rw[o.iY,if_neg g1,if_neg (by omega)]
  rw[hk];exact ca
 .rintro S w' bZ ⟨jZ,q5,q6,rfl,l9,abi⟩;have hk:o.iY x s (st.getLastD 0)=(let q:=o.fY (if x.op=4 then s.locals else s.vars) x.n s;if q.2.2=false then (0,8) else if (x.op=3/\(q.2.1=0\/st.getLastD 0≠q.2.1))\/(x.op≠3/\q.2.1≠0) then (0,9) else (q.1,0)):=by
   rw[o.iY,if_neg (by omega),if_pos l9]
  rw[hk];clear hk;have aG:o.hP w' (S 8) (if x.op=4 then s.locals else s.vars):=by
   rw[abi];split
   .exact hy.ext he
   .exact cV.ext he
  generalize (if x.op=4 then s.locals else s.vars)=l at aG ⊢;obtain⟨Rg,gm⟩:∃Rg,S 8=Rg:=⟨_,rfl⟩;rw[gm] at aG;clear abi;refine dm (i_ jZ (i_ q5 (i_ q6 gm))) ?_;refine R_ (c:=[_,_,_,_,_,_]) av (Ext.refl _) rfl ?_;refine dm (i_ jZ (i_ q5 q6)) ?_;refine J_ (aqI _ l x.n _ s w' aG (h.ext he)) ?_;rintro _ aP ⟨rfl,aj⟩;generalize o.fY l x.n s=q;obtain⟨yg,zY,Qh⟩:=q;refine dm (i_ jZ (i_ q5 q6)) ?_;refine N_ (fun g1=>?_) (fun g1=>?_);rotate_left
  .refine az ?_;simp only[g1,if_true];exact ca
  have m3:=(hm.ext he).ext aj;refine dm (i_ jZ (i_ q5 q6)) ?_;apply I_<;>intro g2
  .refine dm (i_ jZ (i_ q5 q6)) ?_;apply I_<;>intro g3
   .refine dm (i_ jZ (i_ q5 q6)) ?_;simp only[g1,Bool.true_eq_false,if_false];rw[if_pos (.inl ⟨g2,.inl g3⟩)];exact ca
   refine dm (i_ jZ (i_ q5 q6)) ?_;refine J_ (abQ base b aP m st m3 (ab g2)) ?_;rintro _ aR ⟨rfl,aA⟩;refine dm (i_ jZ (i_ q5 q6)) ?_;apply I_<;>intro g4
   .refine dm (i_ jZ (i_ q5 q6)) ?_;simp only[g1,Bool.true_eq_false,if_false];rw[if_neg (by omega)];exact ca
   .refine az ?_;simp only[g1,Bool.true_eq_false,if_false];rw[if_pos (.inl ⟨g2,.inr g4⟩)];exact ca
  .refine dm (i_ jZ (i_ q5 q6)) ?_;apply I_<;>intro g4
   all_goals
    refine az ?_;simp only[g1,Bool.true_eq_false,if_false]
   .rw[if_neg (by omega)];exact ca
   .rw[if_pos (.inr ⟨g2,g4⟩)];exact ca
end Go.Proofs.R
end