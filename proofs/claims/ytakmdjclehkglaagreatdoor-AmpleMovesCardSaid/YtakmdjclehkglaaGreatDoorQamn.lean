/- Parts. -/
import Derived.Test.YtakmdjclehkglaaGreatDoorQamm
import Derived.Laws.Bits64b
import Derived.Lib.AppendZerosOnto
set_option linter.all false
set_option maxRecDepth 8000
set_option maxHeartbeats 6400000
namespace Go.Proofs.R
open Go Go.RowKit ba o
def asS(xs:C_ B_)(m:o.Model)(v:B_)(s:C_ Int)(w:A_)(ck:jq w xs (o.layout m))(aL:eE m)(aj:c3 w v s)(aE:s.length=di m) :
  Ei F.Me #[.agg xs.toArray,v] w λu w'=>(∃t:Bool,u = .bool t/\(t=true↔∀i (h:i<s.length) (bq:i<(cp m).length),(cp m)[i].aV<=s[i]/\s[i]<=(cp m)[i].U))/\Ext w w':=by
 obtain⟨k1,d0,ir,d1,jn,d2,nt,d3,mG,d4,rfl,dF,cR,cA,eN,fs⟩:=ck.form;obtain⟨ei,eZ,rfl,fa⟩:=aj.form;have AE:(o.layout m).cells=(di m:Int):=rfl;have f2:=Ld m;have f3:=Lb m;have jN:di m<=64:=iH aL;have kA:(cp m).length=s.length:=aE.symm;refine bk E.Me ?_;refine I ?_;intro w1 bx cN af al;have sT:=al;clear al;replace aj:=aj.ext Flat.ext af;replace eN:=eN.ext Flat.ext af;replace fs:=fs.ext Flat.ext af;refine I ?_;refine L_ 5 s.length [1,2] (λ_:Unit=>[]) () (λk _ W=>Ext w1 W/\∀j (h:j<s.length) (bq:j<(cp m).length),j<k->(cp m)[j].aV<=s[j]/\s[j]<=(cp m)[j].U) a6 a6 ⟨Ext.refl _,λj _ _ h=>absurd h (E3 _)⟩ ?_;rintro k _ S az hk ⟨ai,dx⟩;have al:=ai.obj sT;refine I ?_;apply I_<;>intro g3
 .have a1:k<s.length:=Aw
  have oq:k<(cp m).length:=Aw
  have dU:(o.layout m).aV[k]' Aw=(cp m)[k].aV:=Lc _ oq;have eg:(o.layout m).U[k]' Aw=(cp m)[k].U:=La _ oq;obtain⟨nY,rfl⟩:=aj.addr;obtain⟨a3,rfl⟩:=eN.addr;obtain⟨a4,rfl⟩:=fs.addr;have bad:¬((cp m)[k].aV<=s[k]/\s[k]<=(cp m)[k].U)->(false=true↔∀i (h:i<s.length) (bq:i<(cp m).length),(cp m)[i].aV<=s[i]/\s[i]<=(cp m)[i].U):=λh=>by
   simp only[Bool.false_eq_true,false_iff];exact λcI=>h (cI k a1 oq)
  have aD:=af.trans ai;refine I ?_;apply I_<;>intro g4
  .refine I ?_;intro aM ag;refine I ?_;exact⟨⟨false,rfl,bad Aw⟩,aD.trans ag⟩
  refine I ?_;intro aM ag;apply I_<;>intro g5
  .refine I ?_;exact⟨⟨false,rfl,bad Aw⟩,aD.trans ag⟩
  refine I ?_;refine⟨a1,aJ,(),trivial,ai.trans ag,λj h bq ay=>?_⟩;by_cases hj:j=k
  .subst hj;omega
  .exact dx j h bq Aw
 .refine I ?_;exact⟨⟨true,rfl,by simp only[true_iff];exact λj h bq=>dx j h bq Aw⟩,af.trans ai⟩
def aek(cs xs:C_ B_)(m:o.Model)(v:B_)(s:C_ Int)(w:A_)(h:dh w cs m)(ck:jq w xs (o.layout m))(aL:eE m)(aj:c3 w v s) :
  Ei F.L9 #[.agg cs.toArray,.agg xs.toArray,v] w λu w'=>(∃t:Bool,u = .bool t/\(t=true↔o.Fits m s))/\Ext w w':=by
 have b2:=h;have pJ:=ck;obtain⟨bZ,bz,bN,c1,bT,c2,bW,bw,b1,bD,rfl,ad,h1,J,ab,aF,eB,dD,dO,dU,eg⟩:=h.form;obtain⟨k1,d0,ir,d1,jn,d2,nt,d3,mG,d4,rfl,dF,cR,cA,eN,fs⟩:=ck.form;obtain⟨ei,eZ,rfl,fa⟩:=aj.form;have AE:(o.layout m).cells=(di m:Int):=rfl;have jN:di m<=64:=iH aL;have gj:=aL.gj;refine bk E.L9 ?_;refine I ?_;intro w1 bx cN af al;refine I ?_;intro az bP c8 ai ao;replace al:=ai.obj al;have aD:=af.trans ai;replace aj:=aj.ext Flat.ext aD;refine I ?_;apply I_<;>intro g1;rotate_left
 .refine I ?_;exact⟨⟨false,rfl,by simp only[Bool.false_eq_true,false_iff];intro h;have:=h.len;omega⟩,aD⟩
 have aE:s.length=di m:=Aw
 have sT:=al;have Ga:=ao;clear al ao;refine I ?_;refine L_ 7 m.aA.length [2,3,4] (λ_:Unit=>[]) () (λk _ W=>Ext az W/\∀j (h:j<m.aA.length),j<k->mh m.scalars m.aA[j] (n4 m j m.aA[j] s)) a6 a6 ⟨Ext.refl _,λj _ h=>absurd h (E3 _)⟩ ?_;rintro k _ S aM hk ⟨ag,dx⟩;have al:=ag.obj sT;have ao:=ag.obj Ga;have aO:=aD.trans ag;have gT:=aj.ext Flat.ext ag;refine I ?_;apply I_<;>intro g2
 .have a1:k<m.aA.length:=Aw
  obtain⟨je,eH⟩:=qc a1;have oo:=wL a1;have eI:=nC m;have hT:=(aL.chan _ (E2 a1)).cap;obtain⟨db,rfl⟩:=cR.addr;obtain⟨a2,rfl⟩:=J.addr;have ayg:=cR.ext Flat.ext aO;have dK:=((J.at k a1).cells).ext aO;refine I ?_;refine _W (k:=.i64) (k':=.i64) (b6 m k) (b6 m k+(1+m.aA[k].cap.toNat)) gT (by simp[dc,bE,eH]) (by simp[dc,bE,eH];omega) Aw Aw λae c au=>?_;rw[show b6 m k+(1+m.aA[k].cap.toNat) - b6 m k=1+m.aA[k].cap.toNat from Aw] at au ⊢;replace au:bm 1 (Flat bX) aM (.slice ae (1+m.aA[k].cap.toNat) c) (n4 m k m.aA[k] s):=au;refine I ?_;refine P_ (.bool (HB m.scalars m.aA[k] (n4 m k m.aA[k] s))) (λw' e=>(asq _ m _ _ k w' (b2.ext (aO.trans e)) aL a1 (au.ext Flat.ext e) au.len.1.symm).mono λu bO ⟨⟨t,aB,av⟩,he⟩=>⟨by rw[aB,ar0 av],he⟩) ?_;refine I ?_;intro aR aq;refine N_ (λav=>?_) (λav=>?_)
  .refine I ?_;refine⟨a1,aJ,(),trivial,ag.trans aq,λj h ay=>?_⟩;by_cases hj:j=k
   .subst hj;exact TK.1 av
   .exact dx j h Aw
  .refine I ?_;exact⟨⟨false,rfl,by simp only[Bool.false_eq_true,false_iff];intro h;have:=TK.2 (h.queue k a1);rw[av] at this;cases this⟩,aO.trans aq⟩
 .refine I ?_;refine J_ (asS _ m _ s aM (pJ.ext aO) aL gT aE) ?_;rintro _ aR ⟨⟨t,rfl,aB⟩,aq⟩;refine I ?_;exact⟨⟨t,rfl,aB.trans ⟨λh=>⟨aE,λj ay=>dx j ay Aw,h⟩,λh=>h.cell⟩⟩,aO.trans aq⟩
def asg(cs:C_ B_)(m:o.Model)(v:B_)(s:C_ Int)(w:A_)(h:dh w cs m)(aG:m.cr)(aj:c3 w v s) :
  Ei F.Ma #[.agg cs.toArray,v] w λu w'=>(∃t:Bool,u = .bool t/\(t=true↔gE m s))/\Ext w w':=by
 have aL:=h;obtain⟨bZ,bz,bN,c1,bT,c2,bW,bw,b1,bD,rfl,_⟩:=h.form;obtain⟨ei,eZ,rfl,fa⟩:=aj.form;refine bk E.Ma ?_;refine I ?_;intro w1 bx cN af al;refine I ?_;intro az ai;replace al:=ai.obj al;have aD:=af.trans ai;refine I ?_;refine J_ (MQ _ m az (aL.ext aD) aG) ?_;rintro _ aM ⟨rfl,ag⟩;have aO:=aD.trans ag;refine⟨ag,?_⟩;by_cases hk:(o.check m).cJ=0
 .rw[decide_eq_true hk];refine I ?_;refine J_ (T0 _ m aM (aL.ext aO) aG) ?_;rintro _ aR ⟨⟨xs,rfl,ck⟩,aq⟩;replace ck:=ck.here;rw[zw hk] at ck;have bo:=aO.trans aq;refine⟨ag.trans aq,?_⟩;refine I ?_;refine J_ (aek _ _ m _ s aR (aL.ext bo) ck (gU hk) (aj.ext Flat.ext bo)) ?_;rintro _ bg ⟨⟨t,rfl,aB⟩,ar⟩;refine I ?_;exact⟨⟨t,by cases t<;>rfl,aB.trans ⟨λh=>⟨hk,h⟩,λh=>h.2⟩⟩,bo.trans ar⟩
 .rw[decide_eq_false hk];refine I ?_;exact⟨⟨false,rfl,by simp only[Bool.false_eq_true,false_iff];exact λh=>hk h.1⟩,aO⟩
end Go.Proofs.R
namespace ba
open Go Go.RowKit
def oy(l:C_ Int):C_ B_:=l.map (Value.int .i64)
def acy(l:C_ Int):(oy l).length=l.length:=by simp[oy]
def acz{l:C_ Int}{d j:Nat}{x:Int}(ay:j=d)(h:j<(oy l).toArray.size):(oy l).toArray.set j (.I x) h=(oy (l.set d x)).toArray:=by
 subst ay;simp[oy,List.map_set]
def avm(n:Nat):sr (Value.int .i64 0).cells (n*1)=(oy (List.replicate n 0)).toArray:=by
 apply Array.ext_getElem?;intro i;by_cases h:i<n
 .simp[sr,oy,Value.cells,h,Nat.mod_one]
 .simp[sr,oy,h]
def _y{cO:B_->A_->Prop}{w:A_}{e:F_}{n:Int}{t}(N:Nat)(aw:n=N)(ak:N<=1000000)(hk:∀w1 b,w.heap.size<=b->Ext w w1->w1.heap[b]? = some (.cells (oy (List.replicate N 0)).toArray e)->cO (.slice (some ⟨b,0,none⟩) N N) w1) :
  EN e 1 8 (.I 0) (.I n) (.I n) w cO t:=by
 subst aw;refine _6 ⟨Aw,Aw,Aw,Aw⟩ ?_;have h:=hk (w.alloc (.cells (oy (List.replicate N 0)).toArray e)) _ (E1 _) ((Ext.refl w).alloc _) (heap_alloc_new w _);rw[AG8,avm];exact h
theorem G7:∀l:C_ Int,oy l=l.flatMap bX
 | []=>rfl
 | x :: r=>by
  have:=G7 r
  simp only[oy,List.map_cons,List.flatMap_cons] at this ⊢;rw[this];rfl
def Tm{w:A_}{b n:Nat}{e:F_}{l:C_ Int}(h:w.heap[b]? = some (.cells (oy l).toArray e))(aw:n=l.length)(hm:l.length<=maxLen):bm 1 (Flat bX) w (.slice (some ⟨b,0,none⟩) n n) l :=
 bm.cy (enc:=bX) (λ_=>rfl) (by rw[h,G7]) aw hm λ_ _ _ h=>h
end ba
namespace Go.Proofs.R
open Go Go.RowKit ba o
def IH(w:A_)(a:Addr)(l:C_ Int):Prop := ∃v,w.cell? a=some v/\c3 w v l
abbrev yp(w:A_)(v:B_)(l:C_ (C_ Int)):Prop:=bm 1 IH w v l
def asm(cs ys:C_ B_)(v:B_)(m:o.Model)(s:C_ Int)(p:Nat)(w:A_)(h:dh w cs m)(aG:m.cr)(aL:eE m)(ck:jq w ys (o.layout m))(aj:c3 w v s)(ax:o.Fits m s)(au:p<m.procs.length) :
  Ei F.Mc #[.agg cs.toArray,.agg ys.toArray,v,.I p] w λu w'=>aK bX T.a 1 w.heap.size w' u (kP m s p m.procs[p].cn (o.insts m).length)/\Ext w w':=by
 have b2:=h;obtain⟨bZ,bz,bN,c1,bT,c2,bW,bw,b1,bD,rfl,ad,h1,J,ab,aF,eB,dD,dO,dU,eg⟩:=h.form;obtain⟨k1,d0,ir,d1,jn,d2,nt,d3,mG,d4,rfl,dF,cR,cA,eN,fs,fj,cM,cW,fr⟩:=ck.form;obtain⟨ei,eZ,rfl,fa⟩:=aj.form;have hlen:=ax.len;have jN:di m<=64:=iH aL;have kz:(o.insts m).length<=30:=by have:=vI m;have:=aL.procs;omega
 have c9:=aL.proc _ (E2 au);have abu:=c9.cn;obtain⟨f6,f7,f8⟩:=pT m;obtain⟨a,rfl⟩:=ab.addr;obtain⟨kC,bY,dQ,c5,eU,eA⟩:=ab.at p au;refine bk E.Mc ?_;refine I ?_;intro w1 bx cN af al;refine I ?_;intro az bP c8 ai ao;replace al:=ai.obj al;have aD:=af.trans ai;replace c5:=c5.ext aD;unfold dv.enc at c5;refine I ?_;refine _y m.procs[p].cn.toNat Aw Aw ?_;intro aM yz al1 ag o4;rw[<-Ya m s p] at o4;replace al:=ag.obj al;replace ao:=ag.obj ao;have aO:=aD.trans ag;have z2:=aD.size;clear c5;refine I ?_;refine J_ (tf _ m aM (b2.ext aO) aG) ?_;rintro bK rC ⟨dP,vp⟩;obtain⟨ca,ci,rfl,_⟩:=dP.form;replace ao:=vp.obj ao;replace o4:=vp.obj o4;have jD:yz≠bP:=by
  intro e;subst e;rw[ao] at o4;injection o4 with o4;injection o4 with _ o4;revert o4;decide
 have ano:∀{W},Mod (λk=>k=yz) rC W->eV [T.a] rC W:=λh=>eV.mod h λk c t an a=>by
  subst a;rw[o4] at an;injection an with an;injection an with _ an;rw[<-an];simp
 have Ry:∀{W:A_},Mod (λk=>k=yz) rC W->ix W (.slice ca (o.insts m).length ci) (o.insts m):=λk=>aK.e4 (enc:=cP.enc) (λ_=>rfl) (dP.iG (ano k) BS);have hb:∀{W},Mod (λk=>k=yz) rC W->W.heap[bP]? = rC.heap[bP]? := λh=>h.block _ (cq ao) (Ne.symm jD);have de:∀{W},Mod (λk=>k=yz) rC W->Ext az W:=λh=>h.ext (ag.trans vp) λi U e=>Aw
 rw[ao] at hb;clear al ao;refine I ?_;refine L_ 11 (o.insts m).length [2,3,5,9,10] (λ_:Unit=>[]) () (λk _ W=>Mod (λi=>i=yz) rC W/\W.heap[yz]? = some (.cells (oy (kP m s p m.procs[p].cn k)).toArray T.a)) a6 a6 ⟨Mod.refl _ _,o4⟩ ?_;clear o4;rintro k _ S aR a1 ⟨hm,o4⟩;have ao:=hb hm;have eh:=Ry hm;have bo:=aD.trans (de hm);refine I ?_;apply I_<;>intro g1
 .have b8:k<(o.insts m).length:=Aw
  obtain⟨gu,rfl⟩:=eh.addr;have nI:=rl _ (E2 b8);obtain⟨q,av,Bk,q1⟩:=Br nI;have Dt:(o.insts m)[k]?.map (·.proc)=some (q:Int):=by rw[List.getElem?_eq_getElem b8,AG3,Bk]
  obtain⟨d,GR,amS⟩:=ax.loc b8 av q1;obtain⟨jT,GS⟩:=List.getElem?_eq_some_iff.1 GR;obtain⟨ab4,gn⟩:=ow b8;obtain⟨nY,rfl⟩:=aj.addr;obtain⟨a2,rfl⟩:=cA.addr;have kW:=aj.ext Flat.ext bo;have xW:=cA.ext Flat.ext bo;refine I ?_;apply I_<;>intro g2
  .have an8:q=p:=Aw
   subst an8;have hW:d<m.procs[q].cn.toNat:=Aw
   have hM:=wH m s q m.procs[q].cn k;have R5:=E6 (m:=m) (s:=s) (p:=q) (k:=k) hW;have dN:=O9 m s q d k;refine I ?_;refine K_ (cV m k) (by rw[gn]) (by rw[hlen];omega) ?_;refine I ?_;have kV:c3 aR (.slice (some ⟨yz,0,none⟩) m.procs[q].cn.toNat m.procs[q].cn.toNat) (kP m s q m.procs[q].cn k):=Tm o4 hM.symm (by rw[hM];unfold maxLen;omega);have Gk:d<(kP m s q m.procs[q].cn k).length:=Aw
   obtain⟨_,R6⟩:=List.getElem?_eq_some_iff.1 R5;refine K_ d GS hW ?_;refine I ?_;rw[R6];refine I ?_;refine K_ d GS hW ?_;refine I ?_;refine _H o4 (by rw[List.size_toArray,acy];omega) rfl λbg e3 bI=>?_;rw[acz (AG2 _),<-X9 Dt GR hW] at bI;refine I ?_;exact⟨Aw,aJ,(),trivial,hm.trans (e3.mod rfl),bI⟩
  .refine I ?_;refine⟨b8,aJ,(),trivial,hm,?_⟩;rw[X8 (by rw[Dt];intro e;have:=Option.some.inj e;omega)];exact o4
 .have l1:(o.insts m).length=k:=Aw
  refine I ?_;exact⟨by rw[l1];exact aK.low aD.size (aK.sF _ o4 al1 (G7 _) (λ_=>rfl) (wH _ _ _ _ _).symm (by rw[wH];unfold maxLen;omega)),bo⟩
end Go.Proofs.R
namespace ba
open Go Go.RowKit
section
variable{P:Program}{cO:Value->World->Prop}{e:TypeId}{sz base:Nat}{w:World}{s x:Value}{xs ys:List (fv sz)}
theorem AA4{ty:F_}{b:Nat}{t}(aj:pA e sz base w s xs)(ah:bm sz (Flat lA) w x ys)(ak:(xs.length+ys.length)*b<=140737488355328)(lC:xs.length+ys.length<=maxLen)(kR:base<=w.heap.size)
  (hk:∀bU w',pA e sz base w' bU (xs++ys)->w.grownBy w' s.ownBlock->cO bU w'):mH P ty e sz b s x w cO t:=by
 obtain⟨aN,cap,rfl,h1,J,ab,aF⟩:=ah.ex;cases aN with
 | some a=>exact _U aj k8 (bm.flat k8 (λ_ _ h=>h) ⟨some a,cap,rfl,h1,J,ab,aF⟩) rfl yN ak lC kR λbU w' a7 bJ _=>hk bU w' a7 bJ
 | none =>
  have:ys=[]:=Classical.byContradiction λaw=>by have:=ab aw;cases this
  subst this;rw[S5] at hk;refine _c λ⟨aB,i,z,U,bB,Bn,AU,zp,GW⟩=>?_;refine⟨ty,s,w,?_,hk s w aj ⟨rfl,rfl,rfl,E1 _,λ_ _ _=>rfl⟩⟩;rcases aj.2 with ⟨rfl,ad⟩ | ⟨g,cap,cur,rfl,_,_,zf,_⟩
  .simp[Builtin.append_,run_underlying aB,Go.sizeOf,typeInfo,U,Builtin.lenOf,Builtin.firstCells]
  .simp[Builtin.append_,run_underlying aB,Go.sizeOf,typeInfo,U,Builtin.lenOf,Builtin.firstCells,zf,storeCells]
end
end ba
namespace ba
open Go Go.RowKit
structure avv{α:Type}(C:World->List Value->α->Prop)(e:TypeId)(sz base:Nat)(v:Value)(w0 ws:World)(xs:List α)(k:Nat)(x:List (fv sz))(W:World):Prop where
 m:Mod (λi=>v.ownBlock=some i) ws W
 cy:∀i,v.ownBlock=some i->base<=i/\i<ws.heap.size/\∃cur,ws.heap[i]? = some (.cells cur e)
 len:x.length=xs.length
 own:pA e sz base W v x
 new:∀i (h1:i<x.length) (J:i<xs.length),i<k->gY (λj=>j<ws.heap.size) (λw=>C w x[i].1 xs[i]) W
 hQ:∀i (h1:i<x.length) (J:i<xs.length),k<=i->C w0 x[i].1 xs[i]
def AD4{α:Type}{P:D_}{cO:B_->A_->Prop}{R:A_->Addr->α->Prop}{C:A_->C_ B_->α->Prop}{e:F_}{sz:Nat}[Rel R C sz]{w0 w ps:A_}{x:B_}{xs:C_ α}{ty:F_}{b Am:Nat}{t}
  (ah:bm sz R w0 x xs)(ej:Ext w0 w)(Kb:w.heap.size<=Am)(A0:Ext w ps)(Ki:ps.heap[Am]? = some (.cells #[] e))(ax:∀{w w':A_} {cs x},C w cs x->C w' cs x)(ak:xs.length*b<=140737488355328)
  (hk:∀aN c w',er w (λw=>bm sz R w (.slice aN xs.length c) xs) w'->Ext w w'->Mod (λi=>i=Am) ps w'->cO (.slice aN xs.length c) w'):mH P ty e sz b (.slice (some ⟨Am,0,none⟩) 0 0) x ps cO t:=by
 obtain⟨cb,aE,lF,br⟩:=ah.cells;have aS:pA e sz w.heap.size ps (.slice (some ⟨Am,0,none⟩) 0 0) []:=aK.empty Kb Ki;have hm:cb.length<=maxLen:=by obtain⟨_,_,_,h1,J,_⟩:=lF.ex;omega
 refine AA4 aS (bm.ext Flat.ext (ej.trans A0) lF) (by rw[AI2,S6,aE];exact ak) (by rw[AI2,S6];exact hm) A0.size λbU w' nc aG=>?_;rw[AF8] at nc;have aw:er w (λw=>bm sz R w bU xs) w':=er.clone (R:=R) aE nc ax λi h1 J=>ax (br i h1 J);obtain⟨aN,c,rfl,_⟩:=aw.here.form;exact hk aN c w' aw (aK.jL aS A0 aG (E1 _)) (Mod.grown (A:=λi=>i=Am) aG λk q=>by injection q with q;exact q.symm)
end ba
namespace Go.Proofs.R
open Go Go.RowKit ba
def z1(w:A_)(cs:C_ B_)(l:C_ Int):Prop := ∃v,cs=[v]/\c3 w v l
instance axE:Rel IH z1 1 where
 out h:=by
  obtain⟨v,h1,J⟩:=h;exact⟨[v],λj u ay=>by cases j with | zero=>simp at ay;subst ay;rw[add_zero];exact h1 | succ j=>simp at ay,v,rfl,J⟩
 pb h k:=by
  obtain⟨v,rfl,k⟩:=k
  have:=h 0 v rfl
  rw[add_zero] at this;exact⟨v,this,k⟩
 len h:=by obtain⟨v,rfl,_⟩:=h;rfl
 one h:=by obtain⟨v,rfl,h⟩:=h;simpa using h.one
 ext e h:=let ⟨v,h1,J⟩:=h; ⟨v,h1,J.ext Flat.ext e⟩
def agw(_:A_)(cs:C_ B_)(x:Int):Prop:=cs=bX x
instance axD:Rel (Flat bX) agw 1 where
 out h:=⟨_,h,rfl⟩
 pb h k:=by cases k;exact h
 len h:=by cases h;rfl
 one h:=by cases h;exact ht _
 ext _ h:=h
def _root_.ba.Mod.own{A:Nat->Prop}{a b c:A_}{v:B_}(h:Mod A a b)(aG:b.grownBy c v.ownBlock)(aH:∀k,v.ownBlock=some k->a.heap.size<=k):Mod A a c :=
 h.comp (Mod.grown (A:=λk=>v.ownBlock=some k) aG λk hk=>hk) (λ_ _ a=>a) λi U e=>by have:=aH i e;omega
structure Oi(w:World)(cs:List Value)(x:o.Env):Prop where
 ex:∃v0 v1 v2 v3,cs=[v0,v1,v2,v3,.int .i64 x.self]/\yp w v0 x.vars/\c3 w v1 x.lens/\c3 w v2 x.locals/\yp w v3 x.at_
end Go.Proofs.R
namespace o
open Go
theorem Ny(m:Model)(s:C_ Int)(inst:Int):(cX m s inst).vars.length=m.vars.length:=by simp[cX]
def Ur{m:Model}{s:C_ Int}{inst:Int}{k:Nat}(h:k<m.vars.length):(cX m s inst).vars[k]? = some ((s.drop (gb m k)).take (cells m.vars[k] m.scalars).toNat):=by
 have e:(c6 m)[k]!.length=(cells m.vars[k] m.scalars).toNat:=by
  have bq:k<(c6 m).length:=by simpa[c6] using h
  rw[getElem!_pos (c6 m) k bq];simp[c6,Ev]
 simp only[cX,List.getElem?_map,List.getElem?_range h,Option.map_some,e]
def Nx(m:Model)(s:C_ Int)(inst:Int):(cX m s inst).lens.length=m.aA.length:=by simp[cX]
def afr{m:Model}{s:C_ Int}{inst:Int}{k:Nat}(h:k<m.aA.length)(aj:b6 m k<s.length):(cX m s inst).lens[k]? = some s[b6 m k]:=by
 simp only[cX,List.getElem?_map,List.getElem?_range h,Option.map_some];rw[getElem!_pos s (b6 m k) aj]
def at2{m:Model}{s:C_ Int}{inst:Int}(h:inst<0):(cX m s inst).locals=[]/\(cX m s inst).self=0:=by
 simp only[cX,Nw,hc (.inl h),and_self]
def HS{m:Model}(s:C_ Int){q n:Nat}(h:q<(insts m).length)(aw:n=(mB m (insts m)[q]).length - 1):(cX m s q).locals=(s.drop (cV m q+1)).take n/\(cX m s q).self=(insts m)[q].elem:=by
 simp only[cX,Nw,iP (show(0:Int)<=q by omega) (show(q:Int)<(insts m).length by omega),Int.toNat_natCast,aw,and_self]
def Uq(m:Model)(s:C_ Int)(inst:Int):(cX m s inst).at_.length=m.procs.length:=by simp[cX]
def afq{m:Model}{s:C_ Int}{inst:Int}{k:Nat}(h:k<m.procs.length):(cX m s inst).at_[k]? = some (kP m s k m.procs[k].cn (insts m).length):=by
 simp only[cX,List.getElem?_map,List.getElem?_range h,Option.map_some,List.getElem?_eq_getElem h,Option.getD_some]
end o
namespace Go.Proofs.R
open Go Go.RowKit ba o
def aeP(cs ys:C_ B_)(v:B_)(m:o.Model)(s:C_ Int)(inst:Int)(w:A_)(h:dh w cs m)(aG:m.cr)(aL:eE m)(ck:jq w ys (o.layout m))(aj:c3 w v s)(ax:o.Fits m s)(h1 : -1<=inst)(J:inst<(o.insts m).length) :
  Ei F.Mb #[.agg cs.toArray,.agg ys.toArray,v,.I inst] w λu w'=>(∃es,u = .agg es.toArray/\er w (λw=>Oi w es (cX m s inst)) w')/\Ext w w':=by
 have b2:=h;have pJ:=ck;have aok:=aj;obtain⟨bZ,bz,bN,c1,bT,c2,bW,bw,b1,bD,rfl,ad,h1,J,ab,aF,eB,dD,dO,dU,eg⟩:=h.form;obtain⟨k1,d0,ir,d1,jn,d2,nt,d3,mG,d4,rfl,dF,cR,cA,eN,fs⟩:=ck.form;obtain⟨ei,eZ,rfl,fa⟩:=aj.form;have hlen:=ax.len;have jN:di m<=64:=iH aL;have gj:=aL.gj;have kz:(o.insts m).length<=30:=by have:=vI m;have:=aL.procs;omega
 refine bk E.Mb ?_;refine I ?_;intro w1 bx cN af al;refine I ?_;intro az bP c8 ai ao;replace al:=ai.obj al;refine I ?_;intro aM bV eX ag a8;replace al:=ag.obj al;replace ao:=ag.obj ao;have aO:=(af.trans ai).trans ag;refine I ?_;refine J_ (tf _ m aM (b2.ext aO) aG) ?_;rintro bK aR ⟨dP,aq⟩;obtain⟨ca,ci,rfl,_⟩:=dP.form;have eh:ix aR _ _:=aK.e4 (enc:=cP.enc) (λ_=>rfl) dP;replace al:=aq.obj al;replace ao:=aq.obj ao;replace a8:=aq.obj a8;have bo:=aO.trans aq;refine I ?_;intro bg fC al0 ar dW;have pa:∀{W},Ext aR W->W.heap[bx]? = _:=λe=>e.obj al;have hb:∀{W},Ext aR W->W.heap[bP]? = _:=λe=>e.obj ao;have U3:=cq dW;have FU:∀{W},Mod (λi=>i=fC) bg W->Ext aR W:=λh=>h.ext ar λi U e=>Aw
 refine L_ 11 m.vars.length [2,3,4,5,8,9,10] (λ_:fk=>[]) (none,0,0) (λk v W=>(Mod (λi=>i=fC) bg W/\W.heap[fC]? = some (.cells #[.slice v.1 v.2.1 v.2.2,.slice none 0 0,.slice none 0 0,.slice none 0 0,.I 0] T.v))/\eO z1 T.b 1 bg.heap.size W (.slice v.1 v.2.1 v.2.2) (((cX m s inst).vars).take k)) a6 a6 ⟨⟨Mod.refl _ _,dW⟩,by simpa using eO.nil _ _ _ _ _⟩ ?_;clear dW;rintro k v S bp hk ⟨⟨jg,dW⟩,dk⟩;have al:=pa (FU jg);have ao:=hb (FU jg);have hg:=bo.trans (FU jg);refine I ?_;apply I_<;>intro g1
 .have b8:k<m.vars.length:=Aw
  obtain⟨a,rfl⟩:=h1.addr;have dN:=sH m.vars[k] m.scalars;have oo:=sl b8;have eI:=nC m;obtain⟨dP,gn⟩:=rB b8;have dK:=((h1.at k b8).cells).ext hg;refine I ?_;refine P_ _ (λw' e=>Ni m.vars[k] _ m.scalars w' (ad.ext (hg.trans e))) ?_;refine I ?_;intro bH bc;replace al:=bc.obj al;replace ao:=bc.obj ao;replace dW:=bc.obj dW;have dY:=dk.ext bc;have gd:=hg.trans bc;have hl:Mod (λi=>i=fC) bg bH:=jg.trans bc.mod;have kB:=aj.ext Flat.ext gd;have Nc:=dF.ext Flat.ext gd;obtain⟨a0,rfl⟩:=dF.addr;clear dK;refine I ?_;intro cB bt;replace al:=bt.obj al;replace ao:=bt.obj ao;replace dW:=bt.obj dW;have gy:=dY.ext bt;have hR:=gd.trans bt;have jh:Mod (λi=>i=fC) bg cB:=hl.trans bt.mod;have DI:=kB.ext Flat.ext bt;have aye:=Nc.ext Flat.ext bt;clear kB Nc dk dY;refine I ?_;refine _W (k:=.i64) (k':=.i64) (gb m k) (gb m k+(o.cells m.vars[k] m.scalars).toNat) DI (by simp[dc,bE,gn]) (by simp[dc,bE,gn];omega) Aw Aw λae c au=>?_;refine I ?_;intro cD b9 lZ b0 cG;refine⟨b0,?_⟩;rw[show gb m k+(o.cells m.vars[k] m.scalars).toNat - gb m k=(o.cells m.vars[k] m.scalars).toNat from Aw] at au ⊢;have xw:=Ur (s:=s) (inst:=inst) b8;refine AD4 au (Ext.refl _) lZ b0 cG (λh=>h) (by simp;omega) λaN fh et r8 cd _=>?_;refine⟨cd,?_⟩;refine I ?_;intro ft mm xa ef jd;refine⟨cd.trans ef,?_⟩;have z58:=jh.size;have ayM:=cd.size;have N6:=ef.size;have o9:=gy.ext (cd.trans ef);have cu:(((cX m s inst).vars).take k).length<=12:=by rw[H5,Ny];omega
  refine _F (x:=(s.drop (gb m k)).take (o.cells m.vars[k] m.scalars).toNat) (cs:=[.slice aN ((s.drop (gb m k)).take (o.cells m.vars[k] m.scalars).toNat).length fh]) o9 (hK jd)
   (((er.own r8 gy Aw).imp λw h=>⟨_,rfl,h⟩).ext ef λi U hk=>by have:=gy.under Aw i hk;omega) rfl (by simp[Value.oneCell']) Aw (by unfold maxLen;omega) Aw λbU hf aT vu=>?_
  have aaE:=o9.box vu ((cd.trans ef).obj dW) BS;have r7:=((jh.trans cd.mod).trans ef.mod).own vu λq av=>(o9.lt q av).1;obtain⟨iQ,qS,rfl,_⟩:=aT.form;clear dW r8 o9 gy jd cG au;refine I ?_;intro jX kD gw;refine I ?_;refine⟨b8,aJ,(iQ,_,qS),trivial,⟨r7.trans (kD.mod rfl),gw⟩,?_⟩;rw[AJ6,xw];exact aT.wr kD U3
 have my:m.vars.length=k:=Aw
 rw[MT (by rw[Ny];omega)] at dk;have nF:=dk.new (R:=IH);obtain⟨va,oA,fh⟩:=v;have tk:=cq dW;have U0:=jg.size;have avq:=FU jg;have tR:∀{W},Mod (λi=>i=fC) bp W->Ext aR W:=λh=>FU (jg.trans h);clear al ao dk;refine I ?_;refine L_ 13 m.aA.length [2,3,4,5,8,9,10] (λ_:fk=>[]) (none,0,0) (λk v W=>(Mod (λi=>i=fC) bp W/\W.heap[fC]? = some (.cells #[.slice va oA fh,.slice v.1 v.2.1 v.2.2,.slice none 0 0,.slice none 0 0,.I 0] T.v))/\aK bX T.a 1 bp.heap.size W (.slice v.1 v.2.1 v.2.2) (((cX m s inst).lens).take k)) a6 a6 ⟨⟨Mod.refl _ _,dW⟩,by simpa using aK.nil _ _ _ _ _⟩ ?_;clear dW;rintro k v S bH hk ⟨⟨hl,dW⟩,dY⟩;have al:=pa (tR hl);have ao:=hb (tR hl);have gd:=bo.trans (tR hl);refine I ?_;apply I_<;>intro g1
 .have b8:k<m.aA.length:=Aw
  have oo:=wL b8;have eI:=nC m;obtain⟨dP,eH⟩:=qc b8;obtain⟨db,rfl⟩:=cR.addr;obtain⟨ahe,rfl⟩:=aj.addr;have kB:=aj.ext Flat.ext gd;have zH:=cR.ext Flat.ext gd;refine I ?_;intro cB bt;replace ao:=bt.obj ao;replace dW:=bt.obj dW;have gy:=dY.ext bt;have jh:Mod (λi=>i=fC) bp cB:=hl.trans bt.mod;have DI:=kB.ext Flat.ext bt;have ayi:=zH.ext Flat.ext bt;clear kB zH dY al;refine I ?_;refine K_ (b6 m k) (by rw[eH]) Aw ?_;refine I ?_;intro cD b9 lZ b0 cG;refine⟨b0,?_⟩;have gx:b6 m k<s.length:=Aw
  have xw:=afr (inst:=inst) b8 gx;have anq:(((cX m s inst).lens).take k).length<=12:=by rw[H5,Nx];omega
  have fy:=gy.ext b0;have U1:=jh.size;have N7:=b0.size;refine S_ (y:=s[b6 m k]) fy cG rfl (λ_=>rfl) ht Aw (by unfold maxLen;omega) Aw λaN n c et ou mX=>?_;have amw:=fy.box mX (b0.obj dW) BS;have pN:=(jh.trans b0.mod).own mX λq av=>(fy.lt q av).1;clear dW fy gy cG;refine I ?_;intro ft hZ jd;refine I ?_;refine⟨b8,aJ,(aN,n,c),trivial,⟨pN.trans (hZ.mod rfl),jd⟩,?_⟩;rw[AJ6,xw];exact ou.mod (hZ.mod (A:=λi=>i=fC) rfl) λq av e=>by have:=(ou.lt q av).1;omega
 have r5:m.aA.length=k:=Aw
 rw[MT (by rw[Nx];omega)] at dY;have aao:gY (λi=>i<bg.heap.size) (λw=>yp w (.slice va oA fh) (cX m s inst).vars) bH:=nF.move hl (λi _ e=>Aw) λi _ e=>e;have FY:er bp (λw=>c3 w (.slice v.1 v.2.1 v.2.2) (cX m s inst).lens) bH:=aK.new (λ_=>rfl) dY;clear nF;obtain⟨iS,mD,sG⟩:=v;have Ib:=cq dW;have z67:=hl.size;have sO:∀{W},Mod (λi=>i=fC) bH W->Ext aR W:=λh=>tR (hl.trans h);clear al ao dY;refine I ?_;refine L_ 14 m.procs.length [2,3,4,5,8,9,10] (λ_:fk=>[]) (none,0,0) (λk v W=>(Mod (λi=>i=fC) bH W/\W.heap[fC]? = some (.cells #[.slice va oA fh,.slice iS mD sG,.slice none 0 0,.slice v.1 v.2.1 v.2.2,.I 0] T.v))/\eO z1 T.b 1 bH.heap.size W (.slice v.1 v.2.1 v.2.2) (((cX m s inst).at_).take k)) a6 a6 ⟨⟨Mod.refl _ _,dW⟩,by simpa using eO.nil _ _ _ _ _⟩ ?_;clear dW;rintro k v S cB hk ⟨⟨jh,dW⟩,gy⟩;have al:=pa (sO jh);have ao:=hb (sO jh);have hR:=bo.trans (sO jh);refine I ?_;apply I_<;>intro g1
 .have b8:k<m.procs.length:=Aw
  refine I ?_;intro cD b0;replace al:=b0.obj al;replace ao:=b0.obj ao;replace dW:=b0.obj dW;have fy:=gy.ext b0;have fA:=hR.trans b0;have mz:Mod (λi=>i=fC) bH cD:=jh.trans b0.mod;clear gy;refine I ?_;refine J_ (asm _ _ _ m s k cD (b2.ext fA) aG aL (pJ.ext fA) (aok.ext Flat.ext fA) ax b8) ?_;rintro _ et ⟨r8,cd⟩;obtain⟨aN,fh,rfl,_⟩:=r8.form;replace r8:er cD (λw=>c3 w (.slice aN (kP m s k m.procs[k].cn (o.insts m).length).length fh) (kP m s k m.procs[k].cn (o.insts m).length)) et:=aK.new (enc:=bX) (sz:=1) (λ_=>rfl) r8;refine⟨cd,?_⟩;have xw:=afq (s:=s) (inst:=inst) b8;refine I ?_;intro ft mm xa ef jd;refine⟨cd.trans ef,?_⟩;have z79:=mz.size;have U2:=cd.size;have N6:=ef.size;have o9:=fy.ext (cd.trans ef);have cu:(((cX m s inst).at_).take k).length<=12:=by rw[H5,Uq];have:=aL.procs;omega
  refine _F (x:=kP m s k m.procs[k].cn (o.insts m).length) (cs:=[.slice aN (kP m s k m.procs[k].cn (o.insts m).length).length fh]) o9 (hK jd)
   (((er.own r8 fy Aw).imp λw h=>⟨_,rfl,h⟩).ext ef λi U hk=>by have:=fy.under Aw i hk;omega) rfl (by simp[Value.oneCell']) Aw (by unfold maxLen;omega) Aw λbU hf aT vu=>?_
  have aaE:=o9.box vu ((cd.trans ef).obj dW) BS;have r7:=((mz.trans cd.mod).trans ef.mod).own vu λq av=>(o9.lt q av).1;obtain⟨iQ,qS,rfl,_⟩:=aT.form;clear dW r8 o9 fy jd;refine I ?_;intro jX kD gw;refine I ?_;refine⟨b8,aJ,(iQ,_,qS),trivial,⟨r7.trans (kD.mod rfl),gw⟩,?_⟩;rw[AJ6,xw];exact aT.wr kD Ib
 have vy:m.procs.length=k:=Aw
 rw[MT (by rw[Uq];omega)] at gy;have QI:gY (λi=>i<bg.heap.size) (λw=>yp w (.slice va oA fh) (cX m s inst).vars) cB:=aao.move jh (λi _ e=>Aw) λi _ e=>e;have aah:er bp (λw=>c3 w (.slice iS mD sG) (cX m s inst).lens) cB:=FY.move jh (λi _ e=>Aw) λi _ e=>e;have w5:=gy.new (R:=IH);clear aao FY;obtain⟨NS,Ti,Fm⟩:=v;have Ic:=cq dW;have z78:=jh.size;have w6:∀{W},Mod (λi=>i=fC) cB W->Ext aR W:=λh=>sO (jh.trans h);clear gy;have hR:=bo.trans (w6 (Mod.refl _ _));have z3:=cq a8;have z45:=ar.size;have ayD:=(af.trans ai).size;replace a8:=(w6 (Mod.refl _ _)).obj a8;refine I ?_;apply I_<;>intro g2;rotate_left
 .refine I ?_;intro cD gA cG;refine I ?_;obtain⟨ej,bG⟩:=at2 (m:=m) (s:=s) (inst:=inst) Aw;refine⟨⟨_,rfl,λW ew=>⟨_,_,_,_,by rw[bG],?_,?_,?_,?_⟩⟩,gA.ext hR Aw⟩
  .exact(QI.move (A':=λi=>i<w.heap.size) (gA.mod (A:=λi=>i=bV) rfl) (λi _ e=>Aw) λi _ e=>Aw) W ew
  .exact(aah.move (A':=λi=>i<w.heap.size) (gA.mod (A:=λi=>i=bV) rfl) (λi _ e=>Aw) λi _ e=>Aw) W ew
  .rw[ej];exact bm.nil
  .exact(w5.move (A':=λi=>i<w.heap.size) (gA.mod (A:=λi=>i=bV) rfl) (λi _ e=>Aw) λi _ e=>Aw) W ew
 .obtain⟨q,rfl⟩:=Nb (show 0<=inst by omega);have av:q<(o.insts m).length:=Aw
  have oo:=SK av;obtain⟨dP,gn⟩:=ow av;obtain⟨a2,rfl⟩:=cA.addr;have ar9:=cA.ext Flat.ext hR;have al:=pa (w6 (Mod.refl _ _));have ao:=hb (w6 (Mod.refl _ _));obtain⟨gu,rfl⟩:=eh.addr;have Dx:=eh.ext Flat.ext (w6 (Mod.refl _ _));have nI:=rl _ (E2 av);obtain⟨p,au,ho,q1⟩:=Br nI;have Kf:(mB m (o.insts m)[q]).length=1+m.procs[p].vars.length:=by rw[q1,BI]
  obtain⟨a,rfl⟩:=ab.addr;obtain⟨kC,bY,dQ,c5,eU,eA⟩:=ab.at p au;obtain⟨D2,CJ,rfl,adm⟩:=eU.form;obtain⟨adJ,Yv,rfl,ac6⟩:=eA.form;replace c5:=c5.ext hR;unfold dv.enc at c5;refine I ?_;refine K_ p ho au ?_;refine I ?_;intro NW r2 cD amV;have b0:=r2.trans amV;replace al:=b0.obj al;replace ao:=b0.obj ao;replace dW:=b0.obj dW;replace a8:=b0.obj a8;have fA:=hR.trans b0;have aoj:=aj.ext Flat.ext fA;have N7:=b0.size;clear c5 Dx ar9;refine I ?_;refine _W (k:=.i64) (k':=.i64) (cV m q+1) (cV m q+1+m.procs[p].vars.length) aoj (by simp[dc,bE,gn]) (by simp[dc,bE,gn]) Aw Aw λae c GN=>?_;rw[show cV m q+1+m.procs[p].vars.length - (cV m q+1)=m.procs[p].vars.length from Aw] at GN ⊢;obtain⟨cb,aE,lF,br⟩:=GN.cells;have dN:cb.length<=64:=by rw[aE,H5,AF5];omega
  refine I ?_;refine AA4 (sz:=1) (base:=cD.heap.size) (aK.nil _ _ _ _ _) lF (by rw[AI2];omega) (by rw[AI2];unfold maxLen;omega) (E1 _) λbU et ou mX=>?_;rw[AF8] at ou;have r8:er cD (λw=>c3 w bU ((s.drop (cV m q+1)).take m.procs[p].vars.length)) et:=er.clone (R:=Flat bX) aE ou (λh=>h) λi h1 J=>br i h1 J;have cd:Ext cD et:=(Ext.refl _).grown mX λk hk=>by simp[Value.ownBlock] at hk
  replace ao:=cd.obj ao;replace dW:=cd.obj dW;replace a8:=cd.obj a8;have U2:=cd.size;obtain⟨ol,cl,rfl,_⟩:=r8.here.form;clear al;refine I ?_;intro ft hZ jd;have DA:Mod (λi=>i=fC) cB ft:=(b0.mod.trans cd.mod).trans (hZ.mod rfl);have awN:=eh.ext Flat.ext (w6 DA);replace a8:=hZ.obj a8 Aw;refine I ?_;intro hf l5 ic;have r7:Mod (λi=>i=fC) cB hf:=DA.trans (l5.mod rfl);replace a8:=l5.obj a8 Aw;refine I ?_;intro jX kD gw;refine I ?_;obtain⟨ej,bG⟩:=HS s av (n:=m.procs[p].vars.length) Aw;have N6:=hZ.size;have aga:=l5.size;refine⟨⟨_,rfl,λW ew=>⟨_,_,_,_,by rw[bG];rfl,?_,?_,?_,?_⟩⟩,kD.ext (bo.trans (w6 r7)) Aw⟩
  .exact(QI.move (A':=λi=>i<w.heap.size) (r7.comp (B:=λi=>i=fC\/i=bV) (kD.mod (A:=λi=>i=bV) rfl) (λi _ e=>.inl e) λi _ e=>.inr e) (λi _ e=>Aw) λi _ e=>Aw) W ew
  .exact(aah.move (A':=λi=>i<w.heap.size) (r7.comp (B:=λi=>i=fC\/i=bV) (kD.mod (A:=λi=>i=bV) rfl) (λi _ e=>.inl e) λi _ e=>.inr e) (λi _ e=>Aw) λi _ e=>Aw) W ew
  .rw[ej];exact((((r8.wr hZ Aw).wr l5 Aw).wr kD Aw).mono λi _ e=>Aw) W ew
  .exact(w5.move (A':=λi=>i<w.heap.size) (r7.comp (B:=λi=>i=fC\/i=bV) (kD.mod (A:=λi=>i=bV) rfl) (λi _ e=>.inl e) λi _ e=>.inr e) (λi _ e=>Aw) λi _ e=>Aw) W ew
end Go.Proofs.R
namespace o
open Go
def afh{s t:C_ Int}{a n:Nat}(h:∀k,k<n->s[a+k]? = t[a+k]?):(s.drop a).take n=(t.drop a).take n:=by
 apply List.ext_getElem?;intro i;rw[List.getElem?_take,List.getElem?_take];split
 .rw[List.getElem?_drop,List.getElem?_drop];exact h i ‹_›
 .rfl
def xT(m:Model)(e:C_ Node):C_ Int:=e.flatMap (ek m 0 false)
def jA(l:C_ Int):Bool:=match l with
 | []=>false
 | n :: r=>decide (0<=n/\n<=r.length)&&(r.drop n.toNat).all (λx=>decide (x=0))
def jB(l:C_ Int):C_ Int:=if jA l then (l.drop 1).take (l.headD 0).toNat else []
def sd(k:Nat)(l:C_ Int):C_ Int:=(l.length:Int) :: (List.range (k - 1)).map λi=>l.getD i 0
def nN(l:C_ Int)(v:Int):H_ (C_ Int):=if jA l=true/\l.headD 0≠(l.length:Int) - 1 then some (sd l.length (jB l++[v])) else none
def qD(l:C_ Int):H_ (C_ Int×Int):=match jB l with
 | []=>none
 | x :: r=>some (sd l.length r,x)
def Tw{k:Nat}(h:1<=k)(l:C_ Int):(sd k l).length=k:=by simp[sd];omega
theorem acC{l:C_ Int}(h:jA l=true):1<=l.length:=by
 cases l with
 | nil=>cases h
 | cons n r=>simp
def Na{l r:C_ Int}{v:Int}(h:nN l v=some r):r.length=l.length:=by
 unfold nN at h;split at h
 .rename_i h1;injection h with h
  rw[<-h,Tw (acC h1.1)]
 .cases h
def NH{l r:C_ Int}{v:Int}(h:qD l=some (r,v)):r.length=l.length:=by
 unfold qD at h;split at h
 .cases h
 .rename_i x q av;injection h with h
  injection h with h1 J
  have:jA l=true:=Classical.byContradiction λaw=>by
   unfold jB at av;rw[if_neg aw] at av;cases av
  rw[<-h1,Tw (acC this)]
def chanOf(m:Model)(s:C_ Int)(c:Nat):C_ Int:=(s.drop (b6 m c)).take (1+gF m c)
def h0(s:C_ Int)(a:Nat)(l:C_ Int):C_ Int:=s.take a++l++s.drop (a+l.length)
def Fe(m:Model)(c:Nat):Int×Int:=match (cp m)[c]? with
 | some x=>(x.aV,x.U)
 | none=>(0,-1)
def putAt(m:Model)(s:C_ Int)(c:Nat)(n:Int):H_ (C_ Int):=if n<(Fe m c).1\/(Fe m c).2<n then none else some (s.set c n)
def wM(m:Model)(c:Nat):eb:=match m.aA[c]? with
 | some x=>e7 x.scalar x.aV x.U m.scalars
 | none=>e7 0 0 0 m.scalars
def vZ(m:Model)(s:C_ Int)(c:Nat)(n:Int):H_ (C_ Int) :=
 if n<(wM m c).aV\/(wM m c).U<n then none else (nN (chanOf m s c) n).map (h0 s (b6 m c))
def zI(m:Model)(s:C_ Int)(q:Nat)(a:Act):H_ (C_ Int):=match qD (chanOf m s a.to.toNat) with
 | none=>none
 | some (rest,n)=>putAt m (h0 s (b6 m a.to.toNat) rest) (cV m q+1+a.loc.toNat) n
def xB(m:Model)(s:C_ Int)(a:Act)(k:Int×Int)(n:Int):H_ (C_ Int) :=
 if k.2≠0\/k.1<1\/(lI m a.to.toNat:Int)<k.1 then none else putAt m s (gb m a.to.toNat+k.1.toNat - 1) n
def h9(m:Model)(s:C_ Int)(q:Nat)(a:Act):H_ (C_ Int) :=
 if a.kind=5 then zI m s q a
 else if (eval a.value (cX m s q)).2≠0 then none
 else if a.kind=1 then putAt m s (gb m a.to.toNat) (eval a.value (cX m s q)).1
 else if a.kind=2 then xB m s a (eval a.index (cX m s q)) (eval a.value (cX m s q)).1
 else if a.kind=3 then putAt m s (cV m q+1+a.to.toNat) (eval a.value (cX m s q)).1
 else vZ m s a.to.toNat (eval a.value (cX m s q)).1
def lu(m:Model)(q:Nat):C_ Act->C_ Int->H_ (C_ Int)
 | [],s=>some s
 | a :: r,s=>match h9 m s q a with
  | none=>none
  | some t=>lu m q r t
def hS(m:Model)(s:C_ Int)(q:Nat)(c:dG):H_ (C_ Int) :=
 if s[cV m q]? ≠ some c.from_ then none
 else if 0<c.guard.length/\((eval c.guard (cX m s q)).2≠0\/(eval c.guard (cX m s q)).1=0) then none
 else (lu m q c.bL s).map λt=>t.set (cV m q) c.to
theorem XU(m:Model)(q:Nat)(a:Act):∀(l:C_ Act) (s:C_ Int),lu m q (l++[a]) s=match lu m q l s with | none=>none | some t=>h9 m t q a
 | [],s=>by
  simp only[List.nil_append,lu];cases h9 m s q a<;>rfl
 | x :: l,s=>by
  simp only[List.cons_append,lu];cases h9 m s q x with
  | none=>rfl
  | some t=>exact XU m q a l t
def G6{s:C_ Int}{a:Nat}{l:C_ Int}(h:a+l.length<=s.length):(h0 s a l).length=s.length:=by
 simp[h0];omega
def Bt{s:C_ Int}{a:Nat}{l:C_ Int}(h:a+l.length<=s.length)(x:Nat):(h0 s a l)[x]? = if a<=x/\x<a+l.length then l[x - a]? else s[x]? := by
 unfold h0;have aB:(s.take a).length=a:=by simp;omega
 by_cases h1:x<a
 .rw[if_neg Aw,List.getElem?_append_left (by rw[HO];omega),List.getElem?_append_left Aw,List.getElem?_take,if_pos h1]
 .by_cases J:x<a+l.length
  .rw[if_pos ⟨Aw,J⟩,List.getElem?_append_left (by rw[HO];omega),List.getElem?_append_right Aw,aB]
  .rw[if_neg Aw,List.getElem?_append_right (by rw[HO];omega),List.getElem?_drop,HO,aB];congr 1;omega
def u5{m:Model}{s:C_ Int}{c:Nat}(h:b6 m c+(1+gF m c)<=s.length):(chanOf m s c).length=1+gF m c:=by
 simp[chanOf];omega
def Hz{m:Model}{s t:C_ Int}{c:Nat}{n:Int}(h:putAt m s c n=some t):t=s.set c n:=by
 unfold putAt at h;split at h
 .cases h
 .injection h with h
  exact h.symm
def fb(s t:C_ Int)(l:C_ Int):Prop:=t.length=s.length/\∀c:Nat,t[c]? ≠ s[c]? -> (c:Int)∈l
def fb.refl(s l:C_ Int):fb s s l:=⟨rfl,λ_ h=>absurd rfl h⟩
def fb.trans{s t u l:C_ Int}(h:fb s t l)(k:fb t u l):fb s u l:=⟨k.1.trans h.1,λc an=>by
 by_cases e:u[c]? = t[c]?
 .exact h.2 c (by rw[<-e];exact an)
 .exact k.2 c e⟩
def fb.mono{s t l r:C_ Int}(h:fb s t l)(aj:∀x∈l,x∈r):fb s t r:=⟨h.1,λc an=>aj _ (h.2 c an)⟩
def fb.set(s:C_ Int)(a:Nat)(n:Int):fb s (s.set a n) (gD a 1):=⟨X4 ..,λc an=>by
 rw[mb,AF2];apply Classical.byContradiction;intro aw;exact an (List.getElem?_set_ne Aw)⟩
def fb.acw{s l:C_ Int}{a:Nat}(h:a+l.length<=s.length):fb s (h0 s a l) (gD a l.length):=⟨G6 h,λc an=>by
 rw[Bt h] at an;apply Classical.byContradiction;intro aw;rw[qz] at aw;exact an (if_neg Aw)⟩
def atB{m:Model}{s t:C_ Int}{c:Nat}{n:Int}(an:b6 m c+(1+gF m c)<=s.length)(h:vZ m s c n=some t):fb s t (lX m c):=by
 unfold vZ at h;split at h
 .cases h
 .cases au:nN (chanOf m s c) n with
  | none=>rw[au] at h;cases h
  | some r =>
   rw[au] at h;have aE:=Na au;rw[u5 an] at aE;have e:h0 s (b6 m c) r=t:=by injection h
   rw[<-e];unfold lX;rw[<-aE];exact fb.acw Aw
theorem asB{m:Model}{s t:C_ Int}{q:Nat}{a:Act}(an:b6 m a.to.toNat+(1+gF m a.to.toNat)<=s.length)(h:zI m s q a=some t):fb s t (lX m a.to.toNat++gD (cV m q+1+a.loc.toNat) 1):=by
 unfold zI at h;cases au:qD (chanOf m s a.to.toNat) with
 | none=>rw[au] at h;cases h
 | some T5 =>
  obtain⟨r,n⟩:=T5;rw[au] at h;have aE:=NH au;rw[u5 an] at aE;have e:=Hz h;rw[e];refine fb.trans (t:=h0 s (b6 m a.to.toNat) r) ?_ ((fb.set _ _ _).mono λx ah=>AI6 _ ah)
  have:=fb.acw (s:=s) (a:=b6 m a.to.toNat) (l:=r) Aw
  rw[aE] at this;exact this.mono λx ah=>AH2 _ ah
def atA{m:Model}{s:C_ Int}{q:Nat}{a:Act}(h:pX a=true):eval a.index (cX m s q)=((cX m s q).self,0):=by
 unfold pX at h;split at h
 .rename_i x ah;rw[ah];have a7:x.op=5:=by simpa using h
  have aw:fR x.op=0:=by rw[a7];decide
  have ax:kQ (cX m s q) x []=((cX m s q).self,0):=by
   unfold kQ;rw[a7];simp[hp,hd,a7]
  unfold eval nm gq;simp only[List.length_singleton,stepG,aw,ax];simp[gq]
 .cases h
def agT{m:Model}{s t:C_ Int}{q:Nat}{a:Act}(av:q<(insts m).length)(an:(a.kind=4\/a.kind=5)->b6 m a.to.toNat+(1+gF m a.to.toNat)<=s.length)(hk:1<=a.kind/\a.kind<=5)(h:h9 m s q a=some t):fb s t (j5 m q a):=by
 unfold h9 at h;unfold j5;by_cases a7:a.kind=5
 .rw[if_pos a7] at h;rw[if_neg Aw,if_neg Aw,if_neg Aw,if_neg Aw,if_pos a7];exact asB (an (.inr a7)) h
 rw[if_neg a7] at h;by_cases he:(eval a.value (cX m s q)).2≠0
 .rw[if_pos he] at h;cases h
 rw[if_neg he] at h;by_cases h1:a.kind=1
 .rw[if_pos h1] at h ⊢;rw[Hz h];exact fb.set _ _ _
 rw[if_neg h1] at h ⊢;by_cases J:a.kind=2
 .rw[if_pos J] at h ⊢;unfold xB at h;split at h
  .cases h
  .rename_i aw;rw[Hz h];refine(fb.set _ _ _).mono λx ah=>?_;rw[mb,AF2] at ah;subst ah;unfold mC;by_cases aj:pX a=true
   .rw[if_pos aj,mb,AF2,Fx av];have uj:(cX m s q).self=(insts m)[q].elem:=(HS s av rfl).2
    have:=atA (m:=m) (s:=s) (q:=q) (a:=a) aj
    rw[this];simp only[uj]
   .rw[if_neg aj,qz];omega
 rw[if_neg J] at h ⊢;by_cases ab:a.kind=3
 .rw[if_pos ab] at h ⊢;rw[Hz h];exact fb.set _ _ _
 rw[if_neg ab] at h ⊢;rw[if_pos Aw];exact atB (an Aw) h
def n1{m:Model}{c:Nat}(h:c<m.aA.length):b6 m c+(1+gF m c)<=di m:=by
 have:=wL h
 rw[oT h]
 have:=nC m
 omega
theorem XZ{m:Model}{ll:Scope}{q:Nat}(av:q<(insts m).length)(xd:ll.aA=m.aA):∀(l:C_ Act) (s t:C_ Int),(∀a∈l,nR ll a)->s.length=di m->lu m q l s=some t->fb s t (l.flatMap (j5 m q))
 | [],s,t,_,_,h=>by
  injection h with h
  rw[<-h];exact fb.refl _ _
 | a :: l,s,t,aY,aj,h=>by
  simp only[lu] at h;cases h1:h9 m s q a with
  | none=>rw[h1] at h;cases h
  | some u =>
   rw[h1] at h;have J:=agT av (λhk=>by rw[aj];exact n1 (by have:=((aY a (AG5 ..)).chan hk).2;rwa[xd] at this)) (aY a (AG5 ..)).kind h1;have ab:=XZ av xd l u t (λb ak=>aY b (AH7 _ ak)) (J.1.trans aj) h;rw[AI1];exact(J.mono λx ah=>AH2 _ ah).trans (ab.mono λx ah=>AI6 _ ah)
def IQ{ll:Scope}{c:dG}(h:wi ll c):∀a∈c.bL,nR ll a:=λa aY=>by
 obtain⟨k,hk,rfl⟩:=List.mem_iff_getElem.1 aY;exact h.act k hk
theorem aiI{m:Model}{ll:Scope}{q:Nat}{c:dG}{s t:C_ Int}(av:q<(insts m).length)(xd:ll.aA=m.aA)(an:wi ll c)(aj:s.length=di m)(h:hS m s q c=some t):fb s t (kq m q c c.bL.length):=by
 unfold hS at h;split at h
 .cases h
 split at h
 .cases h
 cases h1:lu m q c.bL s with
 | none=>rw[h1] at h;cases h
 | some u =>
  rw[h1] at h;have e:u.set (cV m q) c.to=t:=by injection h
  rw[<-e];unfold kq;rw[AE8];exact((XZ av xd _ s u (IQ an) aj h1).mono λx ah=>AI6 _ ah).trans ((fb.set _ _ _).mono λx ah=>AH2 _ ah)
theorem ac2{s w:Int}:∀{l:C_ eb} {k:Nat} {x:Cell},x∈fQ s w l k->∃b∈l,x.aV=b.aV/\x.U=b.U
 | [],_,_,h=>by cases h
 | b :: l,k,x,h=>by
  rcases List.mem_cons.1 h with rfl | h
  .exact⟨b,CC,rfl,rfl⟩
  .obtain⟨fV,h1,J⟩:=ac2 h;exact⟨fV,by simp[h1],J⟩
theorem I4{s:Int}:∀{ls:C_ (C_ eb)} {i:Nat} {x:Cell},x∈cellsOf s ls i->∃l∈ls,∃b∈l,x.aV=b.aV/\x.U=b.U
 | [],_,_,h=>by cases h
 | l :: r,i,x,h=>by
  rcases List.mem_append.1 h with h | h
  .obtain⟨b,h1,J⟩:=ac2 h;exact⟨l,CC,b,h1,J⟩
  .obtain⟨s6,h1,J⟩:=I4 h;exact⟨s6,by simp[h1],J⟩
def wh(aV U:Int):Prop := -1048576<=aV/\aV<=U/\U<=1048576
def Pc{ll aV U:Int}{s:C_ Scalar}(h:ll=0->wh aV U):wh (e7 ll aV U s).aV (e7 ll aV U s).U:=by
 unfold e7;by_cases ad:ll=0
 .rw[if_pos ad];exact h ad
 .rw[if_neg ad]
  have:=size_le ll s
  unfold wh;simp only;omega
def adu{aV U:Int}(h:narrow aV U=true):wh aV U:=by have:=adt h;unfold wh;omega
def ah4{m:Model}(h:eE m):∀x∈cp m,wh x.aV x.U:=λx ah=>by
 unfold cp at ah;rcases List.mem_append.1 ah with ah | ah
 .rcases List.mem_append.1 ah with ah | ah
  .obtain⟨l,aE,b,ak,bG,aD⟩:=I4 ah;obtain⟨v,aH,rfl⟩:=List.mem_map.1 aE;rw[(List.mem_replicate.1 ak).2] at bG aD;rw[bG,aD];exact Pc λad=>adu ((h.var v aH).MV ad)
  .obtain⟨l,aE,b,ak,bG,aD⟩:=I4 ah;obtain⟨c,an,rfl⟩:=List.mem_map.1 aE;rw[bG,aD];have c9:=h.chan c an;have hT:=c9.cap;rcases List.mem_cons.1 ak with rfl | ak
   .unfold wh;simp only;omega
   .rw[(List.mem_replicate.1 ak).2];exact Pc λad=>by
     have:=adt (c9.MV ad)
     unfold wh;omega
 .obtain⟨l,aE,b,ak,bG,aD⟩:=I4 ah;obtain⟨B2,vG,rfl⟩:=List.mem_map.1 aE;rw[bG,aD];unfold mB at ak;split at ak
  .rename_i p au;have hm:p∈m.procs:=by
    unfold nth at au;split at au
    .exact List.mem_of_getElem? au
    .cases au
   have c9:=h.proc p hm;rcases List.mem_cons.1 ak with rfl | ak
   .have:=c9.cn;unfold wh;simp only;omega
   .obtain⟨v,aH,rfl⟩:=List.mem_map.1 ak;exact Pc λad=>adu ((c9.var v aH).MV ad)
  .cases ak
end o
namespace ba
open Go Go.RowKit
def vc(d:Nat):C_ B_:=[.int .u8 d]
def ajo(d:Nat):∀u∈vc d,u.oneCell'=true:=by simp[vc,Value.oneCell']
def Pj(l:C_ Nat):C_ B_:=l.map λ(d:Nat)=>Value.int .u8 (d:Int)
theorem Pk:∀l:C_ Nat,Pj l=l.flatMap vc
 | []=>rfl
 | x :: r=>by
  have:=Pk r
  simp only[Pj,List.map_cons,List.flatMap_cons] at this ⊢;rw[this];rfl
def aku(l:C_ Nat)(k x:Nat):(l.flatMap vc).set k (.int .u8 x)=(l.set k x).flatMap vc:=by
 rw[<-Pk,<-Pk];simp[Pj,List.map_set]
def AE7{e:F_}{base:Nat}{w:A_}{l:C_ Nat}{a:Addr}{n c k x:Nat}{KW:A_->Prop}{t}(h:aK vc e 1 base w (.slice (some a) n c) l)(hk:k<l.length)
  (cI:∀w1,dw a.block w w1->aK vc e 1 base w1 (.slice (some a) n c) (l.set k x)->KW w1):sy (.pointer (some (a.add (k*1)))) (.int .u8 (x:Nat)) w KW t:=by
 rcases h.2 with ⟨aw,ad⟩ | ⟨g,cap,cur,h1,J,ab,aF,a7,bJ,ct⟩
 .cases aw
 .injection h1 with bG aD aO
  injection bG with bG
  subst bG aO;have cu:k<cur.size:=Aw
  have jt:Addr.add ⟨g,0,none⟩ (k*1)=⟨g,k,none⟩:=by rw[add_eq,AG2,S6]
  have an:w.cell? (Addr.add ⟨g,0,none⟩ (k*1))=some cur[k]:=fP ab (by rw[AG2];exact Array.getElem?_eq_getElem cu);rw[jt] at an ⊢;have bq:w.ownsRow base e 1 (.slice (some ⟨g,0,none⟩) l.length c) l.length (l.flatMap vc):=by unfold aK at h;rw[aD] at h;exact h
  have aj:=World.ownsRow.stored bq k (.int .u8 (x:Nat));rw[aku] at aj;refine _1 an (by simp[World.frozen?,ab]) (by simp[Value.oneCell']) (cI _ (dw.setCell w ⟨g,k,none⟩ _) ?_);unfold aK;rw[X4,aD];exact aj.1
theorem _r{α:Type}{P:D_}{cO:B_->A_->Prop}{enc:α->C_ B_}{e:F_}{sz base:Nat}{w:A_}{s x:B_}{xs ys:C_ α}{R:A_->Addr->α->Prop}[px R enc]{ty:F_}{b:Nat}{t}(aj:aK enc e sz base w s xs)(ah:bm sz R w x ys)(dt:∀x,(enc x).length=sz)(h1:∀y,∀u∈enc y,u.oneCell'=true)
  (ak:(xs.length+ys.length)*b<=140737488355328)(lC:xs.length+ys.length<=maxLen)(kR:base<=w.heap.size)(hk:∀bU w',aK enc e sz base w' bU (xs++ys)->w.grownBy w' s.ownBlock->cO bU w'):mH P ty e sz b s x w cO t:=by
 obtain⟨aN,cap,rfl,rW,J,ab,aF⟩:=ah.ex;cases aN with
 | some a=>exact AB4 aj ⟨some a,cap,rfl,rW,J,ab,aF⟩ dt h1 ak lC kR hk
 | none =>
  have:ys=[]:=Classical.byContradiction λaw=>by have:=ab aw;cases this
  subst this;rw[S5] at hk;refine _c λ⟨aB,i,z,U,bB,Bn,AU,zp,GW⟩=>?_;refine⟨ty,s,w,?_,hk s w aj ⟨rfl,rfl,rfl,E1 _,λ_ _ _=>rfl⟩⟩;rcases aj.2 with ⟨rfl,ad⟩ | ⟨g,cap,cur,rfl,_,_,zf,_⟩
  .simp[Builtin.append_,run_underlying aB,Go.sizeOf,typeInfo,U,Builtin.lenOf,Builtin.firstCells]
  .simp[Builtin.append_,run_underlying aB,Go.sizeOf,typeInfo,U,Builtin.lenOf,Builtin.firstCells,zf,storeCells]
theorem Qa:∀(l:C_ Int) (k:Nat) (x:Int),(l.flatMap bX).set k (.I x)=(l.set k x).flatMap bX
 | [],_,_=>rfl
 | y :: l,0,x=>rfl
 | y :: l,k+1,x=>by
  have:=Qa l k x
  simp only[List.flatMap_cons,List.set_cons_succ];rw[<-this];rfl
def _z{e:F_}{base:Nat}{w:A_}{l:C_ Int}{a:Addr}{n c k:Nat}{x:Int}{KW:A_->Prop}{t}(h:aK bX e 1 base w (.slice (some a) n c) l)(hk:k<l.length)
  (cI:∀w1,dw a.block w w1->aK bX e 1 base w1 (.slice (some a) n c) (l.set k x)->KW w1):sy (.pointer (some (a.add (k*1)))) (.I x) w KW t:=by
 rcases h.2 with ⟨aw,ad⟩ | ⟨g,cap,cur,h1,J,ab,aF,a7,bJ,ct⟩
 .cases aw
 .injection h1 with bG aD aO
  injection bG with bG
  subst bG aO;have cu:k<cur.size:=Aw
  have jt:Addr.add ⟨g,0,none⟩ (k*1)=⟨g,k,none⟩:=by rw[add_eq,AG2,S6]
  have an:w.cell? (Addr.add ⟨g,0,none⟩ (k*1))=some cur[k]:=fP ab (by rw[AG2];exact Array.getElem?_eq_getElem cu);rw[jt] at an ⊢;have bq:w.ownsRow base e 1 (.slice (some ⟨g,0,none⟩) l.length c) l.length (l.flatMap bX):=by unfold aK at h;rw[aD] at h;exact h
  have aj:=World.ownsRow.stored bq k (.I x);rw[Qa] at aj;refine _1 an (by simp[World.frozen?,ab]) (by simp[Value.oneCell']) (cI _ (dw.setCell w ⟨g,k,none⟩ _) ?_);unfold aK;rw[X4,aD];exact aj.1
end ba
namespace o
open Go
theorem zu{l:C_ Int}:jA l=true↔∃h:0<l.length,0<=l[0]/\l[0]<=(l.length:Int) - 1/\∀k (hk:k<l.length),l[0]+1<=k->l[k]=0:=by
 cases l with
 | nil=>simp[jA]
 | cons n r =>
  simp only[jA,Bool.and_eq_true,decide_eq_true_eq,List.all_eq_true];constructor
  .rintro⟨⟨ad,h1⟩,J⟩;refine⟨CC,ad,by simp;omega,λk hk aE=>?_⟩;cases k with
   | zero=>simp at aE;omega
   | succ k =>
    simp only[List.getElem_cons_zero,List.getElem_cons_succ] at aE ⊢;refine J _ (List.mem_iff_getElem.2 ⟨k - n.toNat,by simp at hk ⊢;omega,?_⟩);rw[AK0];congr 1;omega
  .rintro⟨_,ad,h1,J⟩;simp only[List.getElem_cons_zero,List.length_cons] at ad h1 J;refine⟨⟨ad,Aw⟩,λx ah=>?_⟩;obtain⟨k,hk,rfl⟩:=List.mem_iff_getElem.1 ah;rw[AK0]
   have:=J (n.toNat+k+1) (by simp at hk;omega) Aw
   simpa using this
theorem SS{l:C_ Int}(h:jA l=true)(ad:0<l.length):jB l=(l.drop 1).take l[0].toNat:=by
 unfold jB;rw[if_pos h];cases l with
 | nil=>simp at ad
 | cons n r=>rfl
def ao0{l:C_ Int}(h:jA l=true)(ad:0<l.length):(jB l).length=l[0].toNat:=by
 obtain⟨_,h1,J,_⟩:=zu.1 h;rw[SS h ad,H5,AF5];omega
def K3(l:C_ Int):(jB l).length<=l.length:=by
 unfold jB;split
 .rw[H5,AF5];omega
 .simp
def acD{l:C_ Int}(h:¬jA l=true):jB l=[]:=by unfold jB;rw[if_neg h]
def adU(l:C_ Int)(k:Nat):((l.length:Int) :: (List.range (k+1)).map λi=>l.getD i 0)=((l.length:Int) :: (List.range k).map λi=>l.getD i 0)++[l.getD k 0]:=by
 rw[AH1,AF1];rfl
end o
namespace Go.Proofs.R
open Go Go.RowKit ba o
abbrev iy(base:Nat)(w:A_)(v:B_)(l:C_ Int):Prop:=aK bX T.a 1 base w v l
def kF{base:Nat}{w:A_}{v:B_}{l:C_ Int}(h:iy base w v l):c3 w v l:=aK.e4 (enc:=bX) (λ_=>rfl) h
def aeB(v:B_)(l:C_ Int)(w:A_)(h:c3 w v l) :
  Ei F.Mj #[v] w λu w'=>u = .bool (jA l)/\Ext w w':=by
 obtain⟨ei,eZ,rfl,fa⟩:=h.form;have no:(¬∃h:0<l.length,0<=l[0]/\l[0]<=(l.length:Int) - 1/\∀k (hk:k<l.length),l[0]+1<=k->l[k]=0)->jA l=false:=λaw=>by
  cases av:jA l with
  | false=>rfl
  | true=>exact absurd (zu.1 av) aw
 refine bk E.Mj ?_;refine I ?_;apply I_<;>intro g1
 .refine I ?_;exact⟨by rw[no];rintro⟨ad,_⟩;omega,Ext.refl _⟩
 have ad:0<l.length:=Aw
 obtain⟨a,rfl⟩:=h.addr ad;refine I ?_;apply I_<;>intro g2
 .refine I ?_;exact⟨by rw[no];rintro⟨_,h1,_⟩;omega,Ext.refl _⟩
 refine I ?_;apply I_<;>intro g3
 .refine I ?_;exact⟨by rw[no];rintro⟨_,h1,J,_⟩;omega,Ext.refl _⟩
 refine I ?_;refine _L [0] (λx:Int=>[(3,.I x)]) (l[0]+1) (λx W=>W=w/\l[0]+1<=x/\x<=l.length/\∀k (hk:k<l.length),l[0]+1<=k->(k:Int)<x->l[k]=0) (λx=>((l.length:Int) - x).toNat) a6 ⟨rfl,Aw,Aw,λk hk a b=>Aw⟩ ?_;rintro x S w1 ⟨rfl,zo,ah,dx⟩;refine I ?_;apply I_<;>intro g4
 .refine I ?_;refine K_ x.toNat Aw Aw ?_;refine I ?_;apply I_<;>intro g5
  .refine I ?_;refine⟨x+1,a6,⟨aJ,Aw,Aw,λk hk a b=>?_⟩,Aw⟩;by_cases e:(k:Int)=x
   .have:k=x.toNat:=Aw
    subst this;exact g5
   .exact dx k hk a Aw
  .refine I ?_;exact⟨by rw[no];rintro⟨_,_,_,ab⟩;exact g5 (ab _ Aw Aw),Ext.refl _⟩
 .refine I ?_;exact⟨by rw[zu.2 ⟨ad,Aw,Aw,λk hk a=>dx k hk a Aw⟩],Ext.refl _⟩
def aeq{w:A_}(v:B_)(l:C_ Int)(c:Nat)(n x:Int)(h:c3 w v l)(ah:x=c)(an:c<l.length)(aE:l.length<=100000) :
  Ei F.Mw #[v,.I x,.I n] w λu w'=>iy w.heap.size w' u (l.set c n)/\Ext w w':=by
 subst ah;obtain⟨ei,eZ,rfl,fa⟩:=h.form;refine bk E.Mw ?_;refine I ?_;intro w1 bx cN af al;have kU:iy w.heap.size w1 (.slice (some ⟨bx,0,none⟩) 0 0) []:=aK.empty cN al;refine I ?_;refine _r kU (h.ext Flat.ext af) (λ_=>rfl) ht (by simp only[List.length_nil];omega) (by simp only[List.length_nil];unfold maxLen;omega) af.size λbU az dy Dr=>?_;rw[AF8] at dy;have aD:Ext w az:=af.grown Dr λk hk=>(kU.lt k hk).1;obtain⟨aN,fh,rfl,_⟩:=dy.form;obtain⟨a,rfl⟩:=(kF dy).addr;refine I ?_;refine _z dy an λaM fF ez=>?_;have ak:=dy.lt a.block rfl;refine I ?_;exact⟨ez,fF.ext aD ak.1⟩
end Go.Proofs.R
namespace ba
open Go Go.RowKit
section
variable{S:Fr}{w:World}{bl:Value->Prop}
def _0{α:Type}{sz n cap:Nat}{R:A_->Addr->α->Prop}{aN:H_ Addr}{x:G_}{k:IntKind}{xs:C_ α}{t}(l:Nat)(aj:bm sz R w (.slice aN n cap) xs)(ah:bu S x = .int k (l:Int))(aE:l<=xs.length)
  (hk:∀ae c,bm sz R w (.slice ae (xs.length - l) c) (xs.drop l)->bl (.slice ae (xs.length - l) c)):tw S sz (.slice aN n cap) (some x) none none bl t:=by
 obtain⟨bG,aD,aO⟩:=aj.len;refine _B l n cap (by simp[eP,ah]) (by simp[eP]) (by simp[eP]) ⟨Aw,Aw,E1 _⟩ CC ?_;have h:=aj.sub l n Aw Aw;rw[MT (by rw[AF5];omega)] at h;rw[bG] at h ⊢;exact hk _ _ h
def AD5{α:Type}{sz n cap:Nat}{R:A_->Addr->α->Prop}{aN:H_ Addr}{y:G_}{k:IntKind}{xs:C_ α}{t}(u:Nat)(aj:bm sz R w (.slice aN n cap) xs)(bF:bu S y = .int k (u:Int))(hu:u<=xs.length)
  (hk:∀ae c,bm sz R w (.slice ae u c) (xs.take u)->bl (.slice ae u c)):tw S sz (.slice aN n cap) none (some y) none bl t:=by
 obtain⟨bG,aD,aO⟩:=aj.len;refine _B 0 u cap (by simp[eP]) (by simp[eP,bF]) (by simp[eP]) ⟨Aw,Aw,E1 _⟩ CC ?_;have h:=aj.sub 0 u Aw hu;exact hk _ _ h
end
end ba
namespace Go.Proofs.R
open Go Go.RowKit ba o
def aeE(v:B_)(l:C_ Int)(w:A_)(h:c3 w v l)(aE:l.length<=100000) :
  Ei F.Mf #[v] w λu w'=>iy w.heap.size w' u (jB l)/\Ext w w':=by
 obtain⟨ei,eZ,rfl,fa⟩:=h.form;refine bk E.Mf ?_;refine I ?_;refine J_ (aeB _ l w h) ?_;rintro _ w1 ⟨rfl,af⟩;by_cases av:jA l=true
 .rw[av];obtain⟨ad,h1,J,ab⟩:=zu.1 av;obtain⟨a,rfl⟩:=h.addr ad;have fo:=h.ext Flat.ext af;refine I ?_;refine L_ 4 l[0].toNat [0] (λv:fk=>[(3,.slice v.1 v.2.1 v.2.2)]) (none,0,0) (λk v W=>Ext w1 W/\iy w1.heap.size W (.slice v.1 v.2.1 v.2.2) ((l.drop 1).take k)) a6 a6 ⟨Ext.refl _,aK.nil _ _ _ _ _⟩ ?_;clear fo;rintro k nr S az hk ⟨ai,dy⟩;have eo:=h.ext Flat.ext (af.trans ai);refine I ?_;apply I_<;>intro g1
  .have b8:1+k<l.length:=Aw
   refine I ?_;intro aM bV eX ag a8;have ql:((l.drop 1).take k).length<=100000:=by rw[H5,AF5];omega
   refine I ?_;refine S_ (y:=l[1+k]) (dy.ext ag) a8 rfl (λ_=>rfl) ht Aw (by unfold maxLen;omega) (by have:=ai.size;have:=ag.size;omega) λaN c d aR dj mY=>?_;refine I ?_;refine⟨Aw,aJ,(aN,c,d),⟨rfl,trivial⟩,(ai.trans ag).grown mY λi U=>(dy.lt i U).1,?_⟩;rw[AJ6,List.getElem?_drop,List.getElem?_eq_getElem b8];exact dj
  .have gO:k=l[0].toNat:=Aw
   subst gO;refine I ?_;exact⟨by rw[SS av ad];exact aK.low af.size dy,af.trans ai⟩
 .have Bj:jA l=false:=by simpa using av
  rw[Bj];refine I ?_;exact⟨by rw[acD av];exact aK.nil _ _ _ _ _,af⟩
def aeN(n:Nat)(v:B_)(l:C_ Int)(w:A_)(h:c3 w v l)(aw:1<=n/\n<=100000) :
  Ei F.Mi #[.I n,v] w λu w'=>iy w.heap.size w' u (sd n l)/\Ext w w':=by
 obtain⟨ei,eZ,rfl,fa⟩:=h.form;refine bk E.Mi ?_;refine I ?_;intro w1 bx cN af al;have kU:iy w.heap.size w1 (.slice (some ⟨bx,0,none⟩) 1 1) ((l.length:Int) :: (List.range 0).map λi=>l.getD i 0):=aK.sF _ al cN rfl (λ_=>rfl) rfl (by show 1<=maxLen;unfold maxLen;decide);clear al;refine I ?_;refine L_ 6 (n - 1) [0,1] (λv:fk=>[(5,.slice v.1 v.2.1 v.2.2)]) (some ⟨bx,0,none⟩,1,1) (λk v W=>Ext w W/\iy w.heap.size W (.slice v.1 v.2.1 v.2.2) ((l.length:Int) :: (List.range k).map λi=>l.getD i 0)) a6 a6 ⟨af,kU⟩ ?_;clear kU;rintro k nr S az hk ⟨ai,dy⟩;have eo:=h.ext Flat.ext ai;have ql:((l.length:Int) :: (List.range k).map λi=>l.getD i 0).length=k+1:=CC
 refine I ?_;apply I_<;>intro g1
 .refine I ?_;apply I_<;>intro g2
  .have b8:k<l.length:=Aw
   obtain⟨a,rfl⟩:=h.addr;refine I ?_;intro aM bV eX ag a8;refine I ?_;refine S_ (y:=l[k]) (dy.ext ag) a8 rfl (λ_=>rfl) ht Aw (by unfold maxLen;omega) (by have:=ai.size;have:=ag.size;omega) λaN c d aR dj mY=>?_;refine I ?_;refine⟨Aw,aJ,(aN,c,d),⟨rfl,trivial⟩,(ai.trans ag).grown mY λi U=>(dy.lt i U).1,?_⟩;rw[adU,show l.getD k 0=l[k] from by simp[b8]];exact dj
  .refine I ?_;intro aM bV eX ag a8;refine I ?_;refine S_ (y:=0) (dy.ext ag) a8 rfl (λ_=>rfl) ht Aw (by unfold maxLen;omega) (by have:=ai.size;have:=ag.size;omega) λaN c d aR dj mY=>?_;refine I ?_;refine⟨Aw,aJ,(aN,c,d),⟨rfl,trivial⟩,(ai.trans ag).grown mY λi U=>(dy.lt i U).1,?_⟩;rw[adU,show l.getD k 0=0 from by simp[List.getD,List.getElem?_eq_none (show l.length<=k by omega)]];exact dj
 .have gO:k=n - 1:=Aw
  subst gO;refine I ?_;exact⟨dy,ai⟩
def as8(v:B_)(l:C_ Int)(w:A_)(h:c3 w v l)(aE:l.length<=100000) :
  Ei F.Mh #[v] w λu w'=>((qD l=none/\u = .tuple #[.slice none 0 0,.I 0,.bool false])\/(∃r x vr,qD l=some (r,x)/\u = .tuple #[vr,.I x,.bool true]/\iy w.heap.size w' vr r))/\Ext w w':=by
 obtain⟨ei,eZ,rfl,fa⟩:=h.form;refine bk E.Mh ?_;refine I ?_;refine J_ (aeE _ l w h aE) ?_;rintro u w1 ⟨kU,af⟩;have fl:=kF kU;obtain⟨ca,ci,rfl,_⟩:=fl.form;refine I ?_;apply I_<;>intro g1
 .have U:jB l=[]:=AF7 Aw;refine I ?_;exact⟨.inl ⟨by unfold qD;rw[U],aJ⟩,af⟩
 have kz:=K3 l;obtain⟨x,r,U⟩:∃x r,jB l=x :: r:=by
  cases an:jB l with
  | nil=>rw[an] at g1;simp at g1
  | cons x r=>exact⟨x,r,rfl⟩
 obtain⟨gu,rfl⟩:=fl.addr;refine I ?_;intro az ai;have Dc:=fl.ext Flat.ext ai;have eo:=h.ext Flat.ext (af.trans ai);refine I ?_;refine _0 (k:=.i64) 1 Dc rfl Aw λae c au=>?_;have Gk:(jB l).drop 1=r:=by rw[U];rfl
 have zo:(jB l)[0]' Aw=x:=by simp[U]
 rw[Gk] at au;refine I ?_;refine K_ 0 rfl Aw ?_;refine I ?_;refine J_ (aeN l.length _ r az (by have:=au.len.1;exact au) Aw) ?_;rintro u aM ⟨ez,ag⟩;refine⟨ag,?_⟩;refine I ?_;refine⟨.inr ⟨sd l.length r,x,u,by unfold qD;rw[U],by rw[zo],aK.low (af.trans ai).size ez⟩,(af.trans ai).trans ag⟩
def as6(v:B_)(l:C_ Int)(x:Int)(w:A_)(h:c3 w v l)(aE:l.length<=100000) :
  Ei F.Mg #[v,.I x] w λu w'=>((nN l x=none/\u = .tuple #[.slice none 0 0,.bool false])\/(∃r vr,nN l x=some r/\u = .tuple #[vr,.bool true]/\iy w.heap.size w' vr r))/\Ext w w':=by
 obtain⟨ei,eZ,rfl,fa⟩:=h.form;refine bk E.Mg ?_;refine I ?_;refine J_ (aeB _ l w h) ?_;rintro _ w1 ⟨rfl,af⟩;by_cases av:jA l=true;rotate_left
 .have Bj:jA l=false:=by simpa using av
  rw[Bj];refine I ?_;exact⟨.inl ⟨by unfold nN;rw[if_neg (λe=>av e.1)],aJ⟩,af⟩
 rw[av];obtain⟨ad,h1,J,ab⟩:=zu.1 av;obtain⟨a,rfl⟩:=h.addr ad;have fo:=h.ext Flat.ext af;have bb:l.headD 0=l[0]:=by cases l with | nil=>simp at ad | cons n r=>rfl
 refine I ?_;apply I_<;>intro g1
 .refine I ?_;exact⟨.inl ⟨by unfold nN;rw[if_neg (λe=>e.2 (by rw[bb];omega))],aJ⟩,af⟩
 refine I ?_;refine J_ (aeE _ l w1 fo aE) ?_;rintro u az ⟨dy,ai⟩;obtain⟨ca,ci,rfl,_⟩:=(kF dy).form;have kz:=K3 l;refine I ?_;intro aM bV eX ag a8;refine I ?_;refine S_ (y:=x) (dy.ext ag) a8 rfl (λ_=>rfl) ht Aw (by unfold maxLen;omega) (by have:=ai.size;have:=ag.size;omega) λaN c d aR dj mY=>?_;have bo:Ext w1 aR:=(ai.trans ag).grown mY λi U=>(dy.lt i U).1;refine I ?_;refine J_ (aeN l.length _ _ aR (kF dj) Aw) ?_;rintro u bg ⟨dC,ar⟩;refine I ?_;exact⟨.inr ⟨_,_,by unfold nN;rw[if_pos ⟨av,by rw[bb];omega⟩],rfl,aK.low (af.trans bo).size dC⟩,(af.trans bo).trans ar⟩
def aep(c:dG)(eY va:B_)(w:A_)(aY:lP w va c.bL) :
  Ei F.LL #[.agg (c.enc eY va).toArray] w λv w'=>v = .tuple #[.I (o.comm c.bL).1,.I (o.comm c.bL).2]/\Ext w w':=by
 obtain⟨aN,cap,rfl,hlen⟩:=aY.form;refine bk E.LL ?_;refine I ?_;intro w1 bx cN af al;unfold dG.enc at al;refine I ?_;refine L_ 4 c.bL.length [1] (λ_=>[]) () (λk _ w'=>Ext w1 w'/\o.comm c.bL=o.comm (c.bL.drop k)) a6 a6 ⟨Ext.refl _,CC⟩ ?_;have e0:=al;clear al;rintro k _ S az hk ⟨dH,aP⟩;have al:=dH.obj e0;have ai:=af.trans dH;refine I ?_;apply I_<;>intro g1
 .have a1:k<c.bL.length:=Aw
  obtain⟨a,rfl⟩:=aY.addr;obtain⟨bK,bY,gI,dP,rj⟩:=aY.at k a1;rw[YG a1] at aP;replace gI:=gI.ext ai;unfold o.Act.enc at gI;refine I ?_;apply I_<;>intro g2
  .refine I ?_;intro aM ag;refine I ?_;rw[aP,if_pos (by simp[hF,g2])];exact⟨aJ,ai.trans ag⟩
  refine I ?_;apply I_<;>intro g3
  .refine I ?_;intro aM ag;refine I ?_;rw[aP,if_pos (by simp[hF,g3])];exact⟨aJ,ai.trans ag⟩
  refine I ?_;rw[if_neg (by simp[hF,g2,g3])] at aP;exact⟨a1,aJ,(),by trivial,dH,aP⟩
 .refine I ?_;rw[aP,AE9 Aw];exact⟨aJ,ai⟩
def atf(c:dG)(eY va dQ:B_)(l:C_ ea)(w:A_)(aY:lP w va c.bL)(aE:nv w dQ l) :
  Ei F.LM #[.agg (c.enc eY va).toArray,dQ] w λv w'=>v = .I (o.ways c l)/\Ext w w':=by
 obtain⟨aN,cap,rfl,hlen⟩:=aE.form;obtain⟨aqz,Ar,rfl,GD⟩:=aY.form;refine bk E.LM ?_;refine I ?_;intro w1 bx cN af al;refine I ?_;refine J_ (aep c eY _ w1 (aY.ext af)) ?_;rintro _ az ⟨rfl,ai⟩;have aD:=af.trans ai;rw[o.ways];refine I ?_;apply I_<;>intro g1;rotate_left
 .refine I ?_;rw[if_neg g1];exact⟨aJ,aD⟩
 rw[if_pos g1];refine I ?_;apply I_<;>intro g2;rotate_left
 .refine I ?_;rw[hc (.inl Aw)];exact⟨aJ,aD⟩
 refine I ?_;apply I_<;>intro g3;rotate_left
 .refine I ?_;rw[hc (.inr Aw)];exact⟨aJ,aD⟩
 rw[iP Aw Aw];obtain⟨a,rfl⟩:=aE.addr;have U:(o.comm c.bL).2.toNat<l.length:=Aw
 have dK:=((aE.at _ U).cells).ext aD;refine I ?_;refine K_ (o.comm c.bL).2.toNat Aw U ?_;refine I ?_;refine N_ (λg4=>?_) (λg4=>?_)
 .refine I ?_;rw[if_pos g4];exact⟨aJ,aD⟩
 .refine I ?_;rw[if_neg (by simp[g4])];exact⟨aJ,aD⟩
structure pC(w:World)(cs:List Value)(m:o.Model):Prop where
 ex:∃ms ys bK vr,cs=ms++ys++[bK,vr]/\dh w ms m/\jq w ys (o.layout m)/\ix w bK (o.insts m)/\tu w vr (o.refs m)
theorem pC.ext{w w':A_}{cs:C_ B_}{m:o.Model}(he:Ext w w')(h:pC w cs m):pC w' cs m :=
 let ⟨ms,ys,bK,vr,ad,h1,J,ab,aF⟩:=h.ex; ⟨ms,ys,bK,vr,ad,h1.ext he,J.ext he,ab.ext Flat.ext he,aF.ext Flat.ext he⟩
def pC.form{w:A_}{cs:C_ B_}{m:o.Model}(h:pC w cs m):∃eD d0 dI d1 ec d2 ep d3 eM d4 bZ bz bN c1 bT c2 bW bw b1 bD ca ci e1 gh,
  cs=[.slice eD m.scalars.length d0,.slice dI m.vars.length d1,.slice ec m.aA.length d2,.slice ep m.procs.length d3,.slice eM m.props.length d4,
   .slice bZ (o.layout m).vars.length bz,.slice bN (o.layout m).aA.length c1,.slice bT (o.layout m).insts.length c2,.I (o.layout m).cells,.slice bW (o.layout m).aV.length bw,.slice b1 (o.layout m).U.length bD,.slice ca (o.insts m).length ci,.slice e1 (o.refs m).length gh] /\
  dh w [.slice eD m.scalars.length d0,.slice dI m.vars.length d1,.slice ec m.aA.length d2,.slice ep m.procs.length d3,.slice eM m.props.length d4] m /\
  jq w [.slice bZ (o.layout m).vars.length bz,.slice bN (o.layout m).aA.length c1,.slice bT (o.layout m).insts.length c2,.I (o.layout m).cells,.slice bW (o.layout m).aV.length bw,.slice b1 (o.layout m).U.length bD] (o.layout m) /\
  bm 1 (Flat bX) w (.slice bZ (o.layout m).vars.length bz) (o.layout m).vars/\bm 1 (Flat bX) w (.slice bN (o.layout m).aA.length c1) (o.layout m).aA/\bm 1 (Flat bX) w (.slice bT (o.layout m).insts.length c2) (o.layout m).insts /\
  bm 1 (Flat bX) w (.slice bW (o.layout m).aV.length bw) (o.layout m).aV/\bm 1 (Flat bX) w (.slice b1 (o.layout m).U.length bD) (o.layout m).U /\
  iz w (.slice eD m.scalars.length d0) m.scalars/\h8 w (.slice dI m.vars.length d1) m.vars/\nv w (.slice ec m.aA.length d2) m.aA/\rJ w (.slice ep m.procs.length d3) m.procs /\
  ix w (.slice ca (o.insts m).length ci) (o.insts m)/\tu w (.slice e1 (o.refs m).length gh) (o.refs m):=by
 obtain⟨ms,ys,bK,vr,rfl,aL,ck,aP,bA⟩:=h.ex;have FX:=aL;have aln:=ck;obtain⟨bZ,bz,bN,c1,bT,c2,bW,bw,b1,bD,rfl,dF,cR,cA,eN,fs⟩:=ck.form;obtain⟨eD,d0,dI,d1,ec,d2,ep,d3,eM,d4,rfl,ad,h1,J,ab,aF,_⟩:=aL.form;obtain⟨ca,ci,rfl,_⟩:=aP.form;obtain⟨e1,gh,rfl,_⟩:=bA.form;exact⟨eD,d0,dI,d1,ec,d2,ep,d3,eM,d4,bZ,bz,bN,c1,bT,c2,bW,bw,b1,bD,ca,ci,e1,gh,rfl,FX,aln,dF,cR,cA,eN,fs,ad,h1,J,ab,aP,bA⟩
def asb(cs ys:C_ B_)(m:o.Model)(w:A_)(h:dh w cs m)(aG:m.cr)(aL:eE m)(ck:jq w ys (o.layout m)) :
  Ei F.Mk #[.agg cs.toArray,.agg ys.toArray] w λu w'=>(∃bK vr,u = .agg (cs++ys++[bK,vr]).toArray/\aK cP.enc T.d 2 w.heap.size w' bK (o.insts m)/\aK o.Ref.enc T.c 2 w.heap.size w' vr (o.refs m))/\Ext w w':=by
 have b2:=h;have pJ:=ck;obtain⟨bZ,bz,bN,c1,bT,c2,bW,bw,b1,bD,rfl,_⟩:=h.form;obtain⟨k1,d0,ir,d1,jn,d2,nt,d3,mG,d4,rfl,_⟩:=ck.form;refine bk E.Mk ?_;refine I ?_;intro w1 bP c8 af ao;refine I ?_;intro az bV eX ai a8;replace ao:=ai.obj ao;refine I ?_;intro aM cQ fD ag bn;have z4:=cq bn;replace ao:=ag.obj ao;replace a8:=ag.obj a8;have aO:=(af.trans ai).trans ag;have fT:=af.size;have z2:=ai.size;refine I ?_;intro aR aq;have bo:=aO.trans aq;replace ao:=aq.obj ao;replace a8:=aq.obj a8;replace bn:=aq.obj bn;refine I ?_;refine J_ (tf _ m aR (b2.ext bo) aG) ?_;rintro bK bg ⟨dP,ar⟩;obtain⟨ca,ci,rfl,_⟩:=dP.form;have bC:=bo.trans ar;refine⟨ar,?_⟩;refine I ?_;refine J_ (zJ _ m bg (b2.ext bC) aG aL.lim) ?_;rintro vr bp ⟨fp,aC⟩;obtain⟨e1,gh,rfl,_⟩:=fp.form;have b5:=bC.trans aC;refine⟨ar.trans aC,?_⟩;replace bn:=(ar.trans aC).obj bn;refine I ?_;intro bH dz b3;have cL:Ext w bH:=dz.ext b5 Aw;have atg:=ag.size;have qB:=aq.size;have pV:=ar.size;refine I ?_;exact⟨⟨_,_,rfl,aK.low bo.size (aK.wr dz Aw (dP.ext aC)),aK.low bC.size (aK.wr dz Aw fp)⟩,cL⟩
end Go.Proofs.R
namespace o
open Go
def Yg{m:Model}{c:Nat}(h:c<di m):∃bq:c<(cp m).length,Fe m c=((cp m)[c].aV,(cp m)[c].U):=by
 have bq:c<(cp m).length:=h;exact⟨bq,by unfold Fe;rw[List.getElem?_eq_getElem bq]⟩
end o
namespace Go.Proofs.R
open Go Go.RowKit ba o
def UQ:C_ B_:=[.slice none 0 0,.slice none 0 0,.slice none 0 0,.slice none 0 0,.slice none 0 0,.slice none 0 0,.slice none 0 0,.slice none 0 0,.int .i64 0,.slice none 0 0,.slice none 0 0,.slice none 0 0,.slice none 0 0]
def TQ(cs:C_ B_)(m:o.Model)(w:A_)(h:dh w cs m)(aG:m.cr) :
  Ei F.Mm #[.agg cs.toArray] w λu w'=>((¬(o.check m).cJ=0/\u = .tuple #[.agg UQ.toArray,.bool false])\/((o.check m).cJ=0/\∃zs,u = .tuple #[.agg zs.toArray,.bool true]/\pC w' zs m))/\Ext w w':=by
 have b2:=h;obtain⟨bZ,bz,bN,c1,bT,c2,bW,bw,b1,bD,rfl,_⟩:=h.form;refine bk E.Mm ?_;refine I ?_;intro w1 bx cN af al;refine I ?_;intro az bP c8 ai ao;have z2:=cq ao;have age:=af.size;replace al:=ai.obj al;have aD:=af.trans ai;refine I ?_;refine J_ (HI _ m az (b2.ext aD) aG) ?_;rintro _ aM ⟨rfl,ag⟩;replace al:=ag.obj al;replace ao:=ag.obj ao;have aO:=aD.trans ag;unfold vf;refine I ?_;refine Y_ (v:=.I (o.check m).cJ) rfl ?_;refine I ?_;refine I_ (λhk=>?_) (λhk=>?_);rotate_left
 .refine I ?_;intro aR dT bn;refine I ?_;exact⟨.inl ⟨hk,aJ⟩,dT.ext aO Aw⟩
 have aL:=gU hk;refine I ?_;intro aR aq;replace al:=aq.obj al;replace ao:=aq.obj ao;have bo:=aO.trans aq;refine I ?_;refine J_ (T1 _ m aR (b2.ext bo) aG aL) ?_;rintro _ bg ⟨⟨ys,rfl,AP⟩,ar⟩;have ck:=AP.here;have bC:=bo.trans ar;refine⟨ar,?_⟩;refine I ?_;refine J_ (asb _ ys m bg (b2.ext bC) aG aL ck) ?_;rintro _ bp ⟨⟨bK,vr,rfl,dP,fp⟩,aC⟩;have b5:=bC.trans aC;replace ao:=(ar.trans aC).obj ao;obtain⟨k1,d0,ir,d1,jn,d2,nt,d3,mG,d4,rfl,_⟩:=ck.form;obtain⟨ca,ci,rfl,_⟩:=dP.form;obtain⟨e1,gh,rfl,_⟩:=fp.form;have qB:=aq.size;have atg:=ag.size;have pV:=ar.size;have ay2:=cq ao;refine I ?_;intro bH dz b3;have cL:Ext w bH:=dz.ext b5 Aw;have alp:=((AP.ext aC pV).wr dz Aw).here;refine I ?_;exact⟨.inr ⟨hk,_,rfl,_,_,_,_,rfl,b2.ext cL,alp,aK.e4 (enc:=cP.enc) (λ_=>rfl) (aK.wr dz Aw dP),aK.e4 (enc:=o.Ref.enc) (λ_=>rfl) (aK.wr dz Aw fp)⟩,cL⟩
def TO(cs:C_ B_)(m:o.Model)(ref:Int)(q p k:Nat)(w:A_)(h:pC w cs m)(br:fe m ref q p k) :
  Ei F.Mn #[.agg cs.toArray,.I ref] w λu w'=>(∃eY va,u = .agg ((bM m p k).enc eY va).toArray/\eW w eY (bM m p k).guard/\lP w va (bM m p k).bL)/\Ext w w':=by
 obtain⟨eD,d0,dI,d1,ec,d2,ep,d3,eM,d4,bZ,bz,bN,c1,bT,c2,bW,bw,b1,bD,ca,ci,e1,gh,rfl,_,_,_,_,_,_,_,_,_,_,ab,aP,bA⟩:=h.form;have av:=br.at_.U;have au:=br.at_.au;have hz:=br.at_.hk;have kc:=br.at_.ip;obtain⟨r,rfl⟩:=Nb br.aV;have aT:r<(o.refs m).length:=br.U;have fm:(o.refs m)[r].inst=(q:Int):=br.at_.nk;have ke:(o.refs m)[r].cmd=(k:Int):=br.at_.pU;obtain⟨iN,rfl⟩:=bA.addr;obtain⟨gu,rfl⟩:=aP.addr;obtain⟨a3,rfl⟩:=ab.addr;obtain⟨kC,bY,dQ,c5,eU,eA⟩:=ab.at p au;obtain⟨vT,u4,rfl,vP⟩:=eA.form;obtain⟨ac,rfl⟩:=eA.addr;obtain⟨eI,eY,va,e0,ga,e2⟩:=eA.at k hz;obtain⟨fE,fN,rfl,_⟩:=ga.form;obtain⟨oC,n2,rfl,_⟩:=e2.form;unfold dv.enc at c5;unfold dG.enc at e0;refine bk E.Mn ?_;refine I ?_;intro w1 bP c8 af ao;refine I ?_;intro az cQ fD ai bn;have z4:=cq bn;have age:=af.size;replace ao:=ai.obj ao;have aD:=af.trans ai;have Qy:=bA.ext Flat.ext aD;refine I ?_;intro aM dJ jc ag bI;have tP:(o.refs m)[r].enc=[.I q,.I k]:=by unfold o.Ref.enc;rw[fm,ke]
 rw[tP] at bI;replace ao:=ag.obj ao;replace bn:=ag.obj bn;have aO:=aD.trans ag;have Z9:=aP.ext Flat.ext aO;have zi:=c5.ext aO;have AX:=e0.ext aO;clear Qy;refine I ?_;intro aR aq;replace ao:=aq.obj ao;replace bn:=aq.obj bn;replace bI:=aq.obj bI;replace Z9:=Z9.ext Flat.ext aq;replace zi:=zi.ext aq;replace AX:=AX.ext aq;refine I ?_;refine K_ p (by rw[kc]) au ?_;refine I ?_;intro bg e3 vl;refine I ?_;have ha:=sJ au hz;exact⟨⟨.slice fE (bM m p k).guard.length fN,.slice oC (bM m p k).bL.length n2,by rw[ha];rfl,by rw[ha];exact ga,by rw[ha];exact e2⟩,e3.ext (aO.trans aq) Aw⟩
def TU(cs:C_ B_)(v:B_)(m:o.Model)(s:C_ Int)(c:Nat)(w:A_)(h:pC w cs m)(aL:eE m)(aj:c3 w v s)(aE:s.length=di m)(an:c<m.aA.length) :
  Ei F.Ms #[.agg cs.toArray,v,.I c] w λu w'=>c3 w' u (o.chanOf m s c)/\Ext w w':=by
 obtain⟨eD,d0,dI,d1,ec,d2,ep,d3,eM,d4,bZ,bz,bN,c1,bT,c2,bW,bw,b1,bD,ca,ci,e1,gh,rfl,_,_,dF,cR,cA,eN,fs,ad,h1,J,ab,aP,bA⟩:=h.form;obtain⟨ei,eZ,rfl,fa⟩:=aj.form;obtain⟨je,eH⟩:=qc an;have hT:=(aL.chan _ (E2 an)).cap;have s3:=n1 an;have eI:=oT an;have jN:di m<=64:=iH aL;obtain⟨db,rfl⟩:=cR.addr;obtain⟨nW,rfl⟩:=J.addr;have dK:=(J.at c an).cells;refine bk E.Ms ?_;refine I ?_;intro w1 bV eX af a8;have TL:=cR.ext Flat.ext af;replace dK:=dK.ext af;have fo:=aj.ext Flat.ext af;refine I ?_;refine _W (k:=.i64) (k':=.i64) (b6 m c) (b6 m c+(1+gF m c)) fo (by simp[dc,bE,eH]) (by simp[dc,bE,eH];omega) Aw Aw λae iY au=>?_;refine I ?_;refine⟨?_,af⟩;rw[show b6 m c+(1+gF m c) - b6 m c=1+gF m c from Aw] at au ⊢;exact au
def Nl(cs:C_ B_)(v:B_)(m:o.Model)(s:C_ Int)(c:Nat)(x n:Int)(w:A_)(h:pC w cs m)(aL:eE m)(aj:c3 w v s)(aE:s.length=di m)(ah:x=c)(an:c<di m) :
  Ei F.Mu #[.agg cs.toArray,v,.I x,.I n] w λu w'=>((o.putAt m s c n=none/\u = .tuple #[.slice none 0 0,.bool false])\/(∃t kp,o.putAt m s c n=some t/\u = .tuple #[kp,.bool true]/\iy w.heap.size w' kp t))/\Ext w w':=by
 subst ah;obtain⟨eD,d0,dI,d1,ec,d2,ep,d3,eM,d4,bZ,bz,bN,c1,bT,c2,bW,bw,b1,bD,ca,ci,e1,gh,rfl,_,_,dF,cR,cA,eN,fs,ad,h1,J,ab,aP,bA⟩:=h.form;obtain⟨ei,eZ,rfl,fa⟩:=aj.form;obtain⟨dN,q0⟩:=Yg an;have f2:=Ld m;have f3:=Lb m;have kA:(cp m).length=di m:=rfl;have dU:(o.layout m).aV[c]' Aw=(cp m)[c].aV:=Lc _ dN;have eg:(o.layout m).U[c]' Aw=(cp m)[c].U:=La _ dN;have jN:di m<=64:=iH aL;obtain⟨a3,rfl⟩:=eN.addr;obtain⟨a4,rfl⟩:=fs.addr;refine bk E.Mu ?_;refine I ?_;intro w1 cQ fD af bn;have HD:=eN.ext Flat.ext af;have ayk:=fs.ext Flat.ext af;refine I ?_;apply I_<;>intro g1
 .refine I ?_;exact⟨.inl ⟨by unfold o.putAt;rw[q0,if_pos (.inl (by simp only;omega))],aJ⟩,af⟩
 refine I ?_;apply I_<;>intro g2
 .refine I ?_;exact⟨.inl ⟨by unfold o.putAt;rw[q0,if_pos (.inr (by simp only;omega))],aJ⟩,af⟩
 refine I ?_;refine J_ (aeq _ s c n _ (aj.ext Flat.ext af) rfl Aw Aw) ?_;rintro u az ⟨dy,ai⟩;refine I ?_;exact⟨.inr ⟨_,_,by unfold o.putAt;rw[q0,if_neg (by simp only;omega)],rfl,aK.low af.size dy⟩,af.trans ai⟩
def T2(cs:C_ B_)(v nQ:B_)(m:o.Model)(s l:C_ Int)(c:Nat)(w:A_)(h:pC w cs m)(aL:eE m)(aj:c3 w v s)(aw:c3 w nQ l)(aE:s.length=di m)(an:c<m.aA.length)(ql:l.length=1+gF m c) :
  Ei F.Mt #[.agg cs.toArray,v,.I c,nQ] w λu w'=>iy w.heap.size w' u (h0 s (b6 m c) l)/\Ext w w':=by
 obtain⟨eD,d0,dI,d1,ec,d2,ep,d3,eM,d4,bZ,bz,bN,c1,bT,c2,bW,bw,b1,bD,ca,ci,e1,gh,rfl,_,_,dF,cR,cA,eN,fs,ad,h1,J,ab,aP,bA⟩:=h.form;obtain⟨ei,eZ,rfl,fa⟩:=aj.form;obtain⟨on,aiL,rfl,axS⟩:=aw.form;obtain⟨je,eH⟩:=qc an;have s3:=n1 an;have jN:di m<=64:=iH aL;obtain⟨db,rfl⟩:=cR.addr;refine bk E.Mt ?_;refine I ?_;intro w1 cQ fD af bn;have TL:=cR.ext Flat.ext af;have fo:=aj.ext Flat.ext af;have sY:=aw.ext Flat.ext af;refine I ?_;intro az ai;have eo:=fo.ext Flat.ext ai;have hn:=sY.ext Flat.ext ai;have aD:=af.trans ai;refine I ?_;refine AD5 (k:=.i64) (b6 m c) eo (by simp[dc,bE,eH]) Aw λaxX avN dd=>?_;refine I ?_;refine _0 (k:=.i64) (b6 m c+l.length) eo (by simp[dc,bE,eH]) Aw λaxY hK gP=>?_;refine I ?_;intro aM bV eX ag a8;have ez:iy az.heap.size aM (.slice (some ⟨bV,0,none⟩) 0 0) []:=aK.empty eX a8;have tl:(s.take (b6 m c)).length<=64:=by rw[H5];omega
 have dl:(s.drop (b6 m c+l.length)).length<=64:=by rw[AF5];omega
 refine I ?_;refine _r ez (dd.ext Flat.ext ag) (λ_=>rfl) ht (by simp only[List.length_nil];omega) (by simp only[List.length_nil];unfold maxLen;omega) ag.size λv4 aR dj mY=>?_;have dX:Ext az aR:=ag.grown mY λi U=>(ez.lt i U).1;rw[AF8] at dj;obtain⟨gW,x7,rfl,_⟩:=dj.form;refine I ?_;refine _r dj (hn.ext Flat.ext dX) (λ_=>rfl) ht Aw (by unfold maxLen;omega) dX.size λv5 bg dC kS=>?_;have hq:Ext az bg:=dX.grown kS λi U=>(dj.lt i U).1;obtain⟨sf,ayp,rfl,_⟩:=dC.form;refine I ?_;refine _r dC (gP.ext Flat.ext hq) (λ_=>rfl) ht (by rw[HO];omega) (by rw[HO];unfold maxLen;omega) hq.size λv6 bp dk ie=>?_;have hg:Ext az bp:=hq.grown ie λi U=>(dC.lt i U).1;obtain⟨uG,ayq,rfl,_⟩:=dk.form;refine I ?_;exact⟨aK.low aD.size dk,aD.trans hg⟩
end Go.Proofs.R
namespace o
open Go
def Yq{m:Model}{i:Nat}(h:i<m.aA.length):b6 m (i+1)=b6 m i+(1+gF m i):=by rw[ahM h,oT h]
theorem Pl{m:Model}:∀(d i:Nat),i+d<=m.aA.length->b6 m i<=b6 m (i+d)
 | 0,_,_=>E1 _
 | d+1,i,h=>by
  have:=Pl (m:=m) d i Aw
  have:=Yq (m:=m) (i:=i+d) Aw
  rw[<-AI5];omega
def Yp{m:Model}{i j:Nat}(Dv:i<j)(ay:j<m.aA.length):b6 m i+(1+gF m i)<=b6 m j:=by
 have h1:=Yq (m:=m) (i:=i) Aw;have J:=Pl (m:=m) (j - (i+1)) (i+1) Aw;rw[show i+1+(j - (i+1))=j from Aw] at J;omega
def ahL(m:Model)(i:Nat)(h:i<=m.aA.length):total (c6 m)<=b6 m i:=by
 have:=Pl (m:=m) i 0 Aw
 rw[S6,ahN] at this;exact this
def apr{m:Model}{i j:Nat}(U:i<m.aA.length)(ay:j<(n3 m.scalars m.aA[i]).length):∃h:b6 m i+j<(cp m).length,(cp m)[b6 m i+j].aV=(n3 m.scalars m.aA[i])[j].aV/\(cp m)[b6 m i+j].U=(n3 m.scalars m.aA[i])[j].U:=by
 have hw:i<(dM m).length:=by simpa[dM] using U
 have e:(dM m)[i]=n3 m.scalars m.aA[i]:=by simp[dM]
 have hk:j<(dM m)[i].length:=by rw[e];exact ay
 have h1:=Ps 2 (dM m) 0 i j hw hk;have oo:=wL U;rw[wN] at ay;have J:=apq (m:=m) (c:=b6 m i+j) (by unfold b6;omega) Aw;rw[show b6 m i+j - total (c6 m)=total ((dM m).take i)+j from by unfold b6;omega,h1] at J;obtain⟨ab,aF⟩:=List.getElem?_eq_some_iff.1 J;refine⟨ab,?_,?_⟩
 .rw[aF];simp only[e]
 .rw[aF];simp only[e]
def akt{m:Model}{s:C_ Int}{c:Nat}{n:Int}(ax:Fits m s)(aT:c<total (c6 m)\/total (c6 m)+total (dM m)<=c)(ak:∀h:c<(cp m).length,(cp m)[c].aV<=n/\n<=(cp m)[c].U):Fits m (s.set c n):=by
 refine⟨by rw[X4];exact ax.len,λi U=>?_,λj ay eT=>?_⟩
 .have h1:=wL U;have J:=ahL m i Aw
  have:n4 m i m.aA[i] (s.set c n)=n4 m i m.aA[i] s:=afh λk hk=>List.getElem?_set_ne Aw
  rw[this];exact ax.queue i U
 .rw[List.getElem_set];split
  .rename_i e;subst e;exact ak eT
  .exact ax.cell j (by rw[X4] at ay;exact ay) eT
theorem ar1{s:C_ Scalar}{c:ea}{l:C_ Int}(hT:1<=c.cap)(h:mh s c l){j:Nat}(ay:j<(n3 s c).length):∃x,l[j]? = some x/\(n3 s c)[j].aV<=x/\x<=(n3 s c)[j].U:=by
 obtain⟨n,ad,h1,J,ab⟩:=h;cases j with
 | zero=>exact⟨n,ad,h1,J⟩
 | succ k =>
  rw[wN] at ay;obtain⟨x,ah,aY,ak⟩:=ab k Aw;refine⟨x,ah,?_⟩;have e:(n3 s c)[k+1]'(by rw[wN];omega)=ly s c:=by simp[n3]
  rw[e];unfold ly;unfold e7 at aY ⊢;by_cases aw:(k:Int)<n
  .have:=aY aw
   split at this<;>rename_i aj
   .rw[if_pos aj];simp only at this ⊢;omega
   .rw[if_neg aj];exact this
  .have:=ak Aw
   subst this;split
   .simp only;omega
   .simp only
    have:=size_le c.scalar s
    omega
def ZI{m:Model}{s l:C_ Int}{i:Nat}(ax:Fits m s)(U:i<m.aA.length)(hT:1<=m.aA[i].cap)(aE:l.length=1+gF m i)(av:mh m.scalars m.aA[i] l):Fits m (h0 s (b6 m i) l):=by
 have s3:=n1 U;have oo:b6 m i+l.length<=s.length:=by rw[ax.len];omega
 have eI:=oT U;refine⟨by rw[G6 oo];exact ax.len,λj ay=>?_,λx ah vG=>?_⟩
 .by_cases e:j=i
  .subst e
   have:n4 m j m.aA[j] (h0 s (b6 m j) l)=l:=by
    apply List.ext_getElem?;intro k;unfold n4;rw[List.getElem?_take,List.getElem?_drop];split
    .rw[Bt oo,if_pos ⟨Aw,Aw⟩,show b6 m j+k - b6 m j=k from Aw]
    .rw[List.getElem?_eq_none Aw]
   rw[this];exact av
  .have jy:=oT ay
   have:n4 m j m.aA[j] (h0 s (b6 m i) l)=n4 m j m.aA[j] s:=afh λk hk=>by
    rw[Bt oo,if_neg];rcases Nat.lt_or_gt_of_ne e with h | h
    .have:=Yp h U;omega
    .have:=Yp h ay;omega
   rw[this];exact ax.queue j ay
 .have hb:x<s.length:=by rw[G6 oo] at ah;exact ah
  have aG:=Bt oo x;rw[List.getElem?_eq_getElem ah] at aG;by_cases eh:b6 m i<=x/\x<b6 m i+l.length
  .rw[if_pos eh] at aG;have abi:x - b6 m i<(n3 m.scalars m.aA[i]).length:=by rw[wN];omega
   obtain⟨y,bF,bx,bP⟩:=ar1 hT av abi;obtain⟨ab,aF,a7⟩:=apr U abi;rw[bF] at aG;have e:x=b6 m i+(x - b6 m i):=Aw
   have mZ:(cp m)[x]=(cp m)[b6 m i+(x - b6 m i)]:=by congr 1
   injection aG with aG
   rw[aG,mZ,aF,a7];exact⟨bx,bP⟩
  .rw[if_neg eh,List.getElem?_eq_getElem hb] at aG;injection aG with aG
   rw[aG];exact ax.cell x hb vG
def adS{n:Nat}{l:C_ Int}{k:Nat}(hk:k+1<n):(sd n l)[k+1]? = some (l.getD k 0):=by
 unfold sd;rw[List.getElem?_cons_succ,List.getElem?_map,List.getElem?_range Aw];rfl
def adT{s:C_ Scalar}{c:ea}{l:C_ Int}(hT:1<=c.cap)(aE:(l.length:Int)<=c.cap)(ak:∀x∈l,(e7 c.scalar c.aV c.U s).aV<=x/\x<=(e7 c.scalar c.aV c.U s).U):mh s c (sd (1+c.cap.toNat) l):=by
 refine⟨l.length,rfl,Aw,aE,λk hk=>⟨l.getD k 0,adS Aw,λgO=>?_,λgO=>?_⟩⟩
 .have o7:k<l.length:=Aw
  have e:l.getD k 0=l[k]:=by simp[o7]
  rw[e];exact ak _ (E2 o7)
 .simp[List.getD,List.getElem?_eq_none (show l.length<=k by omega)]
def aef{s:C_ Scalar}{c:ea}{l:C_ Int}(aE:l.length=1+c.cap.toNat)(hT:1<=c.cap)(h:mh s c l):jA l=true/\((jB l).length:Int)<=c.cap/\l.headD 0=(jB l).length/\∀x∈jB l,(e7 c.scalar c.aV c.U s).aV<=x/\x<=(e7 c.scalar c.aV c.U s).U:=by
 obtain⟨n,ad,h1,J,ab⟩:=h;obtain⟨a,r,rfl⟩:∃a r,l=a :: r:=by
  cases l with
  | nil=>simp at aE;omega
  | cons a r=>exact⟨a,r,rfl⟩
 simp only[List.getElem?_cons_zero,Option.some.injEq] at ad;subst ad;simp only[List.length_cons] at aE;have av:jA (a :: r)=true:=by
  simp only[jA,Bool.and_eq_true,decide_eq_true_eq,List.all_eq_true];refine⟨⟨h1,Aw⟩,λx ah=>?_⟩;obtain⟨k,hk,rfl⟩:=List.mem_iff_getElem.1 ah;rw[AF5] at hk;rw[AK0];obtain⟨x,ah,_,bB⟩:=ab (a.toNat+k) Aw;rw[List.getElem?_cons_succ,List.getElem?_eq_getElem Aw] at ah;injection ah with ah
  rw[ah];exact bB Aw
 have U:jB (a :: r)=r.take a.toNat:=by
  unfold jB;rw[if_pos av];rfl
 rw[U];refine⟨av,by rw[H5];omega,by rw[H5];simp;omega,λx ah=>?_⟩;obtain⟨k,hk,rfl⟩:=List.mem_iff_getElem.1 ah;rw[H5] at hk;rw[AI7];obtain⟨x,ah,ak,_⟩:=ab k Aw;rw[List.getElem?_cons_succ,List.getElem?_eq_getElem Aw] at ah;injection ah with ah
 rw[ah];exact ak Aw
def arO{s:C_ Scalar}{c:ea}{l r:C_ Int}{v:Int}(aE:l.length=1+c.cap.toNat)(hT:1<=c.cap)(h:mh s c l)(aH:(e7 c.scalar c.aV c.U s).aV<=v/\v<=(e7 c.scalar c.aV c.U s).U)(au:nN l v=some r):mh s c r:=by
 obtain⟨h1,J,ab,aF⟩:=aef aE hT h;unfold nN at au;split at au
 .rename_i cI;injection au with au
  subst au;rw[aE];refine adT hT ?_ λx ah=>?_
  .have:=cI.2
   rw[ab,aE] at this;rw[HO,List.length_singleton];omega
  .rcases List.mem_append.1 ah with ah | ah
   .exact aF x ah
   .rw[AF2] at ah;subst ah;exact aH
 .cases au
def auj{s:C_ Scalar}{c:ea}{l r:C_ Int}{v:Int}(aE:l.length=1+c.cap.toNat)(hT:1<=c.cap)(h:mh s c l)(au:qD l=some (r,v)):mh s c r:=by
 obtain⟨h1,J,ab,aF⟩:=aef aE hT h;unfold qD at au;split at au
 .cases au
 .rename_i x q av;injection au with au
  injection au with bG aD
  subst bG;rw[aE];rw[av] at J aF;exact adT hT (by simp only[List.length_cons] at J;omega) λy bF=>aF y (AH7 _ bF)
def M8{m:Model}{s t:C_ Int}{c:Nat}{n:Int}(ax:Fits m s)(aT:c<total (c6 m)\/total (c6 m)+total (dM m)<=c)(h:putAt m s c n=some t):Fits m t:=by
 have e:=Hz h;subst e;refine akt ax aT λan=>?_;unfold putAt Fe at h;rw[List.getElem?_eq_getElem an] at h;simp only at h;split at h
 .cases h
 .omega
def adg{m:Model}{q:Nat}(j:Nat):total (c6 m)+total (dM m)<=cV m q+j:=by unfold cV;omega
def XT{m:Model}(aL:eE m){s t:C_ Int}{q p:Nat}{a:Act}(av:fL m q p)(aY:nR (inner (m.procs[p]'(av.au)) (eC m)) a)(ax:Fits m s)(h:h9 m s q a=some t):Fits m t:=by
 have zc:=aY.kind;unfold h9 at h;by_cases a7:a.kind=5
 .rw[if_pos a7] at h;have an:a.to.toNat<m.aA.length:=(aY.chan (.inr a7)).2;have hT:=(aL.chan _ (E2 an)).cap.1;have dN:(chanOf m s a.to.toNat).length=1+m.aA[a.to.toNat].cap.toNat:=by rw[u5 (by rw[ax.len];exact n1 an),oT an]
  unfold zI at h;cases au:qD (chanOf m s a.to.toNat) with
  | none=>rw[au] at h;cases h
  | some T5 =>
   obtain⟨r,n⟩:=T5;rw[au] at h;have GO:=ax.queue _ an;have e:chanOf m s a.to.toNat=n4 m a.to.toNat m.aA[a.to.toNat] s:=by unfold chanOf n4;rw[oT an]
   rw[<-e] at GO;have vz:=NH au;have h1:=ZI ax an hT (by rw[vz,dN,oT an]) (auj dN hT GO au);exact M8 h1 (.inr (by rw[AI5];exact adg _)) h
 rw[if_neg a7] at h;by_cases he:(eval a.value (cX m s q)).2≠0
 .rw[if_pos he] at h;cases h
 rw[if_neg he] at h;by_cases h1:a.kind=1
 .rw[if_pos h1] at h;obtain⟨_,v,aH,iE⟩:=aY.set h1;obtain⟨hB,dL⟩:=List.getElem?_eq_some_iff.1 aH;have GY:a.to.toNat<m.vars.length:=hB;have oo:=sl GY
  have:cells m.vars[a.to.toNat] m.scalars=1:=by
   have GZ:m.vars[a.to.toNat]=v:=dL;rw[GZ];unfold cells;rw[if_pos iE]
  exact M8 ax (.inl (by rw[this] at oo;omega)) h
 rw[if_neg h1] at h;by_cases J:a.kind=2
 .rw[if_pos J] at h;have hB:a.to.toNat<m.vars.length:=(aY.item J).2.1;have oo:=sl hB;have vz:=rp hB;unfold xB at h;split at h
  .cases h
  .rename_i aw;exact M8 ax (.inl Aw) h
 rw[if_neg J] at h;by_cases ab:a.kind=3
 .rw[if_pos ab] at h;exact M8 ax (.inr (by rw[AI5];exact adg _)) h
 rw[if_neg ab] at h;have aF:a.kind=4:=Aw
 have an:a.to.toNat<m.aA.length:=(aY.chan (.inl aF)).2;have hT:=(aL.chan _ (E2 an)).cap.1;have dN:(chanOf m s a.to.toNat).length=1+m.aA[a.to.toNat].cap.toNat:=by rw[u5 (by rw[ax.len];exact n1 an),oT an]
 have q0:wM m a.to.toNat=e7 m.aA[a.to.toNat].scalar m.aA[a.to.toNat].aV m.aA[a.to.toNat].U m.scalars:=by unfold wM;rw[List.getElem?_eq_getElem an]
 unfold vZ at h;rw[q0] at h;split at h
 .cases h
 .rename_i aw;cases au:nN (chanOf m s a.to.toNat) (eval a.value (cX m s q)).1 with
  | none=>rw[au] at h;cases h
  | some r =>
   rw[au] at h;have e:h0 s (b6 m a.to.toNat) r=t:=by injection h
   rw[<-e];have GO:=ax.queue _ an;have aD:chanOf m s a.to.toNat=n4 m a.to.toNat m.aA[a.to.toNat] s:=by unfold chanOf n4;rw[oT an]
   rw[<-aD] at GO;have vz:=Na au;exact ZI ax an hT (by rw[vz,dN,oT an]) (arO dN hT GO Aw au)
end o