/- Parts. -/
import Derived.Test.YtakmdjclehkglaaGreatDoorQapm
import Derived.Laws.Bits64b
import Derived.Lib.AppendZerosOnto
set_option linter.all false
set_option maxRecDepth 8000
set_option maxHeartbeats 6400000
namespace Go.Proofs.R
open Go Go.RowKit a8
def asn(xs:C_ B_)(m:o.Model)(v:B_)(s:C_ Int)(w:A_)(ch:o.jk w xs (o.layout m))(aL:o.ey m)(aj:c9 w v s)(aE:s.length=o.di m) :
  Du F.L2 #[.agg xs.toArray,v] w λu w'=>(∃t:Bool,u = .bool t/\(t=true↔∀i (h:i<s.length) (br:i<(o.cp m).length),(o.cp m)[i].aV<=s[i]/\s[i]<=(o.cp m)[i].U))/\Ext w w':=by
 obtain⟨kT,d0,ie,d1,ji,d2,nd,d3,mu,d4,rfl,dB,cP,cA,eI,fp⟩:=ch.form;obtain⟨ei,eW,rfl,e6⟩:=aj.form;have Zb:(o.layout m).cells=(o.di m:Int):=rfl;have f2:=o.K4 m;have f3:=o.K2 m;have j4:o.di m<=64:=o.iG aL;have nx:(o.cp m).length=s.length:=aE.symm;refine bl E.L2 ?_;refine J ?_;intro w1 bx cN ag al;have sE:=al;clear al;replace aj:=aj.ext Flat.ext ag;replace eI:=eI.ext Flat.ext ag;replace fp:=fp.ext Flat.ext ag;refine J ?_;refine L_ 5 s.length [1,2] (λ_:Unit=>[]) () (λk _ W=>Ext w1 W/\∀j (h:j<s.length) (br:j<(o.cp m).length),j<k->(o.cp m)[j].aV<=s[j]/\s[j]<=(o.cp m)[j].U) a6 a6 ⟨Ext.refl _,λj _ _ h=>absurd h (HI _)⟩ ?_;rintro k _ S aA hk ⟨ai,dv⟩;have al:=ai.obj sE;refine J ?_;apply I_<;>intro g3
 .have a7:k<s.length:=Ad
  have oa:k<(o.cp m).length:=Ad
  have dR:(o.layout m).aV[k]' Ad=(o.cp m)[k].aV:=o.K3 _ oa;have ee:(o.layout m).U[k]' Ad=(o.cp m)[k].U:=o.K1 _ oa;obtain⟨nO,rfl⟩:=aj.addr;obtain⟨a3,rfl⟩:=eI.addr;obtain⟨a4,rfl⟩:=fp.addr;have bad:¬((o.cp m)[k].aV<=s[k]/\s[k]<=(o.cp m)[k].U)->(false=true↔∀i (h:i<s.length) (br:i<(o.cp m).length),(o.cp m)[i].aV<=s[i]/\s[i]<=(o.cp m)[i].U):=λh=>by
   simp only[Bool.false_eq_true,false_iff];exact λcR=>h (cR k a7 oa)
  have aH:=ag.trans ai;refine J ?_;apply I_<;>intro g4
  .refine J ?_;intro aM ah;refine J ?_;exact⟨⟨false,rfl,bad Ad⟩,aH.trans ah⟩
  refine J ?_;intro aM ah;apply I_<;>intro g5
  .refine J ?_;exact⟨⟨false,rfl,bad Ad⟩,aH.trans ah⟩
  refine J ?_;refine⟨a7,aK,(),trivial,ai.trans ah,λj h br az=>?_⟩;by_cases ha:j=k
  .subst ha;omega
  .exact dv j h br Ad
 .refine J ?_;exact⟨⟨true,rfl,by simp only[true_iff];exact λj h br=>dv j h br Ad⟩,ag.trans ai⟩
def adU(cs xs:C_ B_)(m:o.Model)(v:B_)(s:C_ Int)(w:A_)(h:o.dj w cs m)(ch:o.jk w xs (o.layout m))(aL:o.ey m)(aj:c9 w v s) :
  Du F.LX #[.agg cs.toArray,.agg xs.toArray,v] w λu w'=>(∃t:Bool,u = .bool t/\(t=true↔o.Fits m s))/\Ext w w':=by
 have b4:=h;have py:=ch;obtain⟨b0,bz,bO,c1,bT,c2,bV,bu,b1,bB,rfl,ad,h1,I,ab,aC,eu,dz,dJ,dR,ee⟩:=h.form;obtain⟨kT,d0,ie,d1,ji,d2,nd,d3,mu,d4,rfl,dB,cP,cA,eI,fp⟩:=ch.form;obtain⟨ei,eW,rfl,e6⟩:=aj.form;have Zb:(o.layout m).cells=(o.di m:Int):=rfl;have j4:o.di m<=64:=o.iG aL;have gf:=aL.gf;refine bl E.LX ?_;refine J ?_;intro w1 bx cN ag al;refine J ?_;intro aA bQ c7 ai ao;replace al:=ai.obj al;have aH:=ag.trans ai;replace aj:=aj.ext Flat.ext aH;refine J ?_;apply I_<;>intro g1;rotate_left
 .refine J ?_;exact⟨⟨false,rfl,by simp only[Bool.false_eq_true,false_iff];intro h;have:=h.len;omega⟩,aH⟩
 have aE:s.length=o.di m:=Ad
 have sE:=al;have FO:=ao;clear al ao;refine J ?_;refine L_ 7 m.ax.length [2,3,4] (λ_:Unit=>[]) () (λk _ W=>Ext aA W/\∀j (h:j<m.ax.length),j<k->o.l3 m.scalars m.ax[j] (o.nR m j m.ax[j] s)) a6 a6 ⟨Ext.refl _,λj _ h=>absurd h (HI _)⟩ ?_;rintro k _ S aM hk ⟨ah,dv⟩;have al:=ah.obj sE;have ao:=ah.obj FO;have aR:=aH.trans ah;have gN:=aj.ext Flat.ext ah;refine J ?_;apply I_<;>intro g2
 .have a7:k<m.ax.length:=Ad
  obtain⟨iV,eB⟩:=o.p1 a7;have n3:=o.wv a7;have eC:=o.nq m;have hL:=(aL.chan _ (ED a7)).cap;obtain⟨db,rfl⟩:=cP.addr;obtain⟨a2,rfl⟩:=I.addr;have axG:=cP.ext Flat.ext aR;have dH:=((I.at k a7).cells).ext aR;refine J ?_;refine _W (k:=.i64) (k':=.i64) (o.b7 m k) (o.b7 m k+(1+m.ax[k].cap.toNat)) gN (by simp[dc,bD,eB]) (by simp[dc,bD,eB];omega) Ad Ad λae c ar=>?_;rw[show o.b7 m k+(1+m.ax[k].cap.toNat) - o.b7 m k=1+m.ax[k].cap.toNat from Ad] at ar ⊢;replace ar:bm 1 (Flat bX) aM (.slice ae (1+m.ax[k].cap.toNat) c) (o.nR m k m.ax[k] s):=ar;refine J ?_;refine P_ (.bool (o.Hf m.scalars m.ax[k] (o.nR m k m.ax[k] s))) (λw' e=>(arU _ m _ _ k w' (b4.ext (aR.trans e)) aL a7 (ar.ext Flat.ext e) ar.len.1.symm).mono λu bM ⟨⟨t,aB,au⟩,he⟩=>⟨by rw[aB,o.arv au],he⟩) ?_;refine J ?_;intro aU aq;refine N_ (λau=>?_) (λau=>?_)
  .refine J ?_;refine⟨a7,aK,(),trivial,ah.trans aq,λj h az=>?_⟩;by_cases ha:j=k
   .subst ha;exact o.Tt.1 au
   .exact dv j h Ad
  .refine J ?_;exact⟨⟨false,rfl,by simp only[Bool.false_eq_true,false_iff];intro h;have:=o.Tt.2 (h.queue k a7);rw[au] at this;cases this⟩,aR.trans aq⟩
 .refine J ?_;refine J_ (asn _ m _ s aM (py.ext aR) aL gN aE) ?_;rintro _ aU ⟨⟨t,rfl,aB⟩,aq⟩;refine J ?_;exact⟨⟨t,rfl,aB.trans ⟨λh=>⟨aE,λj az=>dv j az Ad,h⟩,λh=>h.cell⟩⟩,aR.trans aq⟩
def arK(cs:C_ B_)(m:o.Model)(v:B_)(s:C_ Int)(w:A_)(h:o.dj w cs m)(aG:m.cv)(aj:c9 w v s) :
  Du F.LY #[.agg cs.toArray,v] w λu w'=>(∃t:Bool,u = .bool t/\(t=true↔o.iN m s))/\Ext w w':=by
 have aL:=h;obtain⟨b0,bz,bO,c1,bT,c2,bV,bu,b1,bB,rfl,_⟩:=h.form;obtain⟨ei,eW,rfl,e6⟩:=aj.form;refine bl E.LY ?_;refine J ?_;intro w1 bx cN ag al;refine J ?_;intro aA ai;replace al:=ai.obj al;have aH:=ag.trans ai;refine J ?_;refine J_ (MB _ m aA (aL.ext aH) aG) ?_;rintro _ aM ⟨rfl,ah⟩;have aR:=aH.trans ah;refine⟨ah,?_⟩;by_cases hk:(o.check m).cJ=0
 .rw[decide_eq_true hk];refine J ?_;refine J_ (TF _ m aM (aL.ext aR) aG) ?_;rintro _ aU ⟨⟨xs,rfl,ch⟩,aq⟩;replace ch:=ch.here;rw[o.zg hk] at ch;have bn:=aR.trans aq;refine⟨ah.trans aq,?_⟩;refine J ?_;refine J_ (adU _ _ m _ s aU (aL.ext bn) ch (o.hE hk) (aj.ext Flat.ext bn)) ?_;rintro _ bh ⟨⟨t,rfl,aB⟩,av⟩;refine J ?_;exact⟨⟨t,by cases t<;>rfl,aB.trans ⟨λh=>⟨hk,h⟩,λh=>h.2⟩⟩,bn.trans av⟩
 .rw[decide_eq_false hk];refine J ?_;exact⟨⟨false,rfl,by simp only[Bool.false_eq_true,false_iff];exact λh=>hk h.1⟩,aR⟩
end Go.Proofs.R
namespace a8
open Go Go.RowKit
def oh(l:C_ Int):C_ B_:=l.map (Value.int .i64)
def ab5(l:C_ Int):(oh l).length=l.length:=by simp[oh]
def ab6{l:C_ Int}{d j:Nat}{x:Int}(az:j=d)(h:j<(oh l).toArray.size):(oh l).toArray.set j (.I x) h=(oh (l.set d x)).toArray:=by
 subst az;simp[oh,List.map_set]
def auP(n:Nat):se (Value.int .i64 0).cells (n*1)=(oh (List.replicate n 0)).toArray:=by
 apply Array.ext_getElem?;intro i;by_cases h:i<n
 .simp[se,oh,Value.cells,h,Nat.mod_one]
 .simp[se,oh,h]
def _x{cL:B_->A_->Prop}{w:A_}{e:F_}{n:Int}{t}(N:Nat)(aw:n=N)(ak:N<=1000000)(hk:∀w1 b,w.heap.size<=b->Ext w w1->w1.heap[b]? = some (.cells (oh (List.replicate N 0)).toArray e)->cL (.slice (some ⟨b,0,none⟩) N N) w1) :
  Eo e 1 8 (.I 0) (.I n) (.I n) w cL t:=by
 subst aw;refine _6 ⟨Ad,Ad,Ad,Ad⟩ ?_;have h:=hk (w.alloc (.cells (oh (List.replicate N 0)).toArray e)) _ (EC _) ((Ext.refl w).alloc _) (heap_alloc_new w _);rw[AH1,auP];exact h
theorem GK:∀l:C_ Int,oh l=l.flatMap bX
 | []=>rfl
 | x :: r=>by
  have:=GK r
  simp only[oh,List.map_cons,List.flatMap_cons] at this ⊢;rw[this];rfl
def S6{w:A_}{b n:Nat}{e:F_}{l:C_ Int}(h:w.heap[b]? = some (.cells (oh l).toArray e))(aw:n=l.length)(hm:l.length<=maxLen):bm 1 (Flat bX) w (.slice (some ⟨b,0,none⟩) n n) l :=
 bm.cy (enc:=bX) (λ_=>rfl) (by rw[h,GK]) aw hm λ_ _ _ h=>h
end a8
namespace Go.Proofs.R
open Go Go.RowKit a8
def Ij(w:A_)(a:Addr)(l:C_ Int):Prop := ∃v,w.cell? a=some v/\c9 w v l
abbrev yb(w:A_)(v:B_)(l:C_ (C_ Int)):Prop:=bm 1 Ij w v l
def arQ(cs ys:C_ B_)(v:B_)(m:o.Model)(s:C_ Int)(p:Nat)(w:A_)(h:o.dj w cs m)(aG:m.cv)(aL:o.ey m)(ch:o.jk w ys (o.layout m))(aj:c9 w v s)(ay:o.Fits m s)(ar:p<m.procs.length) :
  Du F.L0 #[.agg cs.toArray,.agg ys.toArray,v,.I p] w λu w'=>aJ bX T.a 1 w.heap.size w' u (o.kE m s p m.procs[p].cm (o.insts m).length)/\Ext w w':=by
 have b4:=h;obtain⟨b0,bz,bO,c1,bT,c2,bV,bu,b1,bB,rfl,ad,h1,I,ab,aC,eu,dz,dJ,dR,ee⟩:=h.form;obtain⟨kT,d0,ie,d1,ji,d2,nd,d3,mu,d4,rfl,dB,cP,cA,eI,fp,fh,cK,cV,fo⟩:=ch.form;obtain⟨ei,eW,rfl,e6⟩:=aj.form;have hlen:=ay.len;have j4:o.di m<=64:=o.iG aL;have kp:(o.insts m).length<=30:=by have:=o.vo m;have:=aL.procs;omega
 have c8:=aL.proc _ (ED ar);have aa6:=c8.cm;obtain⟨f6,f7,f8⟩:=o.pH m;obtain⟨a,rfl⟩:=ab.addr;obtain⟨kr,bY,dV,c3,eQ,er⟩:=ab.at p ar;refine bl E.L0 ?_;refine J ?_;intro w1 bx cN ag al;refine J ?_;intro aA bQ c7 ai ao;replace al:=ai.obj al;have aH:=ag.trans ai;replace c3:=c3.ext aH;unfold o.dt.enc at c3;refine J ?_;refine _x m.procs[p].cm.toNat Ad Ad ?_;intro aM yl alC ah oT;rw[<-o.XP m s p] at oT;replace al:=ah.obj al;replace ao:=ah.obj ao;have aR:=aH.trans ah;have z2:=aH.size;clear c3;refine J ?_;refine J_ (s0 _ m aM (b4.ext aR) aG) ?_;rintro bK rj ⟨dP,u9⟩;obtain⟨b8,ci,rfl,_⟩:=dP.form;replace ao:=u9.obj ao;replace oT:=u9.obj oT;have ka:yl≠bQ:=by
  intro e;subst e;rw[ao] at oT;injection oT with oT;injection oT with _ oT;revert oT;decide
 have amU:∀{W},Mod (λk=>k=yl) rj W->eR [T.a] rj W:=λh=>eR.mod h λk c t an a=>by
  subst a;rw[oT] at an;injection an with an;injection an with _ an;rw[<-an];simp
 have Ri:∀{W:A_},Mod (λk=>k=yl) rj W->ik W (.slice b8 (o.insts m).length ci) (o.insts m):=λk=>aJ.e3 (enc:=o.cO.enc) (λ_=>rfl) (dP.iy (amU k) By);have gT:∀{W},Mod (λk=>k=yl) rj W->W.heap[bQ]? = rj.heap[bQ]? := λh=>h.block _ (cq ao) (Ne.symm ka);have de:∀{W},Mod (λk=>k=yl) rj W->Ext aA W:=λh=>h.ext (ah.trans u9) λi U e=>Ad
 rw[ao] at gT;clear al ao;refine J ?_;refine L_ 11 (o.insts m).length [2,3,5,9,10] (λ_:Unit=>[]) () (λk _ W=>Mod (λi=>i=yl) rj W/\W.heap[yl]? = some (.cells (oh (o.kE m s p m.procs[p].cm k)).toArray T.a)) a6 a6 ⟨Mod.refl _ _,oT⟩ ?_;clear oT;rintro k _ S aU a7 ⟨hm,oT⟩;have ao:=gT hm;have en:=Ri hm;have bn:=aH.trans (de hm);refine J ?_;apply I_<;>intro g1
 .have cb:k<(o.insts m).length:=Ad
  obtain⟨gp,rfl⟩:=en.addr;have qe:=o.q5 _ (ED cb);obtain⟨q,au,A0,qQ⟩:=o.A6 qe;have C9:(o.insts m)[k]?.map (·.proc)=some (q:Int):=by rw[List.getElem?_eq_getElem cb,AG3,A0]
  obtain⟨d,Gu,amq⟩:=ay.loc cb au qQ;obtain⟨jL,Gv⟩:=List.getElem?_eq_some_iff.1 Gu;obtain⟨abF,gk⟩:=o.oe cb;obtain⟨nO,rfl⟩:=aj.addr;obtain⟨a2,rfl⟩:=cA.addr;have kN:=aj.ext Flat.ext bn;have xI:=cA.ext Flat.ext bn;refine J ?_;apply I_<;>intro g2
  .have anE:q=p:=Ad
   subst anE;have hP:d<m.procs[q].cm.toNat:=Ad
   have hR:=o.wk m s q m.procs[q].cm k;have RP:=o.EG (m:=m) (s:=s) (p:=q) (k:=k) hP;have dL:=o.OR m s q d k;refine J ?_;refine K_ (o.cU m k) (by rw[gk]) (by rw[hlen];omega) ?_;refine J ?_;have kM:c9 aU (.slice (some ⟨yl,0,none⟩) m.procs[q].cm.toNat m.procs[q].cm.toNat) (o.kE m s q m.procs[q].cm k):=S6 oT hR.symm (by rw[hR];unfold maxLen;omega);have F0:d<(o.kE m s q m.procs[q].cm k).length:=Ad
   obtain⟨_,RQ⟩:=List.getElem?_eq_some_iff.1 RP;refine K_ d Gv hP ?_;refine J ?_;rw[RQ];refine J ?_;refine K_ d Gv hP ?_;refine J ?_;refine _G oT (by rw[List.size_toArray,ab5];omega) rfl λbh eY bI=>?_;rw[ab6 (AG2 _),<-o.XO C9 Gu hP] at bI;refine J ?_;exact⟨Ad,aK,(),trivial,hm.trans (eY.mod rfl),bI⟩
  .refine J ?_;refine⟨cb,aK,(),trivial,hm,?_⟩;rw[o.XN (by rw[C9];intro e;have:=Option.some.inj e;omega)];exact oT
 .have lP:(o.insts m).length=k:=Ad
  refine J ?_;exact⟨by rw[lP];exact aJ.low aH.size (aJ.ss _ oT alC (GK _) (λ_=>rfl) (o.wk _ _ _ _ _).symm (by rw[o.wk];unfold maxLen;omega)),bn⟩
end Go.Proofs.R
namespace a8
open Go Go.RowKit
section
variable{P:Program}{cL:Value->World->Prop}{e:TypeId}{sz base:Nat}{w:World}{s x:Value}{xs ys:List (fC sz)}
theorem AA4{ty:F_}{b:Nat}{t}(aj:pV e sz base w s xs)(af:bm sz (Flat lL) w x ys)(ak:(xs.length+ys.length)*b<=140737488355328)(lo:xs.length+ys.length<=maxLen)(kI:base<=w.heap.size)
  (hk:∀bU w',pV e sz base w' bU (xs++ys)->w.grownBy w' s.ownBlock->cL bU w'):mw P ty e sz b s x w cL t:=by
 obtain⟨aN,cap,rfl,h1,I,ab,aC⟩:=af.ex;cases aN with
 | some a=>exact _T aj lM (bm.flat lM (λ_ _ h=>h) ⟨some a,cap,rfl,h1,I,ab,aC⟩) rfl Ai ak lo kI λbU w' a1 bJ _=>hk bU w' a1 bJ
 | none =>
  have:ys=[]:=Classical.byContradiction λaw=>by have:=ab aw;cases this
  subst this;rw[SN] at hk;refine _c λ⟨aB,i,z,U,bA,A2,Az,zb,Gy⟩=>?_;refine⟨ty,s,w,?_,hk s w aj ⟨rfl,rfl,rfl,EC _,λ_ _ _=>rfl⟩⟩;rcases aj.2 with ⟨rfl,ad⟩ | ⟨g,cap,cur,rfl,_,_,y1,_⟩
  .simp[Builtin.append_,run_underlying aB,Go.sizeOf,typeInfo,U,Builtin.lenOf,Builtin.firstCells]
  .simp[Builtin.append_,run_underlying aB,Go.sizeOf,typeInfo,U,Builtin.lenOf,Builtin.firstCells,y1,storeCells]
end
end a8
namespace a8
open Go Go.RowKit
structure auY{α:Type}(C:World->List Value->α->Prop)(e:TypeId)(sz base:Nat)(v:Value)(w0 ws:World)(xs:List α)(k:Nat)(x:List (fC sz))(W:World):Prop where
 m:Mod (λi=>v.ownBlock=some i) ws W
 cy:∀i,v.ownBlock=some i->base<=i/\i<ws.heap.size/\∃cur,ws.heap[i]? = some (.cells cur e)
 len:x.length=xs.length
 own:pV e sz base W v x
 new:∀i (h1:i<x.length) (I:i<xs.length),i<k->gW (λj=>j<ws.heap.size) (λw=>C w x[i].1 xs[i]) W
 hF:∀i (h1:i<x.length) (I:i<xs.length),k<=i->C w0 x[i].1 xs[i]
def AD4{α:Type}{P:D_}{cL:B_->A_->Prop}{R:A_->Addr->α->Prop}{C:A_->C_ B_->α->Prop}{e:F_}{sz:Nat}[Rel R C sz]{w0 w pc:A_}{x:B_}{xs:C_ α}{ty:F_}{b zZ:Nat}{t}
  (af:bm sz R w0 x xs)(ej:Ext w0 w)(J1:w.heap.size<=zZ)(AG:Ext w pc)(J8:pc.heap[zZ]? = some (.cells #[] e))(ay:∀{w w':A_} {cs x},C w cs x->C w' cs x)(ak:xs.length*b<=140737488355328)
  (hk:∀aN c w',eL w (λw=>bm sz R w (.slice aN xs.length c) xs) w'->Ext w w'->Mod (λi=>i=zZ) pc w'->cL (.slice aN xs.length c) w'):mw P ty e sz b (.slice (some ⟨zZ,0,none⟩) 0 0) x pc cL t:=by
 obtain⟨cn,aE,mf,bw⟩:=af.cells;have aQ:pV e sz w.heap.size pc (.slice (some ⟨zZ,0,none⟩) 0 0) []:=aJ.empty J1 J8;have hm:cn.length<=maxLen:=by obtain⟨_,_,_,h1,I,_⟩:=mf.ex;omega
 refine AA4 aQ (bm.ext Flat.ext (ej.trans AG) mf) (by rw[AH9,SO,aE];exact ak) (by rw[AH9,SO];exact hm) AG.size λbU w' mS aG=>?_;rw[AF9] at mS;have aw:eL w (λw=>bm sz R w bU xs) w':=eL.clone (R:=R) aE mS ay λi h1 I=>ay (bw i h1 I);obtain⟨aN,c,rfl,_⟩:=aw.here.form;exact hk aN c w' aw (aJ.kG aQ AG aG (EC _)) (Mod.grown (A:=λi=>i=zZ) aG λk q=>by injection q with q;exact q.symm)
end a8
namespace Go.Proofs.R
open Go Go.RowKit a8
def zJ(w:A_)(cs:C_ B_)(l:C_ Int):Prop := ∃v,cs=[v]/\c9 w v l
instance aw2:Rel Ij zJ 1 where
 out h:=by
  obtain⟨v,h1,I⟩:=h;exact⟨[v],λj u az=>by cases j with | zero=>simp at az;subst az;rw[add_zero];exact h1 | succ j=>simp at az,v,rfl,I⟩
 oZ h k:=by
  obtain⟨v,rfl,k⟩:=k
  have:=h 0 v rfl
  rw[add_zero] at this;exact⟨v,this,k⟩
 len h:=by obtain⟨v,rfl,_⟩:=h;rfl
 one h:=by obtain⟨v,rfl,h⟩:=h;simpa using h.one
 ext e h:=let ⟨v,h1,I⟩:=h; ⟨v,h1,I.ext Flat.ext e⟩
def af4(_:A_)(cs:C_ B_)(x:Int):Prop:=cs=bX x
instance aw1:Rel (Flat bX) af4 1 where
 out h:=⟨_,h,rfl⟩
 oZ h k:=by cases k;exact h
 len h:=by cases h;rfl
 one h:=by cases h;exact hA _
 ext _ h:=h
def _root_.a8.Mod.own{A:Nat->Prop}{a b c:A_}{v:B_}(h:Mod A a b)(aG:b.grownBy c v.ownBlock)(aF:∀k,v.ownBlock=some k->a.heap.size<=k):Mod A a c :=
 h.comp (Mod.grown (A:=λk=>v.ownBlock=some k) aG λk hk=>hk) (λ_ _ a=>a) λi U e=>by have:=aF i e;omega
structure N2(w:World)(cs:List Value)(x:o.Env):Prop where
 ex:∃v0 v1 v2 v3,cs=[v0,v1,v2,v3,.int .i64 x.self]/\yb w v0 x.vars/\c9 w v1 x.lens/\c9 w v2 x.locals/\yb w v3 x.at_
end Go.Proofs.R
namespace o
open Go
theorem Ni(m:Model)(s:C_ Int)(inst:Int):(cW m s inst).vars.length=m.vars.length:=by simp[cW]
def T5{m:Model}{s:C_ Int}{inst:Int}{k:Nat}(h:k<m.vars.length):(cW m s inst).vars[k]? = some ((s.drop (fY m k)).take (cells m.vars[k] m.scalars).toNat):=by
 have e:(c4 m)[k]!.length=(cells m.vars[k] m.scalars).toNat:=by
  have br:k<(c4 m).length:=by simpa[c4] using h
  rw[getElem!_pos (c4 m) k br];simp[c4,D6]
 simp only[cW,List.getElem?_map,List.getElem?_range h,Option.map_some,e]
def Nh(m:Model)(s:C_ Int)(inst:Int):(cW m s inst).lens.length=m.ax.length:=by simp[cW]
def ae1{m:Model}{s:C_ Int}{inst:Int}{k:Nat}(h:k<m.ax.length)(aj:b7 m k<s.length):(cW m s inst).lens[k]? = some s[b7 m k]:=by
 simp only[cW,List.getElem?_map,List.getElem?_range h,Option.map_some];rw[getElem!_pos s (b7 m k) aj]
def atu{m:Model}{s:C_ Int}{inst:Int}(h:inst<0):(cW m s inst).locals=[]/\(cW m s inst).self=0:=by
 simp only[cW,Ng,hs (.inl h),and_self]
def Hw{m:Model}(s:C_ Int){q n:Nat}(h:q<(insts m).length)(aw:n=(ml m (insts m)[q]).length - 1):(cW m s q).locals=(s.drop (cU m q+1)).take n/\(cW m s q).self=(insts m)[q].elem:=by
 simp only[cW,Ng,jd (show(0:Int)<=q by omega) (show(q:Int)<(insts m).length by omega),Int.toNat_natCast,aw,and_self]
def T4(m:Model)(s:C_ Int)(inst:Int):(cW m s inst).at_.length=m.procs.length:=by simp[cW]
def ae0{m:Model}{s:C_ Int}{inst:Int}{k:Nat}(h:k<m.procs.length):(cW m s inst).at_[k]? = some (kE m s k m.procs[k].cm (insts m).length):=by
 simp only[cW,List.getElem?_map,List.getElem?_range h,Option.map_some,List.getElem?_eq_getElem h,Option.getD_some]
end o
namespace Go.Proofs.R
open Go Go.RowKit a8
def aep(cs ys:C_ B_)(v:B_)(m:o.Model)(s:C_ Int)(inst:Int)(w:A_)(h:o.dj w cs m)(aG:m.cv)(aL:o.ey m)(ch:o.jk w ys (o.layout m))(aj:c9 w v s)(ay:o.Fits m s)(h1 : -1<=inst)(I:inst<(o.insts m).length) :
  Du F.LZ #[.agg cs.toArray,.agg ys.toArray,v,.I inst] w λu w'=>(∃es,u = .agg es.toArray/\eL w (λw=>N2 w es (o.cW m s inst)) w')/\Ext w w':=by
 have b4:=h;have py:=ch;have anS:=aj;obtain⟨b0,bz,bO,c1,bT,c2,bV,bu,b1,bB,rfl,ad,h1,I,ab,aC,eu,dz,dJ,dR,ee⟩:=h.form;obtain⟨kT,d0,ie,d1,ji,d2,nd,d3,mu,d4,rfl,dB,cP,cA,eI,fp⟩:=ch.form;obtain⟨ei,eW,rfl,e6⟩:=aj.form;have hlen:=ay.len;have j4:o.di m<=64:=o.iG aL;have gf:=aL.gf;have kp:(o.insts m).length<=30:=by have:=o.vo m;have:=aL.procs;omega
 refine bl E.LZ ?_;refine J ?_;intro w1 bx cN ag al;refine J ?_;intro aA bQ c7 ai ao;replace al:=ai.obj al;refine J ?_;intro aM bW eX ah ba;replace al:=ah.obj al;replace ao:=ah.obj ao;have aR:=(ag.trans ai).trans ah;refine J ?_;refine J_ (s0 _ m aM (b4.ext aR) aG) ?_;rintro bK aU ⟨dP,aq⟩;obtain⟨b8,ci,rfl,_⟩:=dP.form;have en:ik aU _ _:=aJ.e3 (enc:=o.cO.enc) (λ_=>rfl) dP;replace al:=aq.obj al;replace ao:=aq.obj ao;replace ba:=aq.obj ba;have bn:=aR.trans aq;refine J ?_;intro bh fz alB av dT;have oY:∀{W},Ext aU W->W.heap[bx]? = _:=λe=>e.obj al;have gT:∀{W},Ext aU W->W.heap[bQ]? = _:=λe=>e.obj ao;have UH:=cq dT;have Fw:∀{W},Mod (λi=>i=fz) bh W->Ext aU W:=λh=>h.ext av λi U e=>Ad
 refine L_ 11 m.vars.length [2,3,4,5,8,9,10] (λ_:fy=>[]) (none,0,0) (λk v W=>(Mod (λi=>i=fz) bh W/\W.heap[fz]? = some (.cells #[.slice v.1 v.2.1 v.2.2,.slice none 0 0,.slice none 0 0,.slice none 0 0,.I 0] T.v))/\eV zJ T.b 1 bh.heap.size W (.slice v.1 v.2.1 v.2.2) (((o.cW m s inst).vars).take k)) a6 a6 ⟨⟨Mod.refl _ _,dT⟩,by simpa using eV.nil _ _ _ _ _⟩ ?_;clear dT;rintro k v S bq hk ⟨⟨iX,dT⟩,dn⟩;have al:=oY (Fw iX);have ao:=gT (Fw iX);have gV:=bn.trans (Fw iX);refine J ?_;apply I_<;>intro g1
 .have cb:k<m.vars.length:=Ad
  obtain⟨a,rfl⟩:=h1.addr;have dL:=o.su m.vars[k] m.scalars;have n3:=o.sb cb;have eC:=o.nq m;obtain⟨dP,gk⟩:=o.ri cb;have dH:=((h1.at k cb).cells).ext gV;refine J ?_;refine P_ _ (λw' e=>M1 m.vars[k] _ m.scalars w' (ad.ext (gV.trans e))) ?_;refine J ?_;intro bH bc;replace al:=bc.obj al;replace ao:=bc.obj ao;replace dT:=bc.obj dT;have dU:=dn.ext bc;have fZ:=gV.trans bc;have hb:Mod (λi=>i=fz) bh bH:=iX.trans bc.mod;have kq:=aj.ext Flat.ext fZ;have MW:=dB.ext Flat.ext fZ;obtain⟨a0,rfl⟩:=dB.addr;clear dH;refine J ?_;intro cB bt;replace al:=bt.obj al;replace ao:=bt.obj ao;replace dT:=bt.obj dT;have gw:=dU.ext bt;have hG:=fZ.trans bt;have iY:Mod (λi=>i=fz) bh cB:=hb.trans bt.mod;have Dp:=kq.ext Flat.ext bt;have axE:=MW.ext Flat.ext bt;clear kq MW dn dU;refine J ?_;refine _W (k:=.i64) (k':=.i64) (o.fY m k) (o.fY m k+(o.cells m.vars[k] m.scalars).toNat) Dp (by simp[dc,bD,gk]) (by simp[dc,bD,gk];omega) Ad Ad λae c ar=>?_;refine J ?_;intro cG b9 lN b2 cE;refine⟨b2,?_⟩;rw[show o.fY m k+(o.cells m.vars[k] m.scalars).toNat - o.fY m k=(o.cells m.vars[k] m.scalars).toNat from Ad] at ar ⊢;have xh:=o.T5 (s:=s) (inst:=inst) cb;refine AD4 ar (Ext.refl _) lN b2 cE (λh=>h) (by simp;omega) λaN fs ew rX cj _=>?_;refine⟨cj,?_⟩;refine J ?_;intro fB l8 wU ek iU;refine⟨cj.trans ek,?_⟩;have z58:=iY.size;have aye:=cj.size;have NQ:=ek.size;have oX:=gw.ext (cj.trans ek);have cu:(((o.cW m s inst).vars).take k).length<=12:=by rw[Hs,o.Ni];omega
  refine _U (x:=(s.drop (o.fY m k)).take (o.cells m.vars[k] m.scalars).toNat) (cs:=[.slice aN ((s.drop (o.fY m k)).take (o.cells m.vars[k] m.scalars).toNat).length fs]) oX (im iU)
   (((eL.own rX gw Ad).imp λw h=>⟨_,rfl,h⟩).ext ek λi U hk=>by have:=gw.under Ad i hk;omega) rfl (by simp[Value.oneCell']) Ad (by unfold maxLen;omega) Ad λbU hx aS vd=>?_
  have aai:=oX.box vd ((cj.trans ek).obj dT) By;have rW:=((iY.trans cj.mod).trans ek.mod).own vd λq au=>(oX.lt q au).1;obtain⟨iI,qI,rfl,_⟩:=aS.form;clear dT rX oX gw iU cE ar;refine J ?_;intro kx ks gr;refine J ?_;refine⟨cb,aK,(iI,_,qI),trivial,⟨rW.trans (ks.mod rfl),gr⟩,?_⟩;rw[AJ3,xh];exact aS.wr ks UH
 have mg:m.vars.length=k:=Ad
 rw[MC (by rw[o.Ni];omega)] at dn;have nu:=dn.new (R:=Ij);obtain⟨va,om,fs⟩:=v;have uz:=cq dT;have UE:=iX.size;have auT:=Fw iX;have tC:∀{W},Mod (λi=>i=fz) bq W->Ext aU W:=λh=>Fw (iX.trans h);clear al ao dn;refine J ?_;refine L_ 13 m.ax.length [2,3,4,5,8,9,10] (λ_:fy=>[]) (none,0,0) (λk v W=>(Mod (λi=>i=fz) bq W/\W.heap[fz]? = some (.cells #[.slice va om fs,.slice v.1 v.2.1 v.2.2,.slice none 0 0,.slice none 0 0,.I 0] T.v))/\aJ bX T.a 1 bq.heap.size W (.slice v.1 v.2.1 v.2.2) (((o.cW m s inst).lens).take k)) a6 a6 ⟨⟨Mod.refl _ _,dT⟩,by simpa using aJ.nil _ _ _ _ _⟩ ?_;clear dT;rintro k v S bH hk ⟨⟨hb,dT⟩,dU⟩;have al:=oY (tC hb);have ao:=gT (tC hb);have fZ:=bn.trans (tC hb);refine J ?_;apply I_<;>intro g1
 .have cb:k<m.ax.length:=Ad
  have n3:=o.wv cb;have eC:=o.nq m;obtain⟨dP,eB⟩:=o.p1 cb;obtain⟨db,rfl⟩:=cP.addr;obtain⟨agO,rfl⟩:=aj.addr;have kq:=aj.ext Flat.ext fZ;have zq:=cP.ext Flat.ext fZ;refine J ?_;intro cB bt;replace ao:=bt.obj ao;replace dT:=bt.obj dT;have gw:=dU.ext bt;have iY:Mod (λi=>i=fz) bq cB:=hb.trans bt.mod;have Dp:=kq.ext Flat.ext bt;have axI:=zq.ext Flat.ext bt;clear kq zq dU al;refine J ?_;refine K_ (o.b7 m k) (by rw[eB]) Ad ?_;refine J ?_;intro cG b9 lN b2 cE;refine⟨b2,?_⟩;have gu:o.b7 m k<s.length:=Ad
  have xh:=o.ae1 (inst:=inst) cb gu;have amW:(((o.cW m s inst).lens).take k).length<=12:=by rw[Hs,o.Nh];omega
  have fu:=gw.ext b2;have UF:=iY.size;have NR:=b2.size;refine S_ (y:=s[o.b7 m k]) fu cE rfl (λ_=>rfl) hA Ad (by unfold maxLen;omega) Ad λaN n c ew oc mO=>?_;have al4:=fu.box mO (b2.obj dT) By;have pB:=(iY.trans b2.mod).own mO λq au=>(fu.lt q au).1;clear dT fu gw cE;refine J ?_;intro fB hT iU;refine J ?_;refine⟨cb,aK,(aN,n,c),trivial,⟨pB.trans (hT.mod rfl),iU⟩,?_⟩;rw[AJ3,xh];exact oc.mod (hT.mod (A:=λi=>i=fz) rfl) λq au e=>by have:=(oc.lt q au).1;omega
 have rU:m.ax.length=k:=Ad
 rw[MC (by rw[o.Nh];omega)] at dU;have Z2:gW (λi=>i<bh.heap.size) (λw=>yb w (.slice va om fs) (o.cW m s inst).vars) bH:=nu.move hb (λi _ e=>Ad) λi _ e=>e;have FA:eL bq (λw=>c9 w (.slice v.1 v.2.1 v.2.2) (o.cW m s inst).lens) bH:=aJ.new (λ_=>rfl) dU;clear nu;obtain⟨iJ,mn,uP⟩:=v;have HO:=cq dT;have z67:=hb.size;have sB:∀{W},Mod (λi=>i=fz) bH W->Ext aU W:=λh=>tC (hb.trans h);clear al ao dU;refine J ?_;refine L_ 14 m.procs.length [2,3,4,5,8,9,10] (λ_:fy=>[]) (none,0,0) (λk v W=>(Mod (λi=>i=fz) bH W/\W.heap[fz]? = some (.cells #[.slice va om fs,.slice iJ mn uP,.slice none 0 0,.slice v.1 v.2.1 v.2.2,.I 0] T.v))/\eV zJ T.b 1 bH.heap.size W (.slice v.1 v.2.1 v.2.2) (((o.cW m s inst).at_).take k)) a6 a6 ⟨⟨Mod.refl _ _,dT⟩,by simpa using eV.nil _ _ _ _ _⟩ ?_;clear dT;rintro k v S cB hk ⟨⟨iY,dT⟩,gw⟩;have al:=oY (sB iY);have ao:=gT (sB iY);have hG:=bn.trans (sB iY);refine J ?_;apply I_<;>intro g1
 .have cb:k<m.procs.length:=Ad
  refine J ?_;intro cG b2;replace al:=b2.obj al;replace ao:=b2.obj ao;replace dT:=b2.obj dT;have fu:=gw.ext b2;have fw:=hG.trans b2;have mh:Mod (λi=>i=fz) bH cG:=iY.trans b2.mod;clear gw;refine J ?_;refine J_ (arQ _ _ _ m s k cG (b4.ext fw) aG aL (py.ext fw) (anS.ext Flat.ext fw) ay cb) ?_;rintro _ ew ⟨rX,cj⟩;obtain⟨aN,fs,rfl,_⟩:=rX.form;replace rX:eL cG (λw=>c9 w (.slice aN (o.kE m s k m.procs[k].cm (o.insts m).length).length fs) (o.kE m s k m.procs[k].cm (o.insts m).length)) ew:=aJ.new (enc:=bX) (sz:=1) (λ_=>rfl) rX;refine⟨cj,?_⟩;have xh:=o.ae0 (s:=s) (inst:=inst) cb;refine J ?_;intro fB l8 wU ek iU;refine⟨cj.trans ek,?_⟩;have z79:=mh.size;have UG:=cj.size;have NQ:=ek.size;have oX:=fu.ext (cj.trans ek);have cu:(((o.cW m s inst).at_).take k).length<=12:=by rw[Hs,o.T4];have:=aL.procs;omega
  refine _U (x:=o.kE m s k m.procs[k].cm (o.insts m).length) (cs:=[.slice aN (o.kE m s k m.procs[k].cm (o.insts m).length).length fs]) oX (im iU)
   (((eL.own rX fu Ad).imp λw h=>⟨_,rfl,h⟩).ext ek λi U hk=>by have:=fu.under Ad i hk;omega) rfl (by simp[Value.oneCell']) Ad (by unfold maxLen;omega) Ad λbU hx aS vd=>?_
  have aai:=oX.box vd ((cj.trans ek).obj dT) By;have rW:=((mh.trans cj.mod).trans ek.mod).own vd λq au=>(oX.lt q au).1;obtain⟨iI,qI,rfl,_⟩:=aS.form;clear dT rX oX fu iU;refine J ?_;intro kx ks gr;refine J ?_;refine⟨cb,aK,(iI,_,qI),trivial,⟨rW.trans (ks.mod rfl),gr⟩,?_⟩;rw[AJ3,xh];exact aS.wr ks HO
 have vf:m.procs.length=k:=Ad
 rw[MC (by rw[o.T4];omega)] at gw;have Qs:gW (λi=>i<bh.heap.size) (λw=>yb w (.slice va om fs) (o.cW m s inst).vars) cB:=Z2.move iY (λi _ e=>Ad) λi _ e=>e;have ZV:eL bq (λw=>c9 w (.slice iJ mn uP) (o.cW m s inst).lens) cB:=FA.move iY (λi _ e=>Ad) λi _ e=>e;have wP:=gw.new (R:=Ij);clear Z2 FA;obtain⟨NC,S2,EX⟩:=v;have HP:=cq dT;have z78:=iY.size;have wQ:∀{W},Mod (λi=>i=fz) cB W->Ext aU W:=λh=>sB (iY.trans h);clear gw;have hG:=bn.trans (wQ (Mod.refl _ _));have z3:=cq ba;have z45:=av.size;have ax5:=(ag.trans ai).size;replace ba:=(wQ (Mod.refl _ _)).obj ba;refine J ?_;apply I_<;>intro g2;rotate_left
 .refine J ?_;intro cG gy cE;refine J ?_;obtain⟨ej,bF⟩:=o.atu (m:=m) (s:=s) (inst:=inst) Ad;refine⟨⟨_,rfl,λW fg=>⟨_,_,_,_,by rw[bF],?_,?_,?_,?_⟩⟩,gy.ext hG Ad⟩
  .exact(Qs.move (A':=λi=>i<w.heap.size) (gy.mod (A:=λi=>i=bW) rfl) (λi _ e=>Ad) λi _ e=>Ad) W fg
  .exact(ZV.move (A':=λi=>i<w.heap.size) (gy.mod (A:=λi=>i=bW) rfl) (λi _ e=>Ad) λi _ e=>Ad) W fg
  .rw[ej];exact bm.nil
  .exact(wP.move (A':=λi=>i<w.heap.size) (gy.mod (A:=λi=>i=bW) rfl) (λi _ e=>Ad) λi _ e=>Ad) W fg
 .obtain⟨q,rfl⟩:=Nb (show 0<=inst by omega);have au:q<(o.insts m).length:=Ad
  have n3:=o.Su au;obtain⟨dP,gk⟩:=o.oe au;obtain⟨a2,rfl⟩:=cA.addr;have arE:=cA.ext Flat.ext hG;have al:=oY (wQ (Mod.refl _ _));have ao:=gT (wQ (Mod.refl _ _));obtain⟨gp,rfl⟩:=en.addr;have Dd:=en.ext Flat.ext (wQ (Mod.refl _ _));have qe:=o.q5 _ (ED au);obtain⟨p,ar,hd,qQ⟩:=o.A6 qe;have J5:(o.ml m (o.insts m)[q]).length=1+m.procs[p].vars.length:=by rw[qQ,o.Bn]
  obtain⟨a,rfl⟩:=ab.addr;obtain⟨kr,bY,dV,c3,eQ,er⟩:=ab.at p ar;obtain⟨DH,Cr,rfl,acU⟩:=eQ.form;obtain⟨adl,Ya,rfl,acG⟩:=er.form;replace c3:=c3.ext hG;unfold o.dt.enc at c3;refine J ?_;refine K_ p hd ar ?_;refine J ?_;intro NG rR cG amt;have b2:=rR.trans amt;replace al:=b2.obj al;replace ao:=b2.obj ao;replace dT:=b2.obj dT;replace ba:=b2.obj ba;have fw:=hG.trans b2;have anR:=aj.ext Flat.ext fw;have NR:=b2.size;clear c3 Dd arE;refine J ?_;refine _W (k:=.i64) (k':=.i64) (o.cU m q+1) (o.cU m q+1+m.procs[p].vars.length) anR (by simp[dc,bD,gk]) (by simp[dc,bD,gk]) Ad Ad λae c Gp=>?_;rw[show o.cU m q+1+m.procs[p].vars.length - (o.cU m q+1)=m.procs[p].vars.length from Ad] at Gp ⊢;obtain⟨cn,aE,mf,bw⟩:=Gp.cells;have dL:cn.length<=64:=by rw[aE,Hs,AF4];omega
  refine J ?_;refine AA4 (sz:=1) (base:=cG.heap.size) (aJ.nil _ _ _ _ _) mf (by rw[AH9];omega) (by rw[AH9];unfold maxLen;omega) (EC _) λbU ew oc mO=>?_;rw[AF9] at oc;have rX:eL cG (λw=>c9 w bU ((s.drop (o.cU m q+1)).take m.procs[p].vars.length)) ew:=eL.clone (R:=Flat bX) aE oc (λh=>h) λi h1 I=>bw i h1 I;have cj:Ext cG ew:=(Ext.refl _).grown mO λk hk=>by simp[Value.ownBlock] at hk
  replace ao:=cj.obj ao;replace dT:=cj.obj dT;replace ba:=cj.obj ba;have UG:=cj.size;obtain⟨ol,cl,rfl,_⟩:=rX.here.form;clear al;refine J ?_;intro fB hT iU;have Dh:Mod (λi=>i=fz) cB fB:=(b2.mod.trans cj.mod).trans (hT.mod rfl);have awe:=en.ext Flat.ext (wQ Dh);replace ba:=hT.obj ba Ad;refine J ?_;intro hx lS h5;have rW:Mod (λi=>i=fz) cB hx:=Dh.trans (lS.mod rfl);replace ba:=lS.obj ba Ad;refine J ?_;intro kx ks gr;refine J ?_;obtain⟨ej,bF⟩:=o.Hw s au (n:=m.procs[p].vars.length) Ad;have NQ:=hT.size;have afK:=lS.size;refine⟨⟨_,rfl,λW fg=>⟨_,_,_,_,by rw[bF];rfl,?_,?_,?_,?_⟩⟩,ks.ext (bn.trans (wQ rW)) Ad⟩
  .exact(Qs.move (A':=λi=>i<w.heap.size) (rW.comp (B:=λi=>i=fz\/i=bW) (ks.mod (A:=λi=>i=bW) rfl) (λi _ e=>.inl e) λi _ e=>.inr e) (λi _ e=>Ad) λi _ e=>Ad) W fg
  .exact(ZV.move (A':=λi=>i<w.heap.size) (rW.comp (B:=λi=>i=fz\/i=bW) (ks.mod (A:=λi=>i=bW) rfl) (λi _ e=>.inl e) λi _ e=>.inr e) (λi _ e=>Ad) λi _ e=>Ad) W fg
  .rw[ej];exact((((rX.wr hT Ad).wr lS Ad).wr ks Ad).mono λi _ e=>Ad) W fg
  .exact(wP.move (A':=λi=>i<w.heap.size) (rW.comp (B:=λi=>i=fz\/i=bW) (ks.mod (A:=λi=>i=bW) rfl) (λi _ e=>.inl e) λi _ e=>.inr e) (λi _ e=>Ad) λi _ e=>Ad) W fg
end Go.Proofs.R
namespace o
open Go
def aeR{s t:C_ Int}{a n:Nat}(h:∀k,k<n->s[a+k]? = t[a+k]?):(s.drop a).take n=(t.drop a).take n:=by
 apply List.ext_getElem?;intro i;rw[List.getElem?_take,List.getElem?_take];split
 .rw[List.getElem?_drop,List.getElem?_drop];exact h i ‹_›
 .rfl
def xF(m:Model)(e:C_ Node):C_ Int:=e.flatMap (ef m 0 false)
def jw(l:C_ Int):Bool:=match l with
 | []=>false
 | n :: r=>decide (0<=n/\n<=r.length)&&(r.drop n.toNat).all (λx=>decide (x=0))
def jx(l:C_ Int):C_ Int:=if jw l then (l.drop 1).take (l.headD 0).toNat else []
def r3(k:Nat)(l:C_ Int):C_ Int:=(l.length:Int) :: (List.range (k - 1)).map λi=>l.getD i 0
def nC(l:C_ Int)(v:Int):H_ (C_ Int):=if jw l=true/\l.headD 0≠(l.length:Int) - 1 then some (r3 l.length (jx l++[v])) else none
def qv(l:C_ Int):H_ (C_ Int×Int):=match jx l with
 | []=>none
 | x :: r=>some (r3 l.length r,x)
def Tf{k:Nat}(h:1<=k)(l:C_ Int):(r3 k l).length=k:=by simp[r3];omega
theorem ab9{l:C_ Int}(h:jw l=true):1<=l.length:=by
 cases l with
 | nil=>cases h
 | cons n r=>simp
def MU{l r:C_ Int}{v:Int}(h:nC l v=some r):r.length=l.length:=by
 unfold nC at h;split at h
 .rename_i h1;injection h with h
  rw[<-h,Tf (ab9 h1.1)]
 .cases h
def Nr{l r:C_ Int}{v:Int}(h:qv l=some (r,v)):r.length=l.length:=by
 unfold qv at h;split at h
 .cases h
 .rename_i x q au;injection h with h
  injection h with h1 I
  have:jw l=true:=Classical.byContradiction λaw=>by
   unfold jx at au;rw[if_neg aw] at au;cases au
  rw[<-h1,Tf (ab9 this)]
def chanOf(m:Model)(s:C_ Int)(c:Nat):C_ Int:=(s.drop (b7 m c)).take (1+gF m c)
def jb(s:C_ Int)(a:Nat)(l:C_ Int):C_ Int:=s.take a++l++s.drop (a+l.length)
def EN(m:Model)(c:Nat):Int×Int:=match (cp m)[c]? with
 | some x=>(x.aV,x.U)
 | none=>(0,-1)
def putAt(m:Model)(s:C_ Int)(c:Nat)(n:Int):H_ (C_ Int):=if n<(EN m c).1\/(EN m c).2<n then none else some (s.set c n)
def wx(m:Model)(c:Nat):dY:=match m.ax[c]? with
 | some x=>e1 x.scalar x.aV x.U m.scalars
 | none=>e1 0 0 0 m.scalars
def vJ(m:Model)(s:C_ Int)(c:Nat)(n:Int):H_ (C_ Int) :=
 if n<(wx m c).aV\/(wx m c).U<n then none else (nC (chanOf m s c) n).map (jb s (b7 m c))
def zr(m:Model)(s:C_ Int)(q:Nat)(a:Act):H_ (C_ Int):=match qv (chanOf m s a.to.toNat) with
 | none=>none
 | some (rest,n)=>putAt m (jb s (b7 m a.to.toNat) rest) (cU m q+1+a.loc.toNat) n
def xm(m:Model)(s:C_ Int)(a:Act)(k:Int×Int)(n:Int):H_ (C_ Int) :=
 if k.2≠0\/k.1<1\/(lu m a.to.toNat:Int)<k.1 then none else putAt m s (fY m a.to.toNat+k.1.toNat - 1) n
def h0(m:Model)(s:C_ Int)(q:Nat)(a:Act):H_ (C_ Int) :=
 if a.kind=5 then zr m s q a
 else if (eval a.value (cW m s q)).2≠0 then none
 else if a.kind=1 then putAt m s (fY m a.to.toNat) (eval a.value (cW m s q)).1
 else if a.kind=2 then xm m s a (eval a.index (cW m s q)) (eval a.value (cW m s q)).1
 else if a.kind=3 then putAt m s (cU m q+1+a.to.toNat) (eval a.value (cW m s q)).1
 else vJ m s a.to.toNat (eval a.value (cW m s q)).1
def lf(m:Model)(q:Nat):C_ Act->C_ Int->H_ (C_ Int)
 | [],s=>some s
 | a :: r,s=>match h0 m s q a with
  | none=>none
  | some t=>lf m q r t
def hJ(m:Model)(s:C_ Int)(q:Nat)(c:dI):H_ (C_ Int) :=
 if s[cU m q]? ≠ some c.from_ then none
 else if 0<c.guard.length/\((eval c.guard (cW m s q)).2≠0\/(eval c.guard (cW m s q)).1=0) then none
 else (lf m q c.bP s).map λt=>t.set (cU m q) c.to
theorem XA(m:Model)(q:Nat)(a:Act):∀(l:C_ Act) (s:C_ Int),lf m q (l++[a]) s=match lf m q l s with | none=>none | some t=>h0 m t q a
 | [],s=>by
  simp only[List.nil_append,lf];cases h0 m s q a<;>rfl
 | x :: l,s=>by
  simp only[List.cons_append,lf];cases h0 m s q x with
  | none=>rfl
  | some t=>exact XA m q a l t
def GJ{s:C_ Int}{a:Nat}{l:C_ Int}(h:a+l.length<=s.length):(jb s a l).length=s.length:=by
 simp[jb];omega
def A8{s:C_ Int}{a:Nat}{l:C_ Int}(h:a+l.length<=s.length)(x:Nat):(jb s a l)[x]? = if a<=x/\x<a+l.length then l[x - a]? else s[x]? := by
 unfold jb;have aB:(s.take a).length=a:=by simp;omega
 by_cases h1:x<a
 .rw[if_neg Ad,List.getElem?_append_left (by rw[MD];omega),List.getElem?_append_left Ad,List.getElem?_take,if_pos h1]
 .by_cases I:x<a+l.length
  .rw[if_pos ⟨Ad,I⟩,List.getElem?_append_left (by rw[MD];omega),List.getElem?_append_right Ad,aB]
  .rw[if_neg Ad,List.getElem?_append_right (by rw[MD];omega),List.getElem?_drop,MD,aB];congr 1;omega
def wz{m:Model}{s:C_ Int}{c:Nat}(h:b7 m c+(1+gF m c)<=s.length):(chanOf m s c).length=1+gF m c:=by
 simp[chanOf];omega
def Hd{m:Model}{s t:C_ Int}{c:Nat}{n:Int}(h:putAt m s c n=some t):t=s.set c n:=by
 unfold putAt at h;split at h
 .cases h
 .injection h with h
  exact h.symm
def e7(s t:C_ Int)(l:C_ Int):Prop:=t.length=s.length/\∀c:Nat,t[c]? ≠ s[c]? -> (c:Int)∈l
def e7.refl(s l:C_ Int):e7 s s l:=⟨rfl,λ_ h=>absurd rfl h⟩
def e7.trans{s t u l:C_ Int}(h:e7 s t l)(k:e7 t u l):e7 s u l:=⟨k.1.trans h.1,λc an=>by
 by_cases e:u[c]? = t[c]?
 .exact h.2 c (by rw[<-e];exact an)
 .exact k.2 c e⟩
def e7.mono{s t l r:C_ Int}(h:e7 s t l)(aj:∀x∈l,x∈r):e7 s t r:=⟨h.1,λc an=>aj _ (h.2 c an)⟩
def e7.set(s:C_ Int)(a:Nat)(n:Int):e7 s (s.set a n) (gB a 1):=⟨XK ..,λc an=>by
 rw[lY,AF2];apply Classical.byContradiction;intro aw;exact an (List.getElem?_set_ne Ad)⟩
def e7.ab3{s l:C_ Int}{a:Nat}(h:a+l.length<=s.length):e7 s (jb s a l) (gB a l.length):=⟨GJ h,λc an=>by
 rw[A8 h] at an;apply Classical.byContradiction;intro aw;rw[qq] at aw;exact an (if_neg Ad)⟩
def as4{m:Model}{s t:C_ Int}{c:Nat}{n:Int}(an:b7 m c+(1+gF m c)<=s.length)(h:vJ m s c n=some t):e7 s t (lJ m c):=by
 unfold vJ at h;split at h
 .cases h
 .cases ar:nC (chanOf m s c) n with
  | none=>rw[ar] at h;cases h
  | some r =>
   rw[ar] at h;have aE:=MU ar;rw[wz an] at aE;have e:jb s (b7 m c) r=t:=by injection h
   rw[<-e];unfold lJ;rw[<-aE];exact e7.ab3 Ad
theorem ar5{m:Model}{s t:C_ Int}{q:Nat}{a:Act}(an:b7 m a.to.toNat+(1+gF m a.to.toNat)<=s.length)(h:zr m s q a=some t):e7 s t (lJ m a.to.toNat++gB (cU m q+1+a.loc.toNat) 1):=by
 unfold zr at h;cases ar:qv (chanOf m s a.to.toNat) with
 | none=>rw[ar] at h;cases h
 | some TJ =>
  obtain⟨r,n⟩:=TJ;rw[ar] at h;have aE:=Nr ar;rw[wz an] at aE;have e:=Hd h;rw[e];refine e7.trans (t:=jb s (b7 m a.to.toNat) r) ?_ ((e7.set _ _ _).mono λx af=>AI3 _ af)
  have:=e7.ab3 (s:=s) (a:=b7 m a.to.toNat) (l:=r) Ad
  rw[aE] at this;exact this.mono λx af=>AH2 _ af
def as3{m:Model}{s:C_ Int}{q:Nat}{a:Act}(h:pL a=true):eval a.index (cW m s q)=((cW m s q).self,0):=by
 unfold pL at h;split at h
 .rename_i x af;rw[af];have a1:x.op=5:=by simpa using h
  have aw:fO x.op=0:=by rw[a1];decide
  have ay:kH (cW m s q) x []=((cW m s q).self,0):=by
   unfold kH;rw[a1];simp[hf,gU,a1]
  unfold eval mY gm;simp only[List.length_singleton,stepG,aw,ay];simp[gm]
 .cases h
def agt{m:Model}{s t:C_ Int}{q:Nat}{a:Act}(au:q<(insts m).length)(an:(a.kind=4\/a.kind=5)->b7 m a.to.toNat+(1+gF m a.to.toNat)<=s.length)(hk:1<=a.kind/\a.kind<=5)(h:h0 m s q a=some t):e7 s t (jY m q a):=by
 unfold h0 at h;unfold jY;by_cases a1:a.kind=5
 .rw[if_pos a1] at h;rw[if_neg Ad,if_neg Ad,if_neg Ad,if_neg Ad,if_pos a1];exact ar5 (an (.inr a1)) h
 rw[if_neg a1] at h;by_cases he:(eval a.value (cW m s q)).2≠0
 .rw[if_pos he] at h;cases h
 rw[if_neg he] at h;by_cases h1:a.kind=1
 .rw[if_pos h1] at h ⊢;rw[Hd h];exact e7.set _ _ _
 rw[if_neg h1] at h ⊢;by_cases I:a.kind=2
 .rw[if_pos I] at h ⊢;unfold xm at h;split at h
  .cases h
  .rename_i aw;rw[Hd h];refine(e7.set _ _ _).mono λx af=>?_;rw[lY,AF2] at af;subst af;unfold mm;by_cases aj:pL a=true
   .rw[if_pos aj,lY,AF2,E6 au];have tS:(cW m s q).self=(insts m)[q].elem:=(Hw s au rfl).2
    have:=as3 (m:=m) (s:=s) (q:=q) (a:=a) aj
    rw[this];simp only[tS]
   .rw[if_neg aj,qq];omega
 rw[if_neg I] at h ⊢;by_cases ab:a.kind=3
 .rw[if_pos ab] at h ⊢;rw[Hd h];exact e7.set _ _ _
 rw[if_neg ab] at h ⊢;rw[if_pos Ad];exact as4 (an Ad) h
def oK{m:Model}{c:Nat}(h:c<m.ax.length):b7 m c+(1+gF m c)<=di m:=by
 have:=wv h
 rw[oL h]
 have:=nq m
 omega
theorem XF{m:Model}{k6:Scope}{q:Nat}(au:q<(insts m).length)(wX:k6.ax=m.ax):∀(l:C_ Act) (s t:C_ Int),(∀a∈l,nG k6 a)->s.length=di m->lf m q l s=some t->e7 s t (l.flatMap (jY m q))
 | [],s,t,_,_,h=>by
  injection h with h
  rw[<-h];exact e7.refl _ _
 | a :: l,s,t,aY,aj,h=>by
  simp only[lf] at h;cases h1:h0 m s q a with
  | none=>rw[h1] at h;cases h
  | some u =>
   rw[h1] at h;have I:=agt au (λhk=>by rw[aj];exact oK (by have:=((aY a (AG5 ..)).chan hk).2;rwa[wX] at this)) (aY a (AG5 ..)).kind h1;have ab:=XF au wX l u t (λb ak=>aY b (AH5 _ ak)) (I.1.trans aj) h;rw[AH8];exact(I.mono λx af=>AH2 _ af).trans (ab.mono λx af=>AI3 _ af)
def It{k6:Scope}{c:dI}(h:vS k6 c):∀a∈c.bP,nG k6 a:=λa aY=>by
 obtain⟨k,hk,rfl⟩:=List.mem_iff_getElem.1 aY;exact h.act k hk
theorem aii{m:Model}{k6:Scope}{q:Nat}{c:dI}{s t:C_ Int}(au:q<(insts m).length)(wX:k6.ax=m.ax)(an:vS k6 c)(aj:s.length=di m)(h:hJ m s q c=some t):e7 s t (kg m q c c.bP.length):=by
 unfold hJ at h;split at h
 .cases h
 split at h
 .cases h
 cases h1:lf m q c.bP s with
 | none=>rw[h1] at h;cases h
 | some u =>
  rw[h1] at h;have e:u.set (cU m q) c.to=t:=by injection h
  rw[<-e];unfold kg;rw[AE8];exact((XF au wX _ s u (It an) aj h1).mono λx af=>AI3 _ af).trans ((e7.set _ _ _).mono λx af=>AH2 _ af)
theorem acC{s w:Int}:∀{l:C_ dY} {k:Nat} {x:Cell},x∈fN s w l k->∃b∈l,x.aV=b.aV/\x.U=b.U
 | [],_,_,h=>by cases h
 | b :: l,k,x,h=>by
  rcases List.mem_cons.1 h with rfl | h
  .exact⟨b,CC,rfl,rfl⟩
  .obtain⟨fS,h1,I⟩:=acC h;exact⟨fS,by simp[h1],I⟩
theorem IG{s:Int}:∀{ls:C_ (C_ dY)} {i:Nat} {x:Cell},x∈cellsOf s ls i->∃l∈ls,∃b∈l,x.aV=b.aV/\x.U=b.U
 | [],_,_,h=>by cases h
 | l :: r,i,x,h=>by
  rcases List.mem_append.1 h with h | h
  .obtain⟨b,h1,I⟩:=acC h;exact⟨l,CC,b,h1,I⟩
  .obtain⟨sR,h1,I⟩:=IG h;exact⟨sR,by simp[h1],I⟩
def vR(aV U:Int):Prop := -1048576<=aV/\aV<=U/\U<=1048576
def OU{k6 aV U:Int}{s:C_ Scalar}(h:k6=0->vR aV U):vR (e1 k6 aV U s).aV (e1 k6 aV U s).U:=by
 unfold e1;by_cases ad:k6=0
 .rw[if_pos ad];exact h ad
 .rw[if_neg ad]
  have:=size_le k6 s
  unfold vR;simp only;omega
def ac4{aV U:Int}(h:narrow aV U=true):vR aV U:=by have:=ac3 h;unfold vR;omega
def ahD{m:Model}(h:ey m):∀x∈cp m,vR x.aV x.U:=λx af=>by
 unfold cp at af;rcases List.mem_append.1 af with af | af
 .rcases List.mem_append.1 af with af | af
  .obtain⟨l,aE,b,ak,bF,aH⟩:=IG af;obtain⟨v,aF,rfl⟩:=List.mem_map.1 aE;rw[(List.mem_replicate.1 ak).2] at bF aH;rw[bF,aH];exact OU λad=>ac4 ((h.var v aF).MF ad)
  .obtain⟨l,aE,b,ak,bF,aH⟩:=IG af;obtain⟨c,an,rfl⟩:=List.mem_map.1 aE;rw[bF,aH];have c8:=h.chan c an;have hL:=c8.cap;rcases List.mem_cons.1 ak with rfl | ak
   .unfold vR;simp only;omega
   .rw[(List.mem_replicate.1 ak).2];exact OU λad=>by
     have:=ac3 (c8.MF ad)
     unfold vR;omega
 .obtain⟨l,aE,b,ak,bF,aH⟩:=IG af;obtain⟨BJ,vm,rfl⟩:=List.mem_map.1 aE;rw[bF,aH];unfold ml at ak;split at ak
  .rename_i p ar;have hm:p∈m.procs:=by
    unfold nth at ar;split at ar
    .exact List.mem_of_getElem? ar
    .cases ar
   have c8:=h.proc p hm;rcases List.mem_cons.1 ak with rfl | ak
   .have:=c8.cm;unfold vR;simp only;omega
   .obtain⟨v,aF,rfl⟩:=List.mem_map.1 ak;exact OU λad=>ac4 ((c8.var v aF).MF ad)
  .cases ak
end o
namespace a8
open Go Go.RowKit
def uW(d:Nat):C_ B_:=[.int .u8 d]
def aiY(d:Nat):∀u∈uW d,u.oneCell'=true:=by simp[uW,Value.oneCell']
def O0(l:C_ Nat):C_ B_:=l.map λ(d:Nat)=>Value.int .u8 (d:Int)
theorem O1:∀l:C_ Nat,O0 l=l.flatMap uW
 | []=>rfl
 | x :: r=>by
  have:=O1 r
  simp only[O0,List.map_cons,List.flatMap_cons] at this ⊢;rw[this];rfl
def aj4(l:C_ Nat)(k x:Nat):(l.flatMap uW).set k (.int .u8 x)=(l.set k x).flatMap uW:=by
 rw[<-O1,<-O1];simp[O0,List.map_set]
def AE7{e:F_}{base:Nat}{w:A_}{l:C_ Nat}{a:Addr}{n c k x:Nat}{KW:A_->Prop}{t}(h:aJ uW e 1 base w (.slice (some a) n c) l)(hk:k<l.length)
  (cR:∀w1,du a.block w w1->aJ uW e 1 base w1 (.slice (some a) n c) (l.set k x)->KW w1):sl (.pointer (some (a.add (k*1)))) (.int .u8 (x:Nat)) w KW t:=by
 rcases h.2 with ⟨aw,ad⟩ | ⟨g,cap,cur,h1,I,ab,aC,a1,bJ,cr⟩
 .cases aw
 .injection h1 with bF aH aR
  injection bF with bF
  subst bF aR;have cu:k<cur.size:=Ad
  have kZ:Addr.add ⟨g,0,none⟩ (k*1)=⟨g,k,none⟩:=by rw[add_eq,AG2,SO]
  have an:w.cell? (Addr.add ⟨g,0,none⟩ (k*1))=some cur[k]:=fM ab (by rw[AG2];exact Array.getElem?_eq_getElem cu);rw[kZ] at an ⊢;have br:w.ownsRow base e 1 (.slice (some ⟨g,0,none⟩) l.length c) l.length (l.flatMap uW):=by unfold aJ at h;rw[aH] at h;exact h
  have aj:=World.ownsRow.stored br k (.int .u8 (x:Nat));rw[aj4] at aj;refine _1 an (by simp[World.frozen?,ab]) (by simp[Value.oneCell']) (cR _ (du.setCell w ⟨g,k,none⟩ _) ?_);unfold aJ;rw[XK,aH];exact aj.1
theorem _y{α:Type}{P:D_}{cL:B_->A_->Prop}{enc:α->C_ B_}{e:F_}{sz base:Nat}{w:A_}{s x:B_}{xs ys:C_ α}{R:A_->Addr->α->Prop}[pg R enc]{ty:F_}{b:Nat}{t}(aj:aJ enc e sz base w s xs)(af:bm sz R w x ys)(dq:∀x,(enc x).length=sz)(h1:∀y,∀u∈enc y,u.oneCell'=true)
  (ak:(xs.length+ys.length)*b<=140737488355328)(lo:xs.length+ys.length<=maxLen)(kI:base<=w.heap.size)(hk:∀bU w',aJ enc e sz base w' bU (xs++ys)->w.grownBy w' s.ownBlock->cL bU w'):mw P ty e sz b s x w cL t:=by
 obtain⟨aN,cap,rfl,rK,I,ab,aC⟩:=af.ex;cases aN with
 | some a=>exact AB4 aj ⟨some a,cap,rfl,rK,I,ab,aC⟩ dq h1 ak lo kI hk
 | none =>
  have:ys=[]:=Classical.byContradiction λaw=>by have:=ab aw;cases this
  subst this;rw[SN] at hk;refine _c λ⟨aB,i,z,U,bA,A2,Az,zb,Gy⟩=>?_;refine⟨ty,s,w,?_,hk s w aj ⟨rfl,rfl,rfl,EC _,λ_ _ _=>rfl⟩⟩;rcases aj.2 with ⟨rfl,ad⟩ | ⟨g,cap,cur,rfl,_,_,y1,_⟩
  .simp[Builtin.append_,run_underlying aB,Go.sizeOf,typeInfo,U,Builtin.lenOf,Builtin.firstCells]
  .simp[Builtin.append_,run_underlying aB,Go.sizeOf,typeInfo,U,Builtin.lenOf,Builtin.firstCells,y1,storeCells]
theorem PU:∀(l:C_ Int) (k:Nat) (x:Int),(l.flatMap bX).set k (.I x)=(l.set k x).flatMap bX
 | [],_,_=>rfl
 | y :: l,0,x=>rfl
 | y :: l,k+1,x=>by
  have:=PU l k x
  simp only[List.flatMap_cons,List.set_cons_succ];rw[<-this];rfl
def _z{e:F_}{base:Nat}{w:A_}{l:C_ Int}{a:Addr}{n c k:Nat}{x:Int}{KW:A_->Prop}{t}(h:aJ bX e 1 base w (.slice (some a) n c) l)(hk:k<l.length)
  (cR:∀w1,du a.block w w1->aJ bX e 1 base w1 (.slice (some a) n c) (l.set k x)->KW w1):sl (.pointer (some (a.add (k*1)))) (.I x) w KW t:=by
 rcases h.2 with ⟨aw,ad⟩ | ⟨g,cap,cur,h1,I,ab,aC,a1,bJ,cr⟩
 .cases aw
 .injection h1 with bF aH aR
  injection bF with bF
  subst bF aR;have cu:k<cur.size:=Ad
  have kZ:Addr.add ⟨g,0,none⟩ (k*1)=⟨g,k,none⟩:=by rw[add_eq,AG2,SO]
  have an:w.cell? (Addr.add ⟨g,0,none⟩ (k*1))=some cur[k]:=fM ab (by rw[AG2];exact Array.getElem?_eq_getElem cu);rw[kZ] at an ⊢;have br:w.ownsRow base e 1 (.slice (some ⟨g,0,none⟩) l.length c) l.length (l.flatMap bX):=by unfold aJ at h;rw[aH] at h;exact h
  have aj:=World.ownsRow.stored br k (.I x);rw[PU] at aj;refine _1 an (by simp[World.frozen?,ab]) (by simp[Value.oneCell']) (cR _ (du.setCell w ⟨g,k,none⟩ _) ?_);unfold aJ;rw[XK,aH];exact aj.1
end a8
namespace o
open Go
theorem ze{l:C_ Int}:jw l=true↔∃h:0<l.length,0<=l[0]/\l[0]<=(l.length:Int) - 1/\∀k (hk:k<l.length),l[0]+1<=k->l[k]=0:=by
 cases l with
 | nil=>simp[jw]
 | cons n r =>
  simp only[jw,Bool.and_eq_true,decide_eq_true_eq,List.all_eq_true];constructor
  .rintro⟨⟨ad,h1⟩,I⟩;refine⟨CC,ad,by simp;omega,λk hk aE=>?_⟩;cases k with
   | zero=>simp at aE;omega
   | succ k =>
    simp only[List.getElem_cons_zero,List.getElem_cons_succ] at aE ⊢;refine I _ (List.mem_iff_getElem.2 ⟨k - n.toNat,by simp at hk ⊢;omega,?_⟩);rw[AJ7];congr 1;omega
  .rintro⟨_,ad,h1,I⟩;simp only[List.getElem_cons_zero,List.length_cons] at ad h1 I;refine⟨⟨ad,Ad⟩,λx af=>?_⟩;obtain⟨k,hk,rfl⟩:=List.mem_iff_getElem.1 af;rw[AJ7]
   have:=I (n.toNat+k+1) (by simp at hk;omega) Ad
   simpa using this
theorem SC{l:C_ Int}(h:jw l=true)(ad:0<l.length):jx l=(l.drop 1).take l[0].toNat:=by
 unfold jx;rw[if_pos h];cases l with
 | nil=>simp at ad
 | cons n r=>rfl
def aoy{l:C_ Int}(h:jw l=true)(ad:0<l.length):(jx l).length=l[0].toNat:=by
 obtain⟨_,h1,I,_⟩:=ze.1 h;rw[SC h ad,Hs,AF4];omega
def KT(l:C_ Int):(jx l).length<=l.length:=by
 unfold jx;split
 .rw[Hs,AF4];omega
 .simp
def aca{l:C_ Int}(h:¬jw l=true):jx l=[]:=by unfold jx;rw[if_neg h]
def adv(l:C_ Int)(k:Nat):((l.length:Int) :: (List.range (k+1)).map λi=>l.getD i 0)=((l.length:Int) :: (List.range k).map λi=>l.getD i 0)++[l.getD k 0]:=by
 rw[AH0,AF1];rfl
end o
namespace Go.Proofs.R
open Go Go.RowKit a8
abbrev iE(base:Nat)(w:A_)(v:B_)(l:C_ Int):Prop:=aJ bX T.a 1 base w v l
def kR{base:Nat}{w:A_}{v:B_}{l:C_ Int}(h:iE base w v l):c9 w v l:=aJ.e3 (enc:=bX) (λ_=>rfl) h
def aeb(v:B_)(l:C_ Int)(w:A_)(h:c9 w v l) :
  Du F.L7 #[v] w λu w'=>u = .bool (o.jw l)/\Ext w w':=by
 obtain⟨ei,eW,rfl,e6⟩:=h.form;have no:(¬∃h:0<l.length,0<=l[0]/\l[0]<=(l.length:Int) - 1/\∀k (hk:k<l.length),l[0]+1<=k->l[k]=0)->o.jw l=false:=λaw=>by
  cases au:o.jw l with
  | false=>rfl
  | true=>exact absurd (o.ze.1 au) aw
 refine bl E.L7 ?_;refine J ?_;apply I_<;>intro g1
 .refine J ?_;exact⟨by rw[no];rintro⟨ad,_⟩;omega,Ext.refl _⟩
 have ad:0<l.length:=Ad
 obtain⟨a,rfl⟩:=h.addr ad;refine J ?_;apply I_<;>intro g2
 .refine J ?_;exact⟨by rw[no];rintro⟨_,h1,_⟩;omega,Ext.refl _⟩
 refine J ?_;apply I_<;>intro g3
 .refine J ?_;exact⟨by rw[no];rintro⟨_,h1,I,_⟩;omega,Ext.refl _⟩
 refine J ?_;refine _M [0] (λx:Int=>[(3,.I x)]) (l[0]+1) (λx W=>W=w/\l[0]+1<=x/\x<=l.length/\∀k (hk:k<l.length),l[0]+1<=k->(k:Int)<x->l[k]=0) (λx=>((l.length:Int) - x).toNat) a6 ⟨rfl,Ad,Ad,λk hk a b=>Ad⟩ ?_;rintro x S w1 ⟨rfl,za,af,dv⟩;refine J ?_;apply I_<;>intro g4
 .refine J ?_;refine K_ x.toNat Ad Ad ?_;refine J ?_;apply I_<;>intro g5
  .refine J ?_;refine⟨x+1,a6,⟨aK,Ad,Ad,λk hk a b=>?_⟩,Ad⟩;by_cases e:(k:Int)=x
   .have:k=x.toNat:=Ad
    subst this;exact g5
   .exact dv k hk a Ad
  .refine J ?_;exact⟨by rw[no];rintro⟨_,_,_,ab⟩;exact g5 (ab _ Ad Ad),Ext.refl _⟩
 .refine J ?_;exact⟨by rw[o.ze.2 ⟨ad,Ad,Ad,λk hk a=>dv k hk a Ad⟩],Ext.refl _⟩
def adZ{w:A_}(v:B_)(l:C_ Int)(c:Nat)(n x:Int)(h:c9 w v l)(af:x=c)(an:c<l.length)(aE:l.length<=100000) :
  Du F.Mj #[v,.I x,.I n] w λu w'=>iE w.heap.size w' u (l.set c n)/\Ext w w':=by
 subst af;obtain⟨ei,eW,rfl,e6⟩:=h.form;refine bl E.Mj ?_;refine J ?_;intro w1 bx cN ag al;have kL:iE w.heap.size w1 (.slice (some ⟨bx,0,none⟩) 0 0) []:=aJ.empty cN al;refine J ?_;refine _y kL (h.ext Flat.ext ag) (λ_=>rfl) hA (by simp only[List.length_nil];omega) (by simp only[List.length_nil];unfold maxLen;omega) ag.size λbU aA ed C7=>?_;rw[AF9] at ed;have aH:Ext w aA:=ag.grown C7 λk hk=>(kL.lt k hk).1;obtain⟨aN,fs,rfl,_⟩:=ed.form;obtain⟨a,rfl⟩:=(kR ed).addr;refine J ?_;refine _z ed an λaM fE eT=>?_;have ak:=ed.lt a.block rfl;refine J ?_;exact⟨eT,fE.ext aH ak.1⟩
end Go.Proofs.R
namespace a8
open Go Go.RowKit
section
variable{S:Fr}{w:World}{bj:Value->Prop}
def _0{α:Type}{sz n cap:Nat}{R:A_->Addr->α->Prop}{aN:H_ Addr}{x:G_}{k:IntKind}{xs:C_ α}{t}(l:Nat)(aj:bm sz R w (.slice aN n cap) xs)(af:bp S x = .int k (l:Int))(aE:l<=xs.length)
  (hk:∀ae c,bm sz R w (.slice ae (xs.length - l) c) (xs.drop l)->bj (.slice ae (xs.length - l) c)):th S sz (.slice aN n cap) (some x) none none bj t:=by
 obtain⟨bF,aH,aR⟩:=aj.len;refine _B l n cap (by simp[eJ,af]) (by simp[eJ]) (by simp[eJ]) ⟨Ad,Ad,EC _⟩ CC ?_;have h:=aj.sub l n Ad Ad;rw[MC (by rw[AF4];omega)] at h;rw[bF] at h ⊢;exact hk _ _ h
def AD5{α:Type}{sz n cap:Nat}{R:A_->Addr->α->Prop}{aN:H_ Addr}{y:G_}{k:IntKind}{xs:C_ α}{t}(u:Nat)(aj:bm sz R w (.slice aN n cap) xs)(bE:bp S y = .int k (u:Int))(hu:u<=xs.length)
  (hk:∀ae c,bm sz R w (.slice ae u c) (xs.take u)->bj (.slice ae u c)):th S sz (.slice aN n cap) none (some y) none bj t:=by
 obtain⟨bF,aH,aR⟩:=aj.len;refine _B 0 u cap (by simp[eJ]) (by simp[eJ,bE]) (by simp[eJ]) ⟨Ad,Ad,EC _⟩ CC ?_;have h:=aj.sub 0 u Ad hu;exact hk _ _ h
end
end a8
namespace Go.Proofs.R
open Go Go.RowKit a8
def aee(v:B_)(l:C_ Int)(w:A_)(h:c9 w v l)(aE:l.length<=100000) :
  Du F.L3 #[v] w λu w'=>iE w.heap.size w' u (o.jx l)/\Ext w w':=by
 obtain⟨ei,eW,rfl,e6⟩:=h.form;refine bl E.L3 ?_;refine J ?_;refine J_ (aeb _ l w h) ?_;rintro _ w1 ⟨rfl,ag⟩;by_cases au:o.jw l=true
 .rw[au];obtain⟨ad,h1,I,ab⟩:=o.ze.1 au;obtain⟨a,rfl⟩:=h.addr ad;have fl:=h.ext Flat.ext ag;refine J ?_;refine L_ 4 l[0].toNat [0] (λv:fy=>[(3,.slice v.1 v.2.1 v.2.2)]) (none,0,0) (λk v W=>Ext w1 W/\iE w1.heap.size W (.slice v.1 v.2.1 v.2.2) ((l.drop 1).take k)) a6 a6 ⟨Ext.refl _,aJ.nil _ _ _ _ _⟩ ?_;clear fl;rintro k pb S aA hk ⟨ai,ed⟩;have et:=h.ext Flat.ext (ag.trans ai);refine J ?_;apply I_<;>intro g1
  .have cb:1+k<l.length:=Ad
   refine J ?_;intro aM bW eX ah ba;have qa:((l.drop 1).take k).length<=100000:=by rw[Hs,AF4];omega
   refine J ?_;refine S_ (y:=l[1+k]) (ed.ext ah) ba rfl (λ_=>rfl) hA Ad (by unfold maxLen;omega) (by have:=ai.size;have:=ah.size;omega) λaN c d aU dD n4=>?_;refine J ?_;refine⟨Ad,aK,(aN,c,d),⟨rfl,trivial⟩,(ai.trans ah).grown n4 λi U=>(ed.lt i U).1,?_⟩;rw[AJ3,List.getElem?_drop,List.getElem?_eq_getElem cb];exact dD
  .have gS:k=l[0].toNat:=Ad
   subst gS;refine J ?_;exact⟨by rw[o.SC au ad];exact aJ.low ag.size ed,ag.trans ai⟩
 .have AZ:o.jw l=false:=by simpa using au
  rw[AZ];refine J ?_;exact⟨by rw[o.aca au];exact aJ.nil _ _ _ _ _,ag⟩
def aen(n:Nat)(v:B_)(l:C_ Int)(w:A_)(h:c9 w v l)(aw:1<=n/\n<=100000) :
  Du F.L6 #[.I n,v] w λu w'=>iE w.heap.size w' u (o.r3 n l)/\Ext w w':=by
 obtain⟨ei,eW,rfl,e6⟩:=h.form;refine bl E.L6 ?_;refine J ?_;intro w1 bx cN ag al;have kL:iE w.heap.size w1 (.slice (some ⟨bx,0,none⟩) 1 1) ((l.length:Int) :: (List.range 0).map λi=>l.getD i 0):=aJ.ss _ al cN rfl (λ_=>rfl) rfl (by show 1<=maxLen;unfold maxLen;decide);clear al;refine J ?_;refine L_ 6 (n - 1) [0,1] (λv:fy=>[(5,.slice v.1 v.2.1 v.2.2)]) (some ⟨bx,0,none⟩,1,1) (λk v W=>Ext w W/\iE w.heap.size W (.slice v.1 v.2.1 v.2.2) ((l.length:Int) :: (List.range k).map λi=>l.getD i 0)) a6 a6 ⟨ag,kL⟩ ?_;clear kL;rintro k pb S aA hk ⟨ai,ed⟩;have et:=h.ext Flat.ext ai;have qa:((l.length:Int) :: (List.range k).map λi=>l.getD i 0).length=k+1:=CC
 refine J ?_;apply I_<;>intro g1
 .refine J ?_;apply I_<;>intro g2
  .have cb:k<l.length:=Ad
   obtain⟨a,rfl⟩:=h.addr;refine J ?_;intro aM bW eX ah ba;refine J ?_;refine S_ (y:=l[k]) (ed.ext ah) ba rfl (λ_=>rfl) hA Ad (by unfold maxLen;omega) (by have:=ai.size;have:=ah.size;omega) λaN c d aU dD n4=>?_;refine J ?_;refine⟨Ad,aK,(aN,c,d),⟨rfl,trivial⟩,(ai.trans ah).grown n4 λi U=>(ed.lt i U).1,?_⟩;rw[o.adv,show l.getD k 0=l[k] from by simp[cb]];exact dD
  .refine J ?_;intro aM bW eX ah ba;refine J ?_;refine S_ (y:=0) (ed.ext ah) ba rfl (λ_=>rfl) hA Ad (by unfold maxLen;omega) (by have:=ai.size;have:=ah.size;omega) λaN c d aU dD n4=>?_;refine J ?_;refine⟨Ad,aK,(aN,c,d),⟨rfl,trivial⟩,(ai.trans ah).grown n4 λi U=>(ed.lt i U).1,?_⟩;rw[o.adv,show l.getD k 0=0 from by simp[List.getD,List.getElem?_eq_none (show l.length<=k by omega)]];exact dD
 .have gS:k=n - 1:=Ad
  subst gS;refine J ?_;exact⟨ed,ai⟩
def asD(v:B_)(l:C_ Int)(w:A_)(h:c9 w v l)(aE:l.length<=100000) :
  Du F.L5 #[v] w λu w'=>((o.qv l=none/\u = .tuple #[.slice none 0 0,.I 0,.bool false])\/(∃r x vr,o.qv l=some (r,x)/\u = .tuple #[vr,.I x,.bool true]/\iE w.heap.size w' vr r))/\Ext w w':=by
 obtain⟨ei,eW,rfl,e6⟩:=h.form;refine bl E.L5 ?_;refine J ?_;refine J_ (aee _ l w h aE) ?_;rintro u w1 ⟨kL,ag⟩;have fj:=kR kL;obtain⟨b8,ci,rfl,_⟩:=fj.form;refine J ?_;apply I_<;>intro g1
 .have U:o.jx l=[]:=AF7 Ad;refine J ?_;exact⟨.inl ⟨by unfold o.qv;rw[U],aK⟩,ag⟩
 have kp:=o.KT l;obtain⟨x,r,U⟩:∃x r,o.jx l=x :: r:=by
  cases an:o.jx l with
  | nil=>rw[an] at g1;simp at g1
  | cons x r=>exact⟨x,r,rfl⟩
 obtain⟨gp,rfl⟩:=fj.addr;refine J ?_;intro aA ai;have CU:=fj.ext Flat.ext ai;have et:=h.ext Flat.ext (ag.trans ai);refine J ?_;refine _0 (k:=.i64) 1 CU rfl Ad λae c ar=>?_;have F0:(o.jx l).drop 1=r:=by rw[U];rfl
 have za:(o.jx l)[0]' Ad=x:=by simp[U]
 rw[F0] at ar;refine J ?_;refine K_ 0 rfl Ad ?_;refine J ?_;refine J_ (aen l.length _ r aA (by have:=ar.len.1;exact ar) Ad) ?_;rintro u aM ⟨eT,ah⟩;refine⟨ah,?_⟩;refine J ?_;refine⟨.inr ⟨o.r3 l.length r,x,u,by unfold o.qv;rw[U],by rw[za],aJ.low (ag.trans ai).size eT⟩,(ag.trans ai).trans ah⟩
def asB(v:B_)(l:C_ Int)(x:Int)(w:A_)(h:c9 w v l)(aE:l.length<=100000) :
  Du F.L4 #[v,.I x] w λu w'=>((o.nC l x=none/\u = .tuple #[.slice none 0 0,.bool false])\/(∃r vr,o.nC l x=some r/\u = .tuple #[vr,.bool true]/\iE w.heap.size w' vr r))/\Ext w w':=by
 obtain⟨ei,eW,rfl,e6⟩:=h.form;refine bl E.L4 ?_;refine J ?_;refine J_ (aeb _ l w h) ?_;rintro _ w1 ⟨rfl,ag⟩;by_cases au:o.jw l=true;rotate_left
 .have AZ:o.jw l=false:=by simpa using au
  rw[AZ];refine J ?_;exact⟨.inl ⟨by unfold o.nC;rw[if_neg (λe=>au e.1)],aK⟩,ag⟩
 rw[au];obtain⟨ad,h1,I,ab⟩:=o.ze.1 au;obtain⟨a,rfl⟩:=h.addr ad;have fl:=h.ext Flat.ext ag;have bb:l.headD 0=l[0]:=by cases l with | nil=>simp at ad | cons n r=>rfl
 refine J ?_;apply I_<;>intro g1
 .refine J ?_;exact⟨.inl ⟨by unfold o.nC;rw[if_neg (λe=>e.2 (by rw[bb];omega))],aK⟩,ag⟩
 refine J ?_;refine J_ (aee _ l w1 fl aE) ?_;rintro u aA ⟨ed,ai⟩;obtain⟨b8,ci,rfl,_⟩:=(kR ed).form;have kp:=o.KT l;refine J ?_;intro aM bW eX ah ba;refine J ?_;refine S_ (y:=x) (ed.ext ah) ba rfl (λ_=>rfl) hA Ad (by unfold maxLen;omega) (by have:=ai.size;have:=ah.size;omega) λaN c d aU dD n4=>?_;have bn:Ext w1 aU:=(ai.trans ah).grown n4 λi U=>(ed.lt i U).1;refine J ?_;refine J_ (aen l.length _ _ aU (kR dD) Ad) ?_;rintro u bh ⟨dM,av⟩;refine J ?_;exact⟨.inr ⟨_,_,by unfold o.nC;rw[if_pos ⟨au,by rw[bb];omega⟩],rfl,aJ.low (ag.trans bn).size dM⟩,(ag.trans bn).trans av⟩
structure pZ(w:World)(cs:List Value)(m:o.Model):Prop where
 ex:∃ms ys bK vr,cs=ms++ys++[bK,vr]/\o.dj w ms m/\o.jk w ys (o.layout m)/\ik w bK (o.insts m)/\tf w vr (o.refs m)
theorem pZ.ext{w w':A_}{cs:C_ B_}{m:o.Model}(he:Ext w w')(h:pZ w cs m):pZ w' cs m :=
 let ⟨ms,ys,bK,vr,ad,h1,I,ab,aC⟩:=h.ex; ⟨ms,ys,bK,vr,ad,h1.ext he,I.ext he,ab.ext Flat.ext he,aC.ext Flat.ext he⟩
def pZ.form{w:A_}{cs:C_ B_}{m:o.Model}(h:pZ w cs m):∃eH d0 dK d1 eg d2 eD d3 eU d4 b0 bz bO c1 bT c2 bV bu b1 bB b8 ci e9 gY,
  cs=[.slice eH m.scalars.length d0,.slice dK m.vars.length d1,.slice eg m.ax.length d2,.slice eD m.procs.length d3,.slice eU m.props.length d4,
   .slice b0 (o.layout m).vars.length bz,.slice bO (o.layout m).ax.length c1,.slice bT (o.layout m).insts.length c2,.I (o.layout m).cells,.slice bV (o.layout m).aV.length bu,.slice b1 (o.layout m).U.length bB,.slice b8 (o.insts m).length ci,.slice e9 (o.refs m).length gY] /\
  o.dj w [.slice eH m.scalars.length d0,.slice dK m.vars.length d1,.slice eg m.ax.length d2,.slice eD m.procs.length d3,.slice eU m.props.length d4] m /\
  o.jk w [.slice b0 (o.layout m).vars.length bz,.slice bO (o.layout m).ax.length c1,.slice bT (o.layout m).insts.length c2,.I (o.layout m).cells,.slice bV (o.layout m).aV.length bu,.slice b1 (o.layout m).U.length bB] (o.layout m) /\
  bm 1 (Flat bX) w (.slice b0 (o.layout m).vars.length bz) (o.layout m).vars/\bm 1 (Flat bX) w (.slice bO (o.layout m).ax.length c1) (o.layout m).ax/\bm 1 (Flat bX) w (.slice bT (o.layout m).insts.length c2) (o.layout m).insts /\
  bm 1 (Flat bX) w (.slice bV (o.layout m).aV.length bu) (o.layout m).aV/\bm 1 (Flat bX) w (.slice b1 (o.layout m).U.length bB) (o.layout m).U /\
  o.il w (.slice eH m.scalars.length d0) m.scalars/\o.hZ w (.slice dK m.vars.length d1) m.vars/\o.nH w (.slice eg m.ax.length d2) m.ax/\o.rr w (.slice eD m.procs.length d3) m.procs /\
  ik w (.slice b8 (o.insts m).length ci) (o.insts m)/\tf w (.slice e9 (o.refs m).length gY) (o.refs m):=by
 obtain⟨ms,ys,bK,vr,rfl,aL,ch,aP,bG⟩:=h.ex;have Fz:=aL;have akX:=ch;obtain⟨b0,bz,bO,c1,bT,c2,bV,bu,b1,bB,rfl,dB,cP,cA,eI,fp⟩:=ch.form;obtain⟨eH,d0,dK,d1,eg,d2,eD,d3,eU,d4,rfl,ad,h1,I,ab,aC,_⟩:=aL.form;obtain⟨b8,ci,rfl,_⟩:=aP.form;obtain⟨e9,gY,rfl,_⟩:=bG.form;exact⟨eH,d0,dK,d1,eg,d2,eD,d3,eU,d4,b0,bz,bO,c1,bT,c2,bV,bu,b1,bB,b8,ci,e9,gY,rfl,Fz,akX,dB,cP,cA,eI,fp,ad,h1,I,ab,aP,bG⟩
def arG(cs ys:C_ B_)(m:o.Model)(w:A_)(h:o.dj w cs m)(aG:m.cv)(aL:o.ey m)(ch:o.jk w ys (o.layout m)) :
  Du F.L8 #[.agg cs.toArray,.agg ys.toArray] w λu w'=>(∃bK vr,u = .agg (cs++ys++[bK,vr]).toArray/\aJ o.cO.enc T.d 2 w.heap.size w' bK (o.insts m)/\aJ o.Ref.enc T.c 2 w.heap.size w' vr (o.refs m))/\Ext w w':=by
 have b4:=h;have py:=ch;obtain⟨b0,bz,bO,c1,bT,c2,bV,bu,b1,bB,rfl,_⟩:=h.form;obtain⟨kT,d0,ie,d1,ji,d2,nd,d3,mu,d4,rfl,_⟩:=ch.form;refine bl E.L8 ?_;refine J ?_;intro w1 bQ c7 ag ao;refine J ?_;intro aA bW eX ai ba;replace ao:=ai.obj ao;refine J ?_;intro aM c6 fT ah bo;have z4:=cq bo;replace ao:=ah.obj ao;replace ba:=ah.obj ba;have aR:=(ag.trans ai).trans ah;have fQ:=ag.size;have z2:=ai.size;refine J ?_;intro aU aq;have bn:=aR.trans aq;replace ao:=aq.obj ao;replace ba:=aq.obj ba;replace bo:=aq.obj bo;refine J ?_;refine J_ (s0 _ m aU (b4.ext bn) aG) ?_;rintro bK bh ⟨dP,av⟩;obtain⟨b8,ci,rfl,_⟩:=dP.form;have bC:=bn.trans av;refine⟨av,?_⟩;refine J ?_;refine J_ (Bs _ m bh (b4.ext bC) aG aL.lim) ?_;rintro vr bq ⟨fD,aD⟩;obtain⟨e9,gY,rfl,_⟩:=fD.form;have b6:=bC.trans aD;refine⟨av.trans aD,?_⟩;replace bo:=(av.trans aD).obj bo;refine J ?_;intro bH dw bZ;have cM:Ext w bH:=dw.ext b6 Ad;have asK:=ah.size;have qt:=aq.size;have pJ:=av.size;refine J ?_;exact⟨⟨_,_,rfl,aJ.low bn.size (aJ.wr dw Ad (dP.ext aD)),aJ.low bC.size (aJ.wr dw Ad fD)⟩,cM⟩
end Go.Proofs.R
namespace o
open Go
def XV{m:Model}{c:Nat}(h:c<di m):∃br:c<(cp m).length,EN m c=((cp m)[c].aV,(cp m)[c].U):=by
 have br:c<(cp m).length:=h;exact⟨br,by unfold EN;rw[List.getElem?_eq_getElem br]⟩
end o
namespace Go.Proofs.R
open Go Go.RowKit a8
def afF:C_ B_:=[.slice none 0 0,.slice none 0 0,.slice none 0 0,.slice none 0 0,.slice none 0 0,.slice none 0 0,.slice none 0 0,.slice none 0 0,.int .i64 0,.slice none 0 0,.slice none 0 0,.slice none 0 0,.slice none 0 0]
def arJ(cs:C_ B_)(m:o.Model)(w:A_)(h:o.dj w cs m)(aG:m.cv) :
  Du F.Ma #[.agg cs.toArray] w λu w'=>((¬(o.check m).cJ=0/\u = .tuple #[.agg afF.toArray,.bool false])\/((o.check m).cJ=0/\∃zs,u = .tuple #[.agg zs.toArray,.bool true]/\pZ w' zs m))/\Ext w w':=by
 have b4:=h;obtain⟨b0,bz,bO,c1,bT,c2,bV,bu,b1,bB,rfl,_⟩:=h.form;refine bl E.Ma ?_;refine J ?_;intro w1 bx cN ag al;refine J ?_;intro aA bQ c7 ai ao;have z2:=cq ao;have afO:=ag.size;replace al:=ai.obj al;have aH:=ag.trans ai;refine J ?_;refine J_ (Hm _ m aA (b4.ext aH) aG) ?_;rintro _ aM ⟨rfl,ah⟩;replace al:=ah.obj al;replace ao:=ah.obj ao;have aR:=aH.trans ah;unfold uZ;refine J ?_;refine Y_ (v:=.I (o.check m).cJ) rfl ?_;refine J ?_;refine I_ (λhk=>?_) (λhk=>?_);rotate_left
 .refine J ?_;intro aU dQ bo;refine J ?_;exact⟨.inl ⟨hk,aK⟩,dQ.ext aR Ad⟩
 have aL:=o.hE hk;refine J ?_;intro aU aq;replace al:=aq.obj al;replace ao:=aq.obj ao;have bn:=aR.trans aq;refine J ?_;refine J_ (TG _ m aU (b4.ext bn) aG aL) ?_;rintro _ bh ⟨⟨ys,rfl,Av⟩,av⟩;have ch:=Av.here;have bC:=bn.trans av;refine⟨av,?_⟩;refine J ?_;refine J_ (arG _ ys m bh (b4.ext bC) aG aL ch) ?_;rintro _ bq ⟨⟨bK,vr,rfl,dP,fD⟩,aD⟩;have b6:=bC.trans aD;replace ao:=(av.trans aD).obj ao;obtain⟨kT,d0,ie,d1,ji,d2,nd,d3,mu,d4,rfl,_⟩:=ch.form;obtain⟨b8,ci,rfl,_⟩:=dP.form;obtain⟨e9,gY,rfl,_⟩:=fD.form;have qt:=aq.size;have asK:=ah.size;have pJ:=av.size;have ayu:=cq ao;refine J ?_;intro bH dw bZ;have cM:Ext w bH:=dw.ext b6 Ad;have akZ:=((Av.ext aD pJ).wr dw Ad).here;refine J ?_;exact⟨.inr ⟨hk,_,rfl,_,_,_,_,rfl,b4.ext cM,akZ,aJ.e3 (enc:=o.cO.enc) (λ_=>rfl) (aJ.wr dw Ad dP),aJ.e3 (enc:=o.Ref.enc) (λ_=>rfl) (aJ.wr dw Ad fD)⟩,cM⟩
def arH(cs:C_ B_)(m:o.Model)(ref:Int)(q p k:Nat)(w:A_)(h:pZ w cs m)(bw:o.fa m ref q p k) :
  Du F.Mb #[.agg cs.toArray,.I ref] w λu w'=>(∃fi va,u = .agg ((o.bN m p k).enc fi va).toArray/\o.eS w fi (o.bN m p k).guard/\o.mv w va (o.bN m p k).bP)/\Ext w w':=by
 obtain⟨eH,d0,dK,d1,eg,d2,eD,d3,eU,d4,b0,bz,bO,c1,bT,c2,bV,bu,b1,bB,b8,ci,e9,gY,rfl,_,_,_,_,_,_,_,_,_,_,ab,aP,bG⟩:=h.form;have au:=bw.at_.U;have ar:=bw.at_.ar;have hp:=bw.at_.hk;have j5:=bw.at_.ip;obtain⟨r,rfl⟩:=Nb bw.aV;have aS:r<(o.refs m).length:=bw.U;have fk:(o.refs m)[r].inst=(q:Int):=bw.at_.mX;have j7:(o.refs m)[r].cmd=(k:Int):=bw.at_.pI;obtain⟨l7,rfl⟩:=bG.addr;obtain⟨gp,rfl⟩:=aP.addr;obtain⟨a3,rfl⟩:=ab.addr;obtain⟨kr,bY,dV,c3,eQ,er⟩:=ab.at p ar;obtain⟨vC,uQ,rfl,vy⟩:=er.form;obtain⟨ac,rfl⟩:=er.addr;obtain⟨eC,fi,va,e2,gi,fb⟩:=er.at k hp;obtain⟨fA,fL,rfl,_⟩:=gi.form;obtain⟨oq,nP,rfl,_⟩:=fb.form;unfold o.dt.enc at c3;unfold o.dI.enc at e2;refine bl E.Mb ?_;refine J ?_;intro w1 bQ c7 ag ao;refine J ?_;intro aA c6 fT ai bo;have z4:=cq bo;have afO:=ag.size;replace ao:=ai.obj ao;have aH:=ag.trans ai;have Qi:=bG.ext Flat.ext aH;refine J ?_;intro aM dF jt ah bI;have pt:(o.refs m)[r].enc=[.I q,.I k]:=by unfold o.Ref.enc;rw[fk,j7]
 rw[pt] at bI;replace ao:=ah.obj ao;replace bo:=ah.obj bo;have aR:=aH.trans ah;have ZN:=aP.ext Flat.ext aR;have y4:=c3.ext aR;have AD:=e2.ext aR;clear Qi;refine J ?_;intro aU aq;replace ao:=aq.obj ao;replace bo:=aq.obj bo;replace bI:=aq.obj bI;replace ZN:=ZN.ext Flat.ext aq;replace y4:=y4.ext aq;replace AD:=AD.ext aq;refine J ?_;refine K_ p (by rw[j5]) ar ?_;refine J ?_;intro bh eY u4;refine J ?_;have gR:=o.sv ar hp;exact⟨⟨.slice fA (o.bN m p k).guard.length fL,.slice oq (o.bN m p k).bP.length nP,by rw[gR];rfl,by rw[gR];exact gi,by rw[gR];exact fb⟩,eY.ext (aR.trans aq) Ad⟩
def adX(cs:C_ B_)(v:B_)(m:o.Model)(s:C_ Int)(c:Nat)(w:A_)(h:pZ w cs m)(aL:o.ey m)(aj:c9 w v s)(aE:s.length=o.di m)(an:c<m.ax.length) :
  Du F.Mf #[.agg cs.toArray,v,.I c] w λu w'=>c9 w' u (o.chanOf m s c)/\Ext w w':=by
 obtain⟨eH,d0,dK,d1,eg,d2,eD,d3,eU,d4,b0,bz,bO,c1,bT,c2,bV,bu,b1,bB,b8,ci,e9,gY,rfl,_,_,dB,cP,cA,eI,fp,ad,h1,I,ab,aP,bG⟩:=h.form;obtain⟨ei,eW,rfl,e6⟩:=aj.form;obtain⟨iV,eB⟩:=o.p1 an;have hL:=(aL.chan _ (ED an)).cap;have sO:=o.oK an;have eC:=o.oL an;have j4:o.di m<=64:=o.iG aL;obtain⟨db,rfl⟩:=cP.addr;obtain⟨nM,rfl⟩:=I.addr;have dH:=(I.at c an).cells;refine bl E.Mf ?_;refine J ?_;intro w1 bW eX ag ba;have Tu:=cP.ext Flat.ext ag;replace dH:=dH.ext ag;have fl:=aj.ext Flat.ext ag;refine J ?_;refine _W (k:=.i64) (k':=.i64) (o.b7 m c) (o.b7 m c+(1+o.gF m c)) fl (by simp[dc,bD,eB]) (by simp[dc,bD,eB];omega) Ad Ad λae iQ ar=>?_;refine J ?_;refine⟨?_,ag⟩;rw[show o.b7 m c+(1+o.gF m c) - o.b7 m c=1+o.gF m c from Ad] at ar ⊢;exact ar
def M5(cs:C_ B_)(v:B_)(m:o.Model)(s:C_ Int)(c:Nat)(x n:Int)(w:A_)(h:pZ w cs m)(aL:o.ey m)(aj:c9 w v s)(aE:s.length=o.di m)(af:x=c)(an:c<o.di m) :
  Du F.Mh #[.agg cs.toArray,v,.I x,.I n] w λu w'=>((o.putAt m s c n=none/\u = .tuple #[.slice none 0 0,.bool false])\/(∃t lC,o.putAt m s c n=some t/\u = .tuple #[lC,.bool true]/\iE w.heap.size w' lC t))/\Ext w w':=by
 subst af;obtain⟨eH,d0,dK,d1,eg,d2,eD,d3,eU,d4,b0,bz,bO,c1,bT,c2,bV,bu,b1,bB,b8,ci,e9,gY,rfl,_,_,dB,cP,cA,eI,fp,ad,h1,I,ab,aP,bG⟩:=h.form;obtain⟨ei,eW,rfl,e6⟩:=aj.form;obtain⟨dL,qP⟩:=o.XV an;have f2:=o.K4 m;have f3:=o.K2 m;have nx:(o.cp m).length=o.di m:=rfl;have dR:(o.layout m).aV[c]' Ad=(o.cp m)[c].aV:=o.K3 _ dL;have ee:(o.layout m).U[c]' Ad=(o.cp m)[c].U:=o.K1 _ dL;have j4:o.di m<=64:=o.iG aL;obtain⟨a3,rfl⟩:=eI.addr;obtain⟨a4,rfl⟩:=fp.addr;refine bl E.Mh ?_;refine J ?_;intro w1 c6 fT ag bo;have Hh:=eI.ext Flat.ext ag;have axK:=fp.ext Flat.ext ag;refine J ?_;apply I_<;>intro g1
 .refine J ?_;exact⟨.inl ⟨by unfold o.putAt;rw[qP,if_pos (.inl (by simp only;omega))],aK⟩,ag⟩
 refine J ?_;apply I_<;>intro g2
 .refine J ?_;exact⟨.inl ⟨by unfold o.putAt;rw[qP,if_pos (.inr (by simp only;omega))],aK⟩,ag⟩
 refine J ?_;refine J_ (adZ _ s c n _ (aj.ext Flat.ext ag) rfl Ad Ad) ?_;rintro u aA ⟨ed,ai⟩;refine J ?_;exact⟨.inr ⟨_,_,by unfold o.putAt;rw[qP,if_neg (by simp only;omega)],rfl,aJ.low ag.size ed⟩,ag.trans ai⟩
def aea(cs:C_ B_)(v nF:B_)(m:o.Model)(s l:C_ Int)(c:Nat)(w:A_)(h:pZ w cs m)(aL:o.ey m)(aj:c9 w v s)(aw:c9 w nF l)(aE:s.length=o.di m)(an:c<m.ax.length)(qa:l.length=1+o.gF m c) :
  Du F.Mg #[.agg cs.toArray,v,.I c,nF] w λu w'=>iE w.heap.size w' u (o.jb s (o.b7 m c) l)/\Ext w w':=by
 obtain⟨eH,d0,dK,d1,eg,d2,eD,d3,eU,d4,b0,bz,bO,c1,bT,c2,bV,bu,b1,bB,b8,ci,e9,gY,rfl,_,_,dB,cP,cA,eI,fp,ad,h1,I,ab,aP,bG⟩:=h.form;obtain⟨ei,eW,rfl,e6⟩:=aj.form;obtain⟨on,Co,rfl,axh⟩:=aw.form;obtain⟨iV,eB⟩:=o.p1 an;have sO:=o.oK an;have j4:o.di m<=64:=o.iG aL;obtain⟨db,rfl⟩:=cP.addr;refine bl E.Mg ?_;refine J ?_;intro w1 c6 fT ag bo;have Tu:=cP.ext Flat.ext ag;have fl:=aj.ext Flat.ext ag;have sL:=aw.ext Flat.ext ag;refine J ?_;intro aA ai;have et:=fl.ext Flat.ext ai;have hc:=sL.ext Flat.ext ai;have aH:=ag.trans ai;refine J ?_;refine AD5 (k:=.i64) (o.b7 m c) et (by simp[dc,bD,eB]) Ad λaxm avg dd=>?_;refine J ?_;refine _0 (k:=.i64) (o.b7 m c+l.length) et (by simp[dc,bD,eB]) Ad λaxn im hK=>?_;refine J ?_;intro aM bW eX ah ba;have eT:iE aA.heap.size aM (.slice (some ⟨bW,0,none⟩) 0 0) []:=aJ.empty eX ba;have tl:(s.take (o.b7 m c)).length<=64:=by rw[Hs];omega
 have dl:(s.drop (o.b7 m c+l.length)).length<=64:=by rw[AF4];omega
 refine J ?_;refine _y eT (dd.ext Flat.ext ah) (λ_=>rfl) hA (by simp only[List.length_nil];omega) (by simp only[List.length_nil];unfold maxLen;omega) ah.size λv4 aU dD n4=>?_;have ec:Ext aA aU:=ah.grown n4 λi U=>(eT.lt i U).1;rw[AF9] at dD;obtain⟨hg,Nw,rfl,_⟩:=dD.form;refine J ?_;refine _y dD (hc.ext Flat.ext ec) (λ_=>rfl) hA Ad (by unfold maxLen;omega) ec.size λv5 bh dM mP=>?_;have hh:Ext aA bh:=ec.grown mP λi U=>(dD.lt i U).1;obtain⟨r5,axP,rfl,_⟩:=dM.form;refine J ?_;refine _y dM (hK.ext Flat.ext hh) (λ_=>rfl) hA (by rw[MD];omega) (by rw[MD];unfold maxLen;omega) hh.size λv6 bq dn iF=>?_;have gV:Ext aA bq:=hh.grown iF λi U=>(dM.lt i U).1;obtain⟨uo,axQ,rfl,_⟩:=dn.form;refine J ?_;exact⟨aJ.low aH.size dn,aH.trans gV⟩
end Go.Proofs.R
namespace o
open Go
def X5{m:Model}{i:Nat}(h:i<m.ax.length):b7 m (i+1)=b7 m i+(1+gF m i):=by rw[ahm h,oL h]
theorem O2{m:Model}:∀(d i:Nat),i+d<=m.ax.length->b7 m i<=b7 m (i+d)
 | 0,_,_=>EC _
 | d+1,i,h=>by
  have:=O2 (m:=m) d i Ad
  have:=X5 (m:=m) (i:=i+d) Ad
  rw[<-AI2];omega
def X4{m:Model}{i j:Nat}(Db:i<j)(az:j<m.ax.length):b7 m i+(1+gF m i)<=b7 m j:=by
 have h1:=X5 (m:=m) (i:=i) Ad;have I:=O2 (m:=m) (j - (i+1)) (i+1) Ad;rw[show i+1+(j - (i+1))=j from Ad] at I;omega
def ahl(m:Model)(i:Nat)(h:i<=m.ax.length):total (c4 m)<=b7 m i:=by
 have:=O2 (m:=m) i 0 Ad
 rw[SO,ahn] at this;exact this
def aoY{m:Model}{i j:Nat}(U:i<m.ax.length)(az:j<(nQ m.scalars m.ax[i]).length):∃h:b7 m i+j<(cp m).length,(cp m)[b7 m i+j].aV=(nQ m.scalars m.ax[i])[j].aV/\(cp m)[b7 m i+j].U=(nQ m.scalars m.ax[i])[j].U:=by
 have hw:i<(dG m).length:=by simpa[dG] using U
 have e:(dG m)[i]=nQ m.scalars m.ax[i]:=by simp[dG]
 have hk:j<(dG m)[i].length:=by rw[e];exact az
 have h1:=O9 2 (dG m) 0 i j hw hk;have n3:=wv U;rw[wy] at az;have I:=aoX (m:=m) (c:=b7 m i+j) (by unfold b7;omega) Ad;rw[show b7 m i+j - total (c4 m)=total ((dG m).take i)+j from by unfold b7;omega,h1] at I;obtain⟨ab,aC⟩:=List.getElem?_eq_some_iff.1 I;refine⟨ab,?_,?_⟩
 .rw[aC];simp only[e]
 .rw[aC];simp only[e]
def aj3{m:Model}{s:C_ Int}{c:Nat}{n:Int}(ay:Fits m s)(aS:c<total (c4 m)\/total (c4 m)+total (dG m)<=c)(ak:∀h:c<(cp m).length,(cp m)[c].aV<=n/\n<=(cp m)[c].U):Fits m (s.set c n):=by
 refine⟨by rw[XK];exact ay.len,λi U=>?_,λj az eP=>?_⟩
 .have h1:=wv U;have I:=ahl m i Ad
  have:nR m i m.ax[i] (s.set c n)=nR m i m.ax[i] s:=aeR λk hk=>List.getElem?_set_ne Ad
  rw[this];exact ay.queue i U
 .rw[List.getElem_set];split
  .rename_i e;subst e;exact ak eP
  .exact ay.cell j (by rw[XK] at az;exact az) eP
theorem arw{s:C_ Scalar}{c:dZ}{l:C_ Int}(hL:1<=c.cap)(h:l3 s c l){j:Nat}(az:j<(nQ s c).length):∃x,l[j]? = some x/\(nQ s c)[j].aV<=x/\x<=(nQ s c)[j].U:=by
 obtain⟨n,ad,h1,I,ab⟩:=h;cases j with
 | zero=>exact⟨n,ad,h1,I⟩
 | succ k =>
  rw[wy] at az;obtain⟨x,af,aY,ak⟩:=ab k Ad;refine⟨x,af,?_⟩;have e:(nQ s c)[k+1]'(by rw[wy];omega)=lk s c:=by simp[nQ]
  rw[e];unfold lk;unfold e1 at aY ⊢;by_cases aw:(k:Int)<n
  .have:=aY aw
   split at this<;>rename_i aj
   .rw[if_pos aj];simp only at this ⊢;omega
   .rw[if_neg aj];exact this
  .have:=ak Ad
   subst this;split
   .simp only;omega
   .simp only
    have:=size_le c.scalar s
    omega
def Zm{m:Model}{s l:C_ Int}{i:Nat}(ay:Fits m s)(U:i<m.ax.length)(hL:1<=m.ax[i].cap)(aE:l.length=1+gF m i)(au:l3 m.scalars m.ax[i] l):Fits m (jb s (b7 m i) l):=by
 have sO:=oK U;have n3:b7 m i+l.length<=s.length:=by rw[ay.len];omega
 have eC:=oL U;refine⟨by rw[GJ n3];exact ay.len,λj az=>?_,λx af vm=>?_⟩
 .by_cases e:j=i
  .subst e
   have:nR m j m.ax[j] (jb s (b7 m j) l)=l:=by
    apply List.ext_getElem?;intro k;unfold nR;rw[List.getElem?_take,List.getElem?_drop];split
    .rw[A8 n3,if_pos ⟨Ad,Ad⟩,show b7 m j+k - b7 m j=k from Ad]
    .rw[List.getElem?_eq_none Ad]
   rw[this];exact au
  .have ju:=oL az
   have:nR m j m.ax[j] (jb s (b7 m i) l)=nR m j m.ax[j] s:=aeR λk hk=>by
    rw[A8 n3,if_neg];rcases Nat.lt_or_gt_of_ne e with h | h
    .have:=X4 h U;omega
    .have:=X4 h az;omega
   rw[this];exact ay.queue j az
 .have gT:x<s.length:=by rw[GJ n3] at af;exact af
  have aG:=A8 n3 x;rw[List.getElem?_eq_getElem af] at aG;by_cases en:b7 m i<=x/\x<b7 m i+l.length
  .rw[if_pos en] at aG;have aaV:x - b7 m i<(nQ m.scalars m.ax[i]).length:=by rw[wy];omega
   obtain⟨y,bE,bx,bQ⟩:=arw hL au aaV;obtain⟨ab,aC,a1⟩:=aoY U aaV;rw[bE] at aG;have e:x=b7 m i+(x - b7 m i):=Ad
   have pA:(cp m)[x]=(cp m)[b7 m i+(x - b7 m i)]:=by congr 1
   injection aG with aG
   rw[aG,pA,aC,a1];exact⟨bx,bQ⟩
  .rw[if_neg en,List.getElem?_eq_getElem gT] at aG;injection aG with aG
   rw[aG];exact ay.cell x gT vm
def adt{n:Nat}{l:C_ Int}{k:Nat}(hk:k+1<n):(r3 n l)[k+1]? = some (l.getD k 0):=by
 unfold r3;rw[List.getElem?_cons_succ,List.getElem?_map,List.getElem?_range Ad];rfl
def adu{s:C_ Scalar}{c:dZ}{l:C_ Int}(hL:1<=c.cap)(aE:(l.length:Int)<=c.cap)(ak:∀x∈l,(e1 c.scalar c.aV c.U s).aV<=x/\x<=(e1 c.scalar c.aV c.U s).U):l3 s c (r3 (1+c.cap.toNat) l):=by
 refine⟨l.length,rfl,Ad,aE,λk hk=>⟨l.getD k 0,adt Ad,λgS=>?_,λgS=>?_⟩⟩
 .have oW:k<l.length:=Ad
  have e:l.getD k 0=l[k]:=by simp[oW]
  rw[e];exact ak _ (ED oW)
 .simp[List.getD,List.getElem?_eq_none (show l.length<=k by omega)]
def adP{s:C_ Scalar}{c:dZ}{l:C_ Int}(aE:l.length=1+c.cap.toNat)(hL:1<=c.cap)(h:l3 s c l):jw l=true/\((jx l).length:Int)<=c.cap/\l.headD 0=(jx l).length/\∀x∈jx l,(e1 c.scalar c.aV c.U s).aV<=x/\x<=(e1 c.scalar c.aV c.U s).U:=by
 obtain⟨n,ad,h1,I,ab⟩:=h;obtain⟨a,r,rfl⟩:∃a r,l=a :: r:=by
  cases l with
  | nil=>simp at aE;omega
  | cons a r=>exact⟨a,r,rfl⟩
 simp only[List.getElem?_cons_zero,Option.some.injEq] at ad;subst ad;simp only[List.length_cons] at aE;have au:jw (a :: r)=true:=by
  simp only[jw,Bool.and_eq_true,decide_eq_true_eq,List.all_eq_true];refine⟨⟨h1,Ad⟩,λx af=>?_⟩;obtain⟨k,hk,rfl⟩:=List.mem_iff_getElem.1 af;rw[AF4] at hk;rw[AJ7];obtain⟨x,af,_,bA⟩:=ab (a.toNat+k) Ad;rw[List.getElem?_cons_succ,List.getElem?_eq_getElem Ad] at af;injection af with af
  rw[af];exact bA Ad
 have U:jx (a :: r)=r.take a.toNat:=by
  unfold jx;rw[if_pos au];rfl
 rw[U];refine⟨au,by rw[Hs];omega,by rw[Hs];simp;omega,λx af=>?_⟩;obtain⟨k,hk,rfl⟩:=List.mem_iff_getElem.1 af;rw[Hs] at hk;rw[AI6];obtain⟨x,af,ak,_⟩:=ab k Ad;rw[List.getElem?_cons_succ,List.getElem?_eq_getElem Ad] at af;injection af with af
 rw[af];exact ak Ad
def arh{s:C_ Scalar}{c:dZ}{l r:C_ Int}{v:Int}(aE:l.length=1+c.cap.toNat)(hL:1<=c.cap)(h:l3 s c l)(aF:(e1 c.scalar c.aV c.U s).aV<=v/\v<=(e1 c.scalar c.aV c.U s).U)(ar:nC l v=some r):l3 s c r:=by
 obtain⟨h1,I,ab,aC⟩:=adP aE hL h;unfold nC at ar;split at ar
 .rename_i cR;injection ar with ar
  subst ar;rw[aE];refine adu hL ?_ λx af=>?_
  .have:=cR.2
   rw[ab,aE] at this;rw[MD,List.length_singleton];omega
  .rcases List.mem_append.1 af with af | af
   .exact aC x af
   .rw[AF2] at af;subst af;exact aF
 .cases ar
def atJ{s:C_ Scalar}{c:dZ}{l r:C_ Int}{v:Int}(aE:l.length=1+c.cap.toNat)(hL:1<=c.cap)(h:l3 s c l)(ar:qv l=some (r,v)):l3 s c r:=by
 obtain⟨h1,I,ab,aC⟩:=adP aE hL h;unfold qv at ar;split at ar
 .cases ar
 .rename_i x q au;injection ar with ar
  injection ar with bF aH
  subst bF;rw[aE];rw[au] at I aC;exact adu hL (by simp only[List.length_cons] at I;omega) λy bE=>aC y (AH5 _ bE)
def MS{m:Model}{s t:C_ Int}{c:Nat}{n:Int}(ay:Fits m s)(aS:c<total (c4 m)\/total (c4 m)+total (dG m)<=c)(h:putAt m s c n=some t):Fits m t:=by
 have e:=Hd h;subst e;refine aj3 ay aS λan=>?_;unfold putAt EN at h;rw[List.getElem?_eq_getElem an] at h;simp only at h;split at h
 .cases h
 .omega
def acO{m:Model}{q:Nat}(j:Nat):total (c4 m)+total (dG m)<=cU m q+j:=by unfold cU;omega
def Xz{m:Model}(aL:ey m){s t:C_ Int}{q p:Nat}{a:Act}(au:fJ m q p)(aY:nG (inner (m.procs[p]'(au.ar)) (ev m)) a)(ay:Fits m s)(h:h0 m s q a=some t):Fits m t:=by
 have yX:=aY.kind;unfold h0 at h;by_cases a1:a.kind=5
 .rw[if_pos a1] at h;have an:a.to.toNat<m.ax.length:=(aY.chan (.inr a1)).2;have hL:=(aL.chan _ (ED an)).cap.1;have dL:(chanOf m s a.to.toNat).length=1+m.ax[a.to.toNat].cap.toNat:=by rw[wz (by rw[ay.len];exact oK an),oL an]
  unfold zr at h;cases ar:qv (chanOf m s a.to.toNat) with
  | none=>rw[ar] at h;cases h
  | some TJ =>
   obtain⟨r,n⟩:=TJ;rw[ar] at h;have Gq:=ay.queue _ an;have e:chanOf m s a.to.toNat=nR m a.to.toNat m.ax[a.to.toNat] s:=by unfold chanOf nR;rw[oL an]
   rw[<-e] at Gq;have vg:=Nr ar;have h1:=Zm ay an hL (by rw[vg,dL,oL an]) (atJ dL hL Gq ar);exact MS h1 (.inr (by rw[AI2];exact acO _)) h
 rw[if_neg a1] at h;by_cases he:(eval a.value (cW m s q)).2≠0
 .rw[if_pos he] at h;cases h
 rw[if_neg he] at h;by_cases h1:a.kind=1
 .rw[if_pos h1] at h;obtain⟨_,v,aF,iw⟩:=aY.set h1;obtain⟨hq,dE⟩:=List.getElem?_eq_some_iff.1 aF;have GA:a.to.toNat<m.vars.length:=hq;have n3:=sb GA
  have:cells m.vars[a.to.toNat] m.scalars=1:=by
   have GB:m.vars[a.to.toNat]=v:=dE;rw[GB];unfold cells;rw[if_pos iw]
  exact MS ay (.inl (by rw[this] at n3;omega)) h
 rw[if_neg h1] at h;by_cases I:a.kind=2
 .rw[if_pos I] at h;have hq:a.to.toNat<m.vars.length:=(aY.item I).2.1;have n3:=sb hq;have vg:=q8 hq;unfold xm at h;split at h
  .cases h
  .rename_i aw;exact MS ay (.inl Ad) h
 rw[if_neg I] at h;by_cases ab:a.kind=3
 .rw[if_pos ab] at h;exact MS ay (.inr (by rw[AI2];exact acO _)) h
 rw[if_neg ab] at h;have aC:a.kind=4:=Ad
 have an:a.to.toNat<m.ax.length:=(aY.chan (.inl aC)).2;have hL:=(aL.chan _ (ED an)).cap.1;have dL:(chanOf m s a.to.toNat).length=1+m.ax[a.to.toNat].cap.toNat:=by rw[wz (by rw[ay.len];exact oK an),oL an]
 have qP:wx m a.to.toNat=e1 m.ax[a.to.toNat].scalar m.ax[a.to.toNat].aV m.ax[a.to.toNat].U m.scalars:=by unfold wx;rw[List.getElem?_eq_getElem an]
 unfold vJ at h;rw[qP] at h;split at h
 .cases h
 .rename_i aw;cases ar:nC (chanOf m s a.to.toNat) (eval a.value (cW m s q)).1 with
  | none=>rw[ar] at h;cases h
  | some r =>
   rw[ar] at h;have e:jb s (b7 m a.to.toNat) r=t:=by injection h
   rw[<-e];have Gq:=ay.queue _ an;have aH:chanOf m s a.to.toNat=nR m a.to.toNat m.ax[a.to.toNat] s:=by unfold chanOf nR;rw[oL an]
   rw[<-aH] at Gq;have vg:=MU ar;exact Zm ay an hL (by rw[vg,dL,oL an]) (arh dL hL Gq Ad ar)
end o