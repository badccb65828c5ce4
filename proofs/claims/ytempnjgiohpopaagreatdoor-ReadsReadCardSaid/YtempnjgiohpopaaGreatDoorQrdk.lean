/- Texts joined: ExprF CmdA CmdB CmdQ CmdC ProcI ProcJ ProcK RefP ExprT ExprG ExprH ExprI ExprJ. -/
import Derived.Test.YtempnjgiohpopaaGreatDoorQrdc
import Derived.Test.YtempnjgiohpopaaGreatDoorQrdd
import Derived.Test.YtempnjgiohpopaaGreatDoorQrdh
import Derived.Test.YtempnjgiohpopaaGreatDoorQrdi
import Derived.Test.YtempnjgiohpopaaGreatDoorQrdj
set_option linter.all false
set_option maxRecDepth 8000
set_option maxHeartbeats 4000000
section
set_option linter.unusedSimpArgs false
namespace Go.Proofs.R
open Go Go.RowKit bt
theorem afh(f:o.Node→List Int→Int×Int)(two:o.oH→List Int→Int×Int)(leaf:o.Node→List Int→Int×Int)(aN:K7 f two leaf)(cX:Int→Prop)
  (b:Nat)(w0 w:World)(FG:Ext w0 w)(wB:w0.heap.size≤b)(hs k7 v2:Value)(e:List o.Node)(he:o.fG w0 hs e)(aD:w.heap[b]? = some (.cells #[.slice none 0 0,.map none] T.ac))
  (Bx:∀x st,x.ok→(∀z∈st,cX z)→0≤o.eK x.op→o.eK x.op≤st.length→(f x st).2=0→cX (f x st).1)
  (Jf:∀x st base m w',x.ok→Mod (fun k=>k=b) w w'→qa base b w' m st→(∀z∈st,cX z)→0≤o.eK x.op→o.eK x.op≤st.length→o.fX x.op=none→∀av c6 t,Ext w' av →
   (∀bZ,Ext av bZ→c6 (.tuple #[.int .i64 (leaf x st).1,.int .i64 (leaf x st).2]) bZ)→vv Tryz.prog k7 [.agg x.enc.toArray] av c6 t)
  (JE:∀au e1 fQ l w' c6 t,Mod (fun k=>k=b) w w'→Ai w' au e1→(∃x,o.fX x=some au)→au.parts=l.length→Ints w' fQ l →
   (∀bZ,Ext w' bZ→c6 (.tuple #[.int .i64 (two au l).1,.int .i64 (two au l).2]) bZ)→tO Tryz.prog v2 [e1,fQ] w' c6 t) :
  bu Tryz.prog F.AI #[.pointer (some ⟨b,0,none⟩),hs,k7,v2] w fun v w' =>
   v = .tuple #[.int .i64 (o.jU f e).1,.int .i64 (o.jU f e).2]∧Mod (fun k=>k=b) w w':=by
 obtain⟨bl,cap,rfl,hlen⟩:=he.form;refine bM E.AI ?_;refine bF ?_;refine aH ?_;apply K.cond<;>intro g1
 ·refine aH ?_;rw[o.jU,if_pos (by omega)];exact⟨rfl,Mod.refl _ _⟩
 refine aH ?_;apply K.cond<;>intro g2
 ·refine aH ?_;rw[o.jU,if_neg (by omega),if_pos (by omega)];exact⟨rfl,Mod.refl _ _⟩
 refine aH ?_;refine K.call (adK w) ?_;rintro m av ⟨BP,aA⟩;refine aH ?_;refine K.st1 (aA.obj aD) (by decide) (by obtain⟨r,_,_,_,e,_⟩:=BP;rw[e];rfl) fun aT rJ aM=>?_;have Bo:aT.heap[b]? = some (.cells #[.slice none 0 0,m] T.ac):=aM;clear aM;have aaR:oI aT m:=BP.mod (A:=fun k=>k=b) (rJ.mod rfl) fun k au h1 U hk=>by
  subst hk;rw[aA.obj aD] at h1;injection h1 with h1
  rcases U with ⟨es,c,U⟩ | ⟨cs,U⟩
  ·rw[U] at h1;cases h1
  ·rw[U] at h1;injection h1 with _ h1
   cases h1
 have Rw:Mod (fun k=>k=b) w aT:=aA.mod.trans (rJ.mod rfl);have cq:b<aT.heap.size:=cM Bo;refine aH ?_;refine K.yz 27 e.length (fun k S w'=>Mod (fun k=>k=b) aT w'∧∃st,o.eL f (e.take k) []=(0,st)∧qa aT.heap.size b w' m st∧(0<k→1≤st.length)∧st.length≤12∧∀z∈st,cX z)
  (by simp -dsimp only[cJ,cw,Nat.reduceAdd,Nat.reduceEqDiff,reduceIte,reduceCtorEq,cU]) ⟨Mod.refl _ _,[],by simp[o.eL],⟨⟨_,Bo,bs.nil _ _ _ _ _⟩,cq,Nat.le_refl _⟩,by simp,by simp,by simp⟩ ?_
 rintro k S bf ck hk mz ⟨sW,st,gC,BJ,Ba,pG,uH⟩;have aj:=ck 0 rfl;have h1:=ck 1 rfl;have U:=ck 2 rfl;have ag:=ck 3 rfl;have rp:=ck 25 rfl;have lp:=ck 26 rfl;simp only[cd,Nat.reduceAdd,Nat.reduceEqDiff,reduceIte,iC,ln] at aj h1 U ag rp lp;clear ck;have Fw:Mod (fun k=>k=b) w bf:=Rw.trans sW;refine cY (And.intro aj (And.intro h1 (And.intro U (And.intro ag (And.intro rp (And.intro lp mz)))))) ?_;apply K.cond<;>intro g3
 ·have bh:k<e.length:=by omega
  have ahv:Ext w0 bf:=Fw.ext FG fun q aB e=>by omega
  obtain⟨a,rfl⟩:=he.addr (by omega);have rL:=(he.at k bh).ok;have jj:=fun aj=>o.KU (f:=f) (e:=e) (by omega) bh gC aj;have rG:=o.vj bh gC;have aaS:oI bf m:=aaR.mod (A:=fun k=>k=b) sW fun k au h1 U hk=>by
   subst hk;rw[Bo] at h1;injection h1 with h1
   rcases U with ⟨es,c,U⟩ | ⟨cs,U⟩
   ·rw[U] at h1;cases h1
   ·rw[U] at h1;injection h1 with _ h1
    cases h1
  refine cY (And.intro aj (And.intro h1 (And.intro U (And.intro ag (And.intro rp (And.intro lp mz)))))) ?_;generalize ar:e[k]=x at *;refine K.rS (vs:=x.enc) (fun _=>by simp -dsimp only[cJ,cw,Nat.reduceAdd,Nat.reduceEqDiff,reduceIte,reduceCtorEq,cU]) rfl rfl (by simp[o.Node.enc,Value.oneCell']) fun bq cO fo aR bI=>?_;refine cY (And.intro aj (And.intro h1 (And.intro U (And.intro ag (And.intro rp (And.intro lp mz)))))) ?_;refine K.gm (c:=x.enc) bI (Ext.refl _) rfl ?_;refine cY (And.intro aj (And.intro h1 (And.intro U (And.intro ag (And.intro rp (And.intro lp mz)))))) ?_;have Jh:Mod (fun k=>k=b) w bq:=Fw.trans aR.mod;refine K.call (afZ f two leaf aN x aT.heap.size b bq m k7 v2 st (BJ.ext aR) (aaS.ext aR) (by omega)
   (fun dO dP eg w' c6 t B1 hk=>Jf x st _ m bq rL Jh (BJ.ext aR) uH dO dP eg w' c6 t B1 hk)
   (fun au e1 fQ w' c6 t B1 dO dP eg gR hk=>JE au e1 fQ _ w' c6 t (Jh.trans B1.mod) dP ⟨_,dO⟩ (by have:=Td dO;simp[List.length_drop];omega) gR hk)) ?_
  rintro _ bS ⟨rfl,qD,RU⟩;have aaI:Mod (fun k=>k=b) w bS:=Jh.then qD fun i ad h=>by
   rcases h with h | h
   ·exact h
   ·have:=Rw.size;omega
  refine cY (And.intro aj (And.intro h1 (And.intro U (And.intro ag (And.intro rp (And.intro lp mz)))))) ?_;apply K.cond<;>intro g4;rotate_left
  ·refine cY (And.intro aj (And.intro h1 (And.intro U (And.intro ag (And.intro rp (And.intro lp mz)))))) ?_;rw[jj g4];exact⟨bw,aaI⟩
  have BI:=o.afY g4;have aar:∀z∈(o.stepG f x st).2,cX z:=by
   have a8:=Bx x st rL uH;clear jj rG BI RU;unfold o.stepG at g4 ⊢;by_cases dO:o.eK x.op<0
   ·rw[if_pos dO] at g4;cases g4
   by_cases dP:(st.length:Int)<o.eK x.op
   ·rw[if_neg dO,if_pos dP] at g4;cases g4
   by_cases eg:(f x st).2≠0
   ·rw[if_neg dO,if_neg dP,if_pos eg] at g4;exact absurd g4 eg
   by_cases gR:(st.take (st.length - (o.eK x.op).toNat)++[(f x st).1]).length > 12
   ·rw[if_neg dO,if_neg dP,if_neg eg,if_pos gR] at g4;cases g4
   rw[if_neg dO,if_neg dP,if_neg eg,if_neg gR];intro z bU;rcases List.mem_append.1 bU with bU | bU
   ·exact uH z (List.mem_of_mem_take bU)
   ·simp at bU;subst bU;exact a8 (by omega) (by omega) (by simpa using eg)
  refine cY (And.intro aj (And.intro h1 (And.intro U (And.intro ag (And.intro rp (And.intro lp mz)))))) ?_;refine⟨bh,bw,?_,(o.stepG f x st).2,?_,RU g4,fun _=>BI.1,BI.2,aar⟩
  ·refine(sW.trans aR.mod).then qD fun i ad h=>?_;rcases h with h | h
   ·exact h
   ·omega
  ·rw[rG];exact Prod.ext g4 rfl
 ·have bh:k=e.length:=by omega
  subst bh;rw[List.take_length] at gC;obtain⟨xx,c7,fI⟩:=BJ.ex;obtain⟨jI,nJ,rfl,Br,gB⟩:=fI.form;have ad:Ints bf _ st:=bs.rZ (enc:=encI) (sz:=1) (fun _=>rfl) fI;have h1:=Ba (by omega);obtain⟨a,rfl⟩:=ad.addr h1;have e9:o.jU f e=if st.length > 1 then (0,5) else (st.headD 0,0):=by
   rw[o.jU,if_neg (by omega),if_neg (by omega),gC,if_neg (by simp)]
  rw[e9];clear e9;refine cY (And.intro aj (And.intro h1 (And.intro U (And.intro ag (And.intro rp (And.intro lp mz)))))) ?_;apply K.cond<;>intro g4
  ·refine aH ?_;rw[if_pos (by omega)];exact⟨rfl,Fw⟩
  ·refine cY (And.intro aj (And.intro h1 (And.intro U (And.intro ag (And.intro rp (And.intro lp mz)))))) ?_;refine K.dk 0 rfl (by omega) ?_;refine aH ?_;rw[if_neg (by omega)]
   have:st.headD 0=st[0]:=by
    cases st with
    | nil=>simp at h1
    | cons z st=>rfl
   rw[this];exact⟨bw,Fw⟩
theorem ack(au:o.oH)(u fQ:Value)(l:List Int)(w:World)(aP:Ints w fQ l) :
  bu Tryz.prog F.d7 #[.agg #[.int .i64 au.parts,.int .i64 au.il,.int .i64 au.makes,u],fQ] w fun v w'=>v = .tuple #[.int .i64 (o.l9 au l).1,.int .i64 (o.l9 au l).2]∧Ext w w':=by
 obtain⟨bl,cap,rfl,hlen⟩:=aP.form;refine bM E.d7 ?_;refine bF ?_;refine aH ?_;refine K.new fun av b aD aA aq=>?_;refine aH ?_;refine K.yz 10 l.length (fun k S w'=>w'=av∧(l.take k).all (fun k=>(decide (au.il = -1)||decide (k=au.il))&&decide (k=l.headD 0))=true) (by simp -dsimp only[cJ,cw,Nat.reduceAdd,Nat.reduceEqDiff,reduceIte,reduceCtorEq,cU]) ⟨rfl,by simp⟩ ?_;rintro k S aT ck hk jg ⟨rfl,c9⟩;have h1:=ck 1 rfl;have U:=ck 2 rfl;have dD:=ck 8 rfl;have hS:=ck 9 rfl;simp only[cd,Nat.reduceAdd,Nat.reduceEqDiff,reduceIte,iC,ln] at h1 U dD hS;clear ck;refine cY (And.intro h1 (And.intro U (And.intro dD (And.intro hS jg)))) ?_;apply K.cond<;>intro g1;rotate_left
 ·rw[List.take_of_length_le (by omega)] at c9;refine cY (And.intro h1 (And.intro U (And.intro dD (And.intro hS jg)))) ?_;rw[o.l9,if_pos c9];exact cg
 have bh:k<l.length:=by omega
 obtain⟨a,rfl⟩:=aP.addr (by omega);have BX:l.take (k+1)=l.take k++[l[k]]:=List.take_succ_eq_append_getElem bh;have wz:=List.all_append (xs:=l.take (k+1)) (ys:=l.drop (k+1)) (f:=fun k=>(decide (au.il = -1)||decide (k=au.il))&&decide (k=l.headD 0));rw[List.take_append_drop,BX,List.all_append] at wz;have aj:l.headD 0=l[0]:=by
  cases l with
  | nil=>simp at bh
  | cons z l=>rfl
 have QD:((decide (au.il = -1)||decide (l[k]=au.il))&&decide (l[k]=l.headD 0))=false→o.l9 au l=(0,9):=by
  intro h;rw[o.l9,if_neg (by rw[wz];simp only[List.all_cons,List.all_nil,h];simp)]
 have Bx:((decide (au.il = -1)||decide (l[k]=au.il))&&decide (l[k]=l.headD 0))=true→(l.take (k+1)).all (fun k=>(decide (au.il = -1)||decide (k=au.il))&&decide (k=l.headD 0))=true:=by
  intro h;rw[BX,List.all_append,c9];simp only[List.all_cons,List.all_nil,h];rfl
 rw[aj] at QD;clear wz;have aO:0<l.length:=by omega
 have n2:Ints aT (.slice (some a) l.length cap) l:=aP.ext aA;have Fo:=Bx;rw[aj] at Bx c9
 (repeat' first
 | (refine K.cond (fun _=>?_) (fun _=>?_)<;>try (exfalso;omega))
 | (refine K.c4 (fun _=>?_) (fun _=>?_))
 | assumption
 | exact Ext.refl _
 | refine Ext.trans ?_ (by assumption)
 | refine K.wrap (by omega) ?_
 | refine K.rO (by assumption) ?_ rfl ?_
 | refine K.pQ (by assumption) ?_ rfl ?_
 | refine K.tg (by assumption) ?_ (by omega) rfl ?_
 | refine K.th (by assumption) ?_ (by omega) rfl ?_
 | refine K.tf (by assumption) ?_ (by omega) rfl ?_
 | refine K.s9 (by omega) ?_
 | refine K.su (by first | assumption | omega) ?_
 | refine K.ss (by first | assumption | omega) ?_
 | refine K.qs (by assumption) ?_
 | refine K.qq (by assumption) ?_
 | simp -dsimp only[cJ,cw,Nat.reduceAdd,Nat.reduceEqDiff,reduceIte,reduceCtorEq,cU,h1,U,dD,hS,jg])
 all_goals first
  | (have c7:=QD (by simp;omega);rw[c7];refine⟨bw,aA⟩)
  | (refine⟨by omega,bw,trivial,?_⟩;rw[aj];exact Bx (by simp;omega))
theorem ab8(x:o.Node)(cs:List Value)(s:o.Scope)(base b pm db:Nat)(w:World)(m:Value)(st:List Int)(af9:TypeId)(ar:x.ok)(h:o.e6 w cs s)(hm:qa base b w m st)(ag:x.op=3→0<st.length)
  (RI:w.heap[pm]? = some (.cells #[.pointer (some ⟨b,0,none⟩)] af9))(uQ:w.heap[db]? = some (.cells cs.toArray T.d)) :
  bu Tryz.prog F.d5 #[.agg x.enc.toArray,.pointer (some ⟨pm,0,none⟩),.pointer (some ⟨db,0,none⟩)] w fun v w' =>
   v = .tuple #[.int .i64 (o.ie x s (st.getLastD 0)).1,.int .i64 (o.ie x s (st.getLastD 0)).2]∧Ext w w':=by
 obtain⟨v0,v1,v2,v3,v4,rfl,_⟩:=h.ex;refine bM E.d5 ?_;refine bF ?_;refine aH ?_;refine K.new fun av bC cL aA aq=>?_;have ez:av.heap[bC]? = some (.cells x.enc.toArray T.k):=aq;refine aH ?_;refine K.gm (c:=x.enc) ez (Ext.refl _) rfl ?_;refine aH ?_;refine K.gm uQ aA rfl ?_;refine aH ?_;refine K.call (acb x _ s base b av m st ar (h.ext aA) (hm.ext aA) ag) ?_;rintro _ aT ⟨rfl,aC⟩;refine aH ?_;exact cg
theorem YE(s:o.Scope):K7 (o.fO s) o.l9 fun x st=>o.ie x s (st.getLastD 0):=fun _ _=>rfl
theorem Ss(hs:Value)(e:List o.Node)(cs:List Value)(s:o.Scope)(w:World)(he:o.fG w hs e)(h:o.e6 w cs s) :
  bu Tryz.prog F.x8 #[hs,.agg cs.toArray] w fun v w'=>v = .tuple #[.int .i64 (o.kind e s).1,.int .i64 (o.kind e s).2]∧Ext w w':=by
 obtain⟨v0,v1,v2,v3,v4,rfl,_⟩:=h.ex;refine bM E.x8 ?_;refine bF ?_;refine aH ?_;refine K.new fun av db uQ aA aq=>?_;refine aH ?_;refine K.cF (cs:=[.slice none 0 0,.map none]) (by simp[ew]) ?_;refine aH ?_;refine K.new fun aT b aD aC aM=>?_;refine aH ?_;refine K.new fun bf pm RI aw bK=>?_;refine aH ?_;refine K.r0 bK (by decide) rfl fun bq ee bI=>?_;have ZS:bq.heap[pm]? = some (.cells #[.pointer (some ⟨b,0,none⟩)] T.rf):=bI;have aR:Ext aT bq:=ee.ext aw RI;have RL:=cM aM;have aij:=cM aq;have I1:Ext w bq:=(aA.trans aC).trans aR;clear bI ee aw bK;have fo:=aR.obj aM;have l6:=aR.obj (aC.obj aq);have fE:=aA.size;refine aH ?_;refine K.call (afh (o.fO s) o.l9 (fun x st=>o.ie x s (st.getLastD 0)) (YE s) (fun _=>True) b w bq I1 (by omega) hs _ _ e he fo (fun _ _ _ _ _ _ _=>trivial) ?_ ?_) ?_
 ·intro x st base m w' ar hm BJ _ dO dP eg agB c6 t oe hk;refine K.pC (first:=[]) (cap:=[.pointer (some ⟨pm,0,none⟩),.pointer (some ⟨db,0,none⟩)]) (by kernel_rfl)
   (ab8 x _ s base b pm db agB m st _ ar (h.ext ((hm.ext I1 (by intro k hk e;omega)).trans oe)) (BJ.ext oe) ?_ (oe.obj (hm.obj (by omega) ZS)) (oe.obj (hm.obj (by omega) l6))) fun v bZ ⟨h1,U⟩=>by subst h1;exact hk bZ U
  intro ag
  have:o.eK x.op=1:=by rw[ag];rfl
  omega
 ·rintro au e1 fQ l w' c6 t hm ⟨u,rfl,br⟩ _ aP ad hk;exact K.WU (first:=[]) (cap:=[]) (by kernel_rfl) (ack au u fQ l w' ad) fun v bZ ⟨h1,U⟩=>by subst h1;exact hk bZ U
 rintro _ bS ⟨rfl,qD⟩;have bj:Ext w bS:=qD.ext I1 (by intro k hk e;omega);refine aH ?_;exact cg
end Go.Proofs.R
end
section
namespace o
open Go Go.RowKit bt
def Mh(v:Value):Option (Var×Int)→Prop
 | some q=>v = .tuple #[.agg q.1.enc.toArray,.int .i64 q.2,.bool true]
 | none => ∃(x:Var) (k:Int),v = .tuple #[.agg x.enc.toArray,.int .i64 k,.bool false]
end o
namespace Go.Proofs.R
open Go Go.RowKit bt
theorem Pk(a b:Int)(cs:List Value)(s:o.Scope)(w:World)(h:o.e6 w cs s) :
  bu Tryz.prog F.vZ #[.int .i64 a,.int .i64 b,.agg cs.toArray] w fun v w'=>v = .tuple #[.int .i64 (o.jV a b s).1,.bool (o.jV a b s).2]∧Ext w w':=by
 obtain⟨a0,bO,dy,c1,a2,c2,a3,bN,a4,bT,rfl,aj,h1,U,ag,aK,eG,du,dF,dV,eo⟩:=h.form;refine bM E.vZ ?_;refine bF ?_;refine aa ?_;intro av b aD aA aq;refine aa ?_
 (repeat' (refine aH ?_;first | (refine K.cond (fun _=>?_) (fun _=>?_)<;>try (exfalso;omega)) | refine K.c4 (fun _=>?_) (fun _=>?_)))<;>try refine aH ?_
 all_goals
  refine⟨?_,fj⟩;unfold o.jV
  (repeat' split)<;>first | rfl | (exfalso;omega)
theorem Pq(v:Value)(l:List o.Var)(n:Int)(cs:List Value)(s:o.Scope)(w:World)(aP:o.gJ w v l)(h:o.e6 w cs s) :
  bu Tryz.prog F.re #[v,.int .i64 n,.agg cs.toArray] w fun v w'=>o.Mh v (o.declared l n s)∧Ext w w':=by
 obtain⟨v0,v1,v2,v3,v4,rfl,_⟩:=h.ex;obtain⟨bl,cap,rfl,hlen⟩:=aP.form;refine bM E.re ?_;refine bF ?_;refine aa ?_;intro av bC cL aA aq;refine aa ?_;intro aT ca dB aC aM;have he:=aA.trans aC;refine aa ?_;apply K.cond<;>intro g1
 ·refine aa ?_;intro bf eZ bK;refine aa ?_;rw[o.declared,o.gQ (.inl g1)];exact⟨⟨(⟨⟨#[]⟩,0,0,0,0,0⟩:o.Var),0,rfl⟩,eZ.ext he (by have:=aA.size;omega)⟩
 refine aa ?_;apply K.cond<;>intro g2
 ·refine aa ?_;intro bf eZ bK;refine aa ?_;rw[o.declared,o.gQ (.inr (by omega))];exact⟨⟨(⟨⟨#[]⟩,0,0,0,0,0⟩:o.Var),0,rfl⟩,eZ.ext he (by have:=aA.size;omega)⟩
 obtain⟨i,rfl⟩:=Int.eq_ofNat_of_zero_le (show 0≤n by omega);have ad:i<l.length:=by omega
 rw[o.declared,o.hX (by omega) (by omega)];simp only[Int.toNat_natCast];obtain⟨a,rfl⟩:=aP.addr (by omega);refine aa ?_;refine K.gn _ (fun w' e=>Pk _ _ _ s w' (h.ext (he.trans e))) ?_;refine aa ?_;intro bf aw;have aM:=aw.obj aM;refine aa ?_;intro bq ee bI;refine aa ?_;refine⟨?_,ee.ext (he.trans aw) (by have:=aA.size;omega)⟩;by_cases aD:(o.jV l[i].scalar l[i].over s).2=true
 ·rw[if_pos aD,aD];rfl
 ·rw[if_neg aD,Bool.eq_false_iff.2 aD];exact⟨_,_,rfl⟩
theorem Xl(n:Int)(cs:List Value)(s:o.Scope)(w:World)(h:o.e6 w cs s) :
  bu Tryz.prog F.yo #[.int .i64 n,.agg cs.toArray] w fun v w'=>v = .tuple #[.int .i64 ((o.channel n s).getD 0),.bool (o.channel n s).isSome]∧Ext w w':=by
 obtain⟨a0,bO,dy,c1,a2,c2,a3,bN,a4,bT,rfl,aj,h1,U,ag,aK,eG,du,dF,dV,eo⟩:=h.form;refine bM E.yo ?_;refine bF ?_;refine aa ?_;intro av bC cL aA aq;refine aa ?_;apply K.cond<;>intro g1
 ·refine aa ?_;rw[o.channel,o.gQ (.inl g1)];exact cg
 refine aa ?_;apply K.cond<;>intro g2
 ·refine aa ?_;rw[o.channel,o.gQ (.inr (by omega))];exact cg
 obtain⟨i,rfl⟩:=Int.eq_ofNat_of_zero_le (show 0≤n by omega);have ad:i<s.aJ.length:=by omega
 rw[o.channel,o.hX (by omega) (by omega)];simp only[Int.toNat_natCast];obtain⟨a,rfl⟩:=U.addr (by omega);refine aa ?_;refine K.gn _ (fun w' e=>Pk _ _ _ s w' (h.ext (aA.trans e))) ?_;refine aa ?_;intro aT aC;refine aa ?_;refine⟨?_,fj⟩;by_cases aD:(o.jV s.aJ[i].scalar 0 s).2=true
 ·rw[if_pos aD,aD];rfl
 ·rw[if_neg aD,Bool.eq_false_iff.2 aD];rw[o.af7 (Bool.eq_false_iff.2 aD)];rfl
theorem Hj(hs:Value)(e:List o.Node)(k:Int)(cs:List Value)(s:o.Scope)(w:World)(aI:o.fG w hs e)(h:o.e6 w cs s) :
  bu Tryz.prog F.oR #[hs,.int .i64 k,.agg cs.toArray] w fun v w'=>v = .int .i64 (o.asked e k s)∧Ext w w':=by
 obtain⟨v0,v1,v2,v3,v4,rfl,_⟩:=h.ex;refine bM E.oR ?_;refine bF ?_;refine aa ?_;intro av bC cL aA aq;refine aa ?_;refine K.call (Ss hs e _ s av (aI.ext aA) (h.ext aA)) ?_;rintro _ aT ⟨rfl,aC⟩;refine aa ?_;rw[o.asked];apply K.cond<;>intro g1
 ·rw[if_neg (by simpa using g1)];refine aa ?_;apply K.cond<;>intro g2
  ·refine aa ?_;rw[if_neg (by simpa using g2)];exact cg
  refine aa ?_;rw[if_pos g2];exact cg
 refine aa ?_;rw[if_pos g1];exact cg
theorem UM(a:o.Act)(cr ct:Value)(w:World):bu Tryz.prog F.kU #[.agg (a.enc cr ct).toArray] w fun v w'=>v = .bool (o.gh a)∧Ext w w':=by
 refine bM E.kU ?_;refine bF ?_;refine aa ?_;intro av bC cL aA aq;refine aa ?_;rw[o.gh];apply K.cond<;>intro g1
 ·refine aa ?_;refine⟨?_,fj⟩;congr 1;simp[g1]
 refine aa ?_;refine⟨?_,fj⟩;congr 1;simp[g1]
theorem aeF(a:o.Act)(cr ct:Value)(k:Int)(cs:List Value)(s:o.Scope)(w:World)(h:o.e6 w cs s) :
  bu Tryz.prog F.A5 #[.agg (a.enc cr ct).toArray,.int .i64 k,.agg cs.toArray] w fun v w'=>v = .int .i64 (o.C9 a k s)∧Ext w w':=by
 obtain⟨v0,v1,v2,v3,v4,rfl,aj,h1,U,ag,aK,_⟩:=h.ex;refine bM E.A5 ?_;refine bF ?_;refine aa ?_;intro av bC cL aA aq;refine aa ?_;intro aT ca dB aC aM;have he:=aA.trans aC;refine aa ?_;refine K.call (Pq v4 s.locals a.loc _ s aT (aK.ext he) (h.ext he)) ?_;rintro q bf ⟨aB,aw⟩;rw[o.C9];cases br:o.declared s.locals a.loc s with
 | none =>
  rw[br] at aB;obtain⟨x,k',rfl⟩:=aB;refine aa ?_;intro bq cO fo aR bI;refine aa ?_;exact cg
 | some q =>
  obtain⟨x,k'⟩:=q;rw[br] at aB;subst aB;refine aa ?_;intro bq cO fo aR bI;refine aa ?_;apply K.cond<;>intro g1
  ·refine aa ?_;apply K.cond<;>intro g2
   ·refine aa ?_;simp only[g1,g2,ne_eq,not_true_eq_false,or_self,if_false];exact cg
   refine aa ?_;simp only[g2,ne_eq,not_false_eq_true,or_true,if_true];exact cg
  refine aa ?_;simp only[g1,ne_eq,not_false_eq_true,true_or,if_true];exact cg
end Go.Proofs.R
end
section
namespace o
open Go Go.RowKit bt
theorem Hf{s:Scope}{l:List Act}{k:Nat}{t:Bool}(h:k<l.length) :
  jv s (l.drop k) k t=if gh l[k]&&t then (2+(k:Int),7) else if jb l[k] s≠0 then (2+(k:Int),jb l[k] s) else jv s (l.drop (k+1)) (k+1) (t||gh l[k]):=by
 rw[List.drop_eq_getElem_cons h];rfl
end o
namespace Go.Proofs.R
open Go Go.RowKit bt
theorem Hd(k:Int)(a:o.Act)(cr ct:Value)(cs:List Value)(s:o.Scope)(w:World)(bC ca:Nat)(cL:w.heap[bC]? = some (.cells (a.enc cr ct).toArray T.n))(dB:w.heap[ca]? = some (.cells cs.toArray T.d))
  (aS:o.fG w ct a.value)(h:o.e6 w cs s) :
  bu Tryz.prog F.bb #[.int .i64 k,.pointer (some ⟨bC,0,none⟩),.pointer (some ⟨ca,0,none⟩)] w fun v w'=>v = .int .i64 (o.asked a.value k s)∧Ext w w':=by
 obtain⟨v0,v1,v2,v3,v4,rfl,_⟩:=h.ex;refine bM E.bb ?_;refine bF ?_;refine aa ?_;refine K.call (Hj ct a.value k _ s w aS h) ?_;rintro _ aT ⟨rfl,aC⟩;refine aa ?_;exact cg
theorem VV(a:o.Act)(cr ct:Value)(cs:List Value)(s:o.Scope)(w:World)(ad:o.fG w cr a.index)(aS:o.fG w ct a.value)(h:o.e6 w cs s) :
  bu Tryz.prog F.wb #[.agg (a.enc cr ct).toArray,.agg cs.toArray] w fun v w'=>v = .int .i64 (o.jb a s)∧Ext w w':=by
 obtain⟨v0,v1,v2,v3,v4,rfl,aj,h1,U,ag,aK,eG⟩:=h.ex;refine bM E.wb ?_;refine bF ?_;refine aa ?_;intro av bC cL aA aq;refine aa ?_;intro aT ca dB aC aM;have he:=aA.trans aC;have aq:=aC.obj aq;by_cases q:a.kind=1∨a.kind=2∨a.kind=3
 ·rw[o.jb,if_pos q];generalize dE:(if a.kind=3 then s.locals else s.vars)=L;have QM:∀k7 n,k7=(if a.kind=3 then v4 else v1)→bu Tryz.prog F.re #[k7,.int .i64 n,.agg #[v0,v1,v2,v3,v4,.int .i64 s.self]] aT fun v w'=>o.Mh v (o.declared L n s)∧Ext aT w':=by
   rintro k7 n rfl;refine Pq _ L n _ s aT ?_ (h.ext he);rw[←dE];split
   ·exact aK.ext he
   ·exact h1.ext he
  by_cases pf:a.kind=2
  ·refine aa ?_;refine K.call (QM _ _ (by simp[pf])) ?_;rintro u bf ⟨aB,aw⟩;have aq:=aw.obj aq;have aM:=aw.obj aM;have sM:=he.trans aw;cases br:o.declared L a.to s with
   | none =>
    rw[br] at aB;obtain⟨x,k',rfl⟩:=aB;refine aa ?_;intro bq cO fo aR bI;refine aa ?_;exact cg
   | some u =>
    obtain⟨x,k'⟩:=u;rw[br] at aB;subst aB;have Jo:=o.XM br;simp only at Jo;refine aa ?_;intro bq cO fo aR bI;have aq:=aR.obj aq;have aM:=aR.obj aM;have nT:=sM.trans aR;refine aa ?_;refine K.S8 (by kernel_rfl) ?_;refine aa ?_;by_cases dP:x.over=0
    ·refine K.qs (by simp[pf,dP]) ?_;refine aa ?_;exact⟨by simp[pf,dP],fj⟩
    refine K.qq (by simp[pf,dP]) ?_;refine aa ?_;refine K.call (Hj cr a.index _ _ s bq (ad.ext nT) (h.ext nT)) ?_;rintro _ bS ⟨rfl,bj⟩;have aq:=bj.obj aq;have aM:=bj.obj aM;have Ff:=nT.trans bj;refine aa ?_;refine K.cond (fun eg=>?_) (fun eg=>?_)
    ·refine aa ?_;refine K.pC (first:=[]) (cap:=[_,_]) (by kernel_rfl) (Hd k' a cr ct _ s bS bC ca aq aM (aS.ext Ff) (h.ext Ff)) ?_;rintro _ bX ⟨rfl,bk⟩;refine aa ?_;exact⟨by simp[pf,dP,eg],fj⟩
    ·refine aa ?_;exact⟨by simp[pf,dP,eg],fj⟩
  have rV:a.kind=1∨a.kind=3:=by omega
  clear q;rcases rV with q | q
  all_goals
   refine aa ?_;refine K.call (QM _ _ (by simp[q])) ?_;rintro u bf ⟨aB,aw⟩;have aq:=aw.obj aq;have aM:=aw.obj aM;have sM:=he.trans aw;cases br:o.declared L a.to s with
   | none =>
    rw[br] at aB;obtain⟨x,k',rfl⟩:=aB;refine aa ?_;intro bq cO fo aR bI;refine aa ?_;exact cg
   | some u =>
    obtain⟨x,k'⟩:=u;rw[br] at aB;subst aB;refine aa ?_;intro bq cO fo aR bI;have aq:=aR.obj aq;have aM:=aR.obj aM;have nT:=sM.trans aR;refine aa ?_;refine K.S8 (by kernel_rfl) ?_;refine aa ?_;by_cases dP:x.over=0
    ·refine K.qq (by simp[q,dP]) ?_;refine aa ?_;refine K.pC (first:=[]) (cap:=[_,_]) (by kernel_rfl) (Hd k' a cr ct _ s bq bC ca aq aM (aS.ext nT) (h.ext nT)) ?_;rintro _ bX ⟨rfl,bk⟩;refine aa ?_;exact⟨by simp[q,dP],fj⟩
    ·refine K.qs (by simp[q,dP]) ?_;refine aa ?_;exact⟨by simp[q,dP],fj⟩
 by_cases gR:a.kind=4∨a.kind=5
 ·rw[o.jb,if_neg q,if_pos gR];have KA:a.kind≠3:=by omega
  have C2:a.kind≠1:=by omega
  have aei:a.kind≠2:=by omega
  have step:∀(w':World),Ext aT w'→bu Tryz.prog F.yo #[.int .i64 a.to,.agg #[v0,v1,v2,v3,v4,.int .i64 s.self]] w' fun v bZ=>v = .tuple #[.int .i64 ((o.channel a.to s).getD 0),.bool (o.channel a.to s).isSome]∧Ext w' bZ :=
   fun w' e=>Xl a.to _ s w' (h.ext (he.trans e))
  rcases gR with gR | gR
  ·refine aa ?_;refine K.call (step aT (Ext.refl _)) ?_;rintro _ bf ⟨rfl,aw⟩;have aq:=aw.obj aq;have aM:=aw.obj aM;have sM:=he.trans aw;cases br:o.channel a.to s with
   | none =>
    simp only[Option.isSome_none,Option.getD_none];refine aa ?_;exact cg
   | some k =>
    simp only[Option.isSome_some,Option.getD_some];refine aa ?_;refine K.pC (first:=[]) (cap:=[_,_]) (by kernel_rfl) (Hd k a cr ct _ s bf bC ca aq aM (aS.ext sM) (h.ext sM)) ?_;rintro _ bX ⟨rfl,bk⟩;refine aa ?_;exact⟨by simp[gR],fj⟩
  ·refine aa ?_;refine K.call (step aT (Ext.refl _)) ?_;rintro _ bf ⟨rfl,aw⟩;have aq:=aw.obj aq;have aM:=aw.obj aM;have sM:=he.trans aw;cases br:o.channel a.to s with
   | none =>
    simp only[Option.isSome_none,Option.getD_none];refine aa ?_;exact cg
   | some k =>
    simp only[Option.isSome_some,Option.getD_some];refine aa ?_;refine K.call (aeF a cr ct k _ s bf (h.ext sM)) ?_;rintro _ bX ⟨rfl,bk⟩;refine aa ?_;exact⟨by simp[gR],fj⟩
 rw[o.jb,if_neg q,if_neg gR];have KA:a.kind≠3:=by omega
 have C2:a.kind≠1:=by omega
 have aei:a.kind≠2:=by omega
 have aef:a.kind≠4:=by omega
 have aeg:a.kind≠5:=by omega
 refine aa ?_;exact cg
end Go.Proofs.R
end
section
namespace o
open Go
theorem aag{c:dG}{n:Int}(h:head c n=0):isName c.name=true∧0≤c.from_∧c.from_<n∧0≤c.to∧c.to<n∧c.b4.length≤6:=by
 unfold head at h;by_cases h1:isName c.name=false
 ·rw[if_pos h1] at h;cases h
 rw[if_neg h1] at h;by_cases U:c.from_<0∨n≤c.from_∨c.to<0∨n≤c.to
 ·rw[if_pos U] at h;cases h
 rw[if_neg U] at h;by_cases ag:c.b4.length > 6
 ·rw[if_pos ag] at h;cases h
 exact⟨by simpa using h1,by omega,by omega,by omega,by omega,by omega⟩
end o
end
section
namespace o
open Go Go.RowKit bt
theorem XG{l:List Act}{k:Nat}(h:k<l.length):comm (l.drop k)=if gh l[k] then (l[k].kind,l[k].to) else comm (l.drop (k+1)):=by
 rw[List.drop_eq_getElem_cons h];rfl
end o
namespace Go.Proofs.R
open Go Go.RowKit bt
theorem Q2(n:Int)(p:o.dj)(nu pd:Value)(w:World)(b:Nat)(aD:w.heap[b]? = some (.cells (p.enc nu pd).toArray T.g)) :
  bu Tryz.prog F.A4 #[.int .i64 n,.pointer (some ⟨b,0,none⟩)] w fun v w'=>v = .bool (decide (n<0∨p.cz≤n))∧w'=w:=by
 refine bM E.A4 ?_;refine bF ?_;refine aa ?_;apply K.cond<;>intro g1
 ·refine aa ?_;exact⟨by simp[g1],bw⟩
 refine aa ?_;exact⟨by simp[g1],bw⟩
theorem aah(c:o.dG)(fD eD:Value)(p:o.dj)(nu pd:Value)(w:World)(a1:iu w)(aI:o.hZ c.name)(bp:o.mR w eD c.b4) :
  bu Tryz.prog F.AY #[.agg (c.enc fD eD).toArray,.agg (p.enc nu pd).toArray] w fun v w'=>v = .int .i64 (o.head c p.cz)∧Ext w w':=by
 obtain⟨bl,cap,rfl,hlen⟩:=bp.form;refine bM E.AY ?_;refine bF ?_;refine aa ?_;intro av bC cL aA aq;refine aa ?_;intro aT ca dB aC aM;have he:=aA.trans aC;have aq:=aC.obj aq;refine aa ?_;refine K.call (F0 c.name aT (a1.ext he) aI) ?_;rintro _ bf ⟨rfl,aw⟩;have aq:=aw.obj aq;have aM:=aw.obj aM;have sM:=he.trans aw;rw[o.head];refine aa ?_;refine K.c4 (fun g1=>?_) (fun g1=>?_);rotate_left
 ·refine aa ?_;exact⟨by simp[g1],fj⟩
 refine aa ?_;refine K.pC (first:=[]) (cap:=[_]) (by kernel_rfl) (Q2 c.from_ p nu pd bf ca aM) ?_;rintro _ _ ⟨rfl,rfl⟩;refine aa ?_;apply K.cond<;>intro g2
 ·refine aa ?_;refine⟨?_,fj⟩;rw[if_neg (by simp[g1]),if_pos (by omega)]
 refine aa ?_;refine K.pC (first:=[]) (cap:=[_]) (by kernel_rfl) (Q2 c.to p nu pd _ ca aM) ?_;rintro _ _ ⟨rfl,rfl⟩;refine aa ?_;apply K.cond<;>intro g3
 ·refine aa ?_;refine⟨?_,fj⟩;rw[if_neg (by simp[g1]),if_pos (by omega)]
 refine aa ?_;apply K.cond<;>intro g4
 ·refine aa ?_;refine⟨?_,fj⟩;rw[if_neg (by simp[g1]),if_neg (by omega),if_pos (by omega)]
 ·refine aa ?_;refine⟨?_,fj⟩;rw[if_neg (by simp[g1]),if_neg (by omega),if_neg (by omega)]
theorem Xw(c:o.dG)(fD eD:Value)(p:o.dj)(nu pd:Value)(cs:List Value)(s:o.Scope)(w:World)(a1:iu w)(aI:o.hZ c.name)(a8:o.fG w fD c.guard)(bp:o.mR w eD c.b4)
  (aS:o.gJ w nu p.vars)(ax:o.pq w pd p.cB)(h:o.e6 w cs s) :
  bu Tryz.prog F.d2 #[.agg (c.enc fD eD).toArray,.agg (p.enc nu pd).toArray,.agg cs.toArray] w fun v w' =>
   v = .tuple #[.int .i64 (o.h4 c p.cz s).1,.int .i64 (o.h4 c p.cz s).2]∧Ext w w':=by
 obtain⟨a0,bO,dy,c1,a2,c2,a3,bN,a4,bT,rfl,_⟩:=h.form;obtain⟨bl,cap,rfl,hlen⟩:=bp.form;obtain⟨oo,WX,rfl,aaE⟩:=a8.form;obtain⟨_,_,rfl,_⟩:=aS.form;obtain⟨_,_,rfl,_⟩:=ax.form;refine bM E.d2 ?_;refine bF ?_;refine aa ?_;intro av bC cL aA aq;refine aa ?_;intro aT ca dB aC aM;refine aa ?_;intro bf b5 fU aw bK;have he:=(aA.trans aC).trans aw;have aq:=(aC.trans aw).obj aq;have aM:=aw.obj aM;refine aa ?_;refine K.call (aah c _ _ p _ _ bf (a1.ext he) aI (bp.ext he)) ?_;rintro _ bq ⟨rfl,aR⟩;have aq:=aR.obj aq;have bK:=aR.obj bK;have nT:=he.trans aR;rw[o.h4];refine aa ?_;apply K.cond<;>intro g1;rotate_left
 ·refine aa ?_;exact⟨by simp[g1],fj⟩
 rw[if_neg (by simpa using g1)];have bD:=(o.aag g1).2.2.2.2.2;refine ei ?_;refine K.hQ [3,4,5] (fun _=>[]) (fun(_:Unit) w'=>Ext bq w'∧¬(c.guard.length > 0∧o.asked c.guard 1 s≠0)) ?_ ?_
 ·refine aa ?_;apply K.cond<;>intro g2
  ·refine aa ?_;refine K.call (Hj _ c.guard 1 _ s bq (a8.ext nT) (h.ext nT)) ?_;rintro _ bS ⟨rfl,bj⟩;refine aa ?_;apply K.cond<;>intro g3
   ·refine aa ?_;exact⟨(),trivial,fj,fun c7=>c7.2 g3⟩
   ·refine aa ?_;rw[if_pos ⟨by omega,g3⟩];exact cg
  ·refine aa ?_;exact⟨(),trivial,fj,fun c7=>g2 (by omega)⟩
 rintro _ S bS ⟨bj,uH⟩;have aq:=bj.obj aq;have bK:=bj.obj bK;have Ff:=nT.trans bj;rw[if_neg uH];refine aa ?_;refine K.df 34 c.b4.length [3,4,5,32,33] (fun b=>[(10,.bool b)]) false (fun k b w'=>Ext bS w'∧o.jv s c.b4 0 false=o.jv s (c.b4.drop k) k b) bB bB ⟨Ext.refl _,by simp⟩ ?_;rintro k b S bX hk ⟨bk,bH⟩;have sN:=Ff.trans bk;refine aa ?_;apply K.cond<;>intro g1
 ·have bh:k<c.b4.length:=by omega
  obtain⟨a,rfl⟩:=bp.addr (by omega);obtain⟨cr,ct,mD,fm,pM⟩:=bp.at k bh;obtain⟨_,_,rfl,_⟩:=fm.form;obtain⟨_,_,rfl,_⟩:=pM.form;rw[o.Hf bh] at bH;refine aa ?_;intro cn lZ jC bR da;refine ei ?_;intro dv kG eN;have yH:=kG.ext bR jC;have Fh:=sN.trans yH;have bK:=(bk.trans yH).obj bK;refine ei ?_;refine K.hQ [3,5,10,11,12,32,33,34] (fun _=>[]) (fun(_:Unit) w'=>Ext dv w'∧¬(o.gh c.b4[k]&&b)=true) ?_ ?_
  ·refine aa ?_;refine K.call (UM c.b4[k] _ _ dv) ?_;rintro _ eA ⟨rfl,cp⟩;refine aa ?_;refine K.c4 (fun g2=>?_) (fun g2=>?_)
   ·refine aa ?_;refine K.c4 (fun g3=>?_) (fun g3=>?_)
    ·refine aa ?_;rw[bH,if_pos (by simp[g2,g3])];exact cg
    ·refine aa ?_;exact⟨(),trivial,fj,by simp[g3]⟩
   ·refine aa ?_;exact⟨(),trivial,fj,by simp[g2]⟩
  rintro _ S eA ⟨cp,g2⟩;rw[if_neg g2] at bH;have eN:=cp.obj eN;have bK:=cp.obj bK;refine ei ?_;refine K.hQ [3,5,11,12,32,33,34] (fun u=>[(10,.bool u)]) (fun u w'=>Ext eA w'∧u=(b||o.gh c.b4[k])) ?_ ?_
  ·refine aa ?_;refine K.c4 (fun g3=>?_) (fun g3=>?_)
   ·refine aa ?_;exact⟨true,bB,fj,by simp[g3]⟩
   ·refine aa ?_;refine K.call (UM c.b4[k] _ _ eA) ?_;rintro _ eR ⟨rfl,dJ⟩;refine aa ?_;exact⟨o.gh c.b4[k],bB,fj,by simp[g3]⟩
  rintro _ S eR ⟨dJ,rfl⟩;have eN:=dJ.obj eN;have bK:=dJ.obj bK;have IX:=(Fh.trans cp).trans dJ;have ahZ:=((bk.trans yH).trans cp).trans dJ;refine aa ?_;refine K.call (VV c.b4[k] _ _ _ s eR (fm.ext IX) (pM.ext IX) (h.ext IX)) ?_;rintro _ gH ⟨rfl,hf⟩;refine aa ?_;apply K.cond<;>intro g3
  ·refine aa ?_;rw[if_neg (by simpa using g3)] at bH;exact⟨bh,bw,_,bB,fj,bH⟩
  ·refine aa ?_;rw[bH,if_pos g3];exact cg
 ·refine aa ?_;rw[bH,List.drop_eq_nil_of_le (by omega)];exact cg
end Go.Proofs.R
end
section
namespace o
theorem SU{s:Scope}{l:List Var}{k:Nat}(h:k<l.length):oj s (l.drop k) k=if l[k].over≠0 then ((k:Int),9) else if s.vars.any (fun x=>decide (x.name=l[k].name)) then ((k:Int),7) else oj s (l.drop (k+1)) (k+1):=by
 rw[List.drop_eq_getElem_cons h];rfl
theorem Pa{own:Scope}{cz:Int}{all l:List dG}{k:Nat}(h:k<l.length):j2 own cz all (l.drop k) k=if (h4 l[k] cz own).2≠0 then (2+(k:Int),(h4 l[k] cz own).1,(h4 l[k] cz own).2)
  else if (all.take k).any (fun x=>decide (x.name=l[k].name)) then (2+(k:Int),0,7) else j2 own cz all (l.drop (k+1)) (k+1):=by
 rw[List.drop_eq_getElem_cons h];rfl
end o
namespace Go.Proofs.R
open Go Go.RowKit bt
theorem agG(p:o.dj)(cm cA:Option Addr)(pT bN bT:Nat)(cs:List Value)(s:o.Scope)(w:World)(a1:iu w)(aI:o.hZ p.name)(h:o.e6 w cs s) :
  bu Tryz.prog F.d0 #[.agg (p.enc (.slice cm pT bN) (.slice cA p.cB.length bT)).toArray,.agg cs.toArray] w fun v w'=>v = .int .i64 (o.whole p s)∧Ext w w':=by
 obtain⟨a0,bO,dy,c1,a2,c2,a3,d3,a4,d4,rfl,aj,h1,U,ag,aK,eG,du,dF,dV,eo⟩:=h.form;refine bM E.d0 ?_;refine bF ?_;refine aa ?_;intro av bC cL aA aq;refine aa ?_;intro aT ca dB aC aM;have cR:∀{w'},Ext aT w'→Ext w w':=fun e=>(aA.trans aC).trans e;have aq:=aC.obj aq;refine aa ?_;refine K.call (F0 p.name aT (a1.ext (cR (Ext.refl _))) aI) ?_;rintro _ bf ⟨rfl,aw⟩;have aq:=aw.obj aq;have aM:=aw.obj aM;rw[o.whole];refine aa ?_;refine K.c4 (fun g1=>?_) (fun g1=>?_);rotate_left
 ·refine aa ?_;exact⟨by rw[if_pos g1],cR aw⟩
 rw[if_neg (by simp[g1])];refine aa ?_;apply K.cond<;>intro g2
 ·refine aa ?_;exact⟨by rw[if_pos (.inl g2)],cR aw⟩
 refine aa ?_;apply K.cond<;>intro g3
 ·refine aa ?_;exact⟨by rw[if_pos (.inr (by omega))],cR aw⟩
 rw[if_neg (by omega)];refine aa ?_;apply K.cond<;>intro g4
 ·refine aa ?_;exact⟨by rw[if_pos (.inl g4)],cR aw⟩
 refine aa ?_;apply K.cond<;>intro g5
 ·refine aa ?_;exact⟨by rw[if_pos (.inr (by omega))],cR aw⟩
 rw[if_neg (by omega)];refine aa ?_;apply K.cond<;>intro g6
 ·refine aa ?_;exact⟨by rw[if_pos (by omega)],cR aw⟩
 refine aa ?_;exact⟨by rw[if_neg (by omega)],cR aw⟩
theorem acO(x v:o.Var)(b:Nat)(w:World)(ax:w.heap[b]? = some (.cells v.enc.toArray T.f)) :
  bu Tryz.prog F.yl #[.agg x.enc.toArray,.pointer (some ⟨b,0,none⟩)] w fun u w'=>u = .bool (decide (x.name=v.name))∧Ext w w':=by
 refine bM E.yl ?_;refine bF ?_;refine aa ?_;intro av bC cL aA aq;refine aa ?_;exact cg
theorem Xv(x c:o.dG)(b9 ch cm cA:Option Addr)(kL jl pT tq c1 c2 bN bT:Nat)(b:Nat)(w:World)(ax:w.heap[b]? = some (.cells (c.enc (.slice cm pT bN) (.slice cA tq bT)).toArray T.m)) :
  bu Tryz.prog F.bv #[.agg (x.enc (.slice b9 kL c1) (.slice ch jl c2)).toArray,.pointer (some ⟨b,0,none⟩)] w fun u w'=>u = .bool (decide (x.name=c.name))∧Ext w w':=by
 refine bM E.bv ?_;refine bF ?_;refine aa ?_;intro av bC cL aA aq;refine aa ?_;exact cg
theorem acP(p:o.dj)(cm cA:Option Addr)(bN tq bT:Nat)(cs:List Value)(s:o.Scope)(w:World)(a1:iu w)(aS:o.gJ w (.slice cm p.vars.length bN) p.vars)(h:o.e6 w cs s) :
  bu Tryz.prog F.d1 #[.agg (p.enc (.slice cm p.vars.length bN) (.slice cA tq bT)).toArray,.agg cs.toArray] w fun v w'=>v = .tuple #[.int .i64 (o.jR p s).1,.int .i64 (o.jR p s).2]∧Ext w w':=by
 obtain⟨a0,bO,dy,c1,a2,c2,a3,d3,a4,d4,rfl,aj,h1,U,ag,aK,eG,du,dF,dV,eo⟩:=h.form;have fQ:p.vars.length≤9223372036854775807:=by have:=(bz.len aS).2;unfold maxLen at this;omega
 refine bM E.d1 ?_;refine bF ?_;refine aa ?_;intro av bC cL aA aq;refine aa ?_;intro aT ca dB aC aM;have cR:∀{w'},Ext aT w'→Ext w w':=fun e=>(aA.trans aC).trans e;have aq:=aC.obj aq;refine aa ?_;refine K.call (U0 _ _ p.vars s.scalars 4 aT (a1.ext (cR (Ext.refl _))) (aS.ext (cR (Ext.refl _))) (aj.ext (cR (Ext.refl _)))) ?_;rintro _ bf ⟨rfl,aw⟩;have aq:=aw.obj aq;have aM:=aw.obj aM;rw[o.jR];refine aa ?_;apply K.cond<;>intro g1;rotate_left
 ·refine aa ?_;exact⟨by rw[if_pos g1],cR aw⟩
 rw[if_neg (by simpa using g1)];have fF:∀{w'},Ext bf w'→Ext w w':=fun e=>cR (aw.trans e);refine aa ?_;refine K.df 25 p.vars.length [3,23,24] (fun _=>[]) () (fun k _ w'=>Ext bf w'∧o.oj s p.vars 0=o.oj s (p.vars.drop k) k) bB bB ⟨Ext.refl _,by simp⟩ ?_;rintro k _ S bq hk ⟨aR,bH⟩;refine aa ?_;apply K.cond<;>intro g2
 ·have bh:k<p.vars.length:=by omega
  obtain⟨a,rfl⟩:=aS.addr (by omega);replace aS:=aS.ext (fF (Ext.refl _));rw[o.SU bh] at bH;refine aa ?_;intro zS iy kz lu qy;refine aa ?_;intro bS fx cC;have bj:=fx.ext lu kz;refine aa ?_;apply K.cond<;>intro g3;rotate_left
  ·refine aa ?_;exact⟨by rw[bH,if_pos g3],fF (aR.trans bj)⟩
  rw[if_neg (by simpa using g3)] at bH;refine aa ?_;refine K.call (Ph lx E.b3 E.c0 _ s.vars bS (h1.ext (fF (aR.trans bj))) F.yl (by kernel_rfl) [] [_] (fun x=>decide (x.name=p.vars[k].name)) ?_) ?_
  ·rintro i ad hP w' e ⟨rfl,_⟩;exact acO _ _ iy w' (e.obj cC)
  rintro _ bX ⟨rfl,bk⟩;refine aa ?_;refine K.c4 (fun g4=>?_) (fun g4=>?_)
  ·refine aa ?_;exact⟨by rw[bH,if_pos g4],fF ((aR.trans bj).trans bk)⟩
  ·refine aa ?_;exact⟨bh,bw,(),trivial,(aR.trans bj).trans bk,by rw[bH,if_neg (by simp[g4])]⟩
 ·refine aa ?_;exact⟨by rw[bH,List.drop_eq_nil_of_le (by omega)];rfl,fF aR⟩
theorem adY(p:o.dj)(CW cs:List Value)(s:o.Scope)(w:World)(a1:iu w)(aO:o.tX w CW p)(h:o.e6 w cs s)(a8:s.cX)(mI:p.cX) :
  bu Tryz.prog F.AO #[.agg CW.toArray,.agg cs.toArray] w fun v w'=>v = .tuple #[.int .i64 (o.gD p s).1,.int .i64 (o.gD p s).2.1,.int .i64 (o.gD p s).2.2]∧Ext w w':=by
 obtain⟨a0,bO,dy,c1,a2,c2,a3,d3,a4,d4,rfl,aj,h1,U,ag,aK,eG,du,dF,dV,eo⟩:=h.form;obtain⟨aI,nu,pd,rfl,aS,pI⟩:=aO;obtain⟨cm,bN,rfl,fQ⟩:=aS.form;obtain⟨cA,bT,rfl,lc⟩:=pI.form;have mC:p.cB.length≤140737488351232:=by have:=mI.cB;unfold o.dY at this;omega
 refine bM E.AO ?_;refine bF ?_;refine aa ?_;intro av bC cL aA aq;refine aa ?_;intro aT ca dB aC aM;have cR:∀{w'},Ext aT w'→Ext w w':=fun e=>(aA.trans aC).trans e;replace aq:=aC.obj aq;refine aa ?_;refine K.call (agG p _ _ _ _ _ _ s aT (a1.ext (cR (Ext.refl _))) aI (h.ext (cR (Ext.refl _)))) ?_;rintro _ bf ⟨rfl,aw⟩;replace aq:=aw.obj aq;replace aM:=aw.obj aM;have fF:∀{w'},Ext bf w'→Ext w w':=fun e=>cR (aw.trans e);rw[o.gD];refine aa ?_;apply K.cond<;>intro g1;rotate_left
 ·refine aa ?_;exact⟨by rw[if_pos g1],fF (Ext.refl _)⟩
 rw[if_neg (by simpa using g1)];refine aa ?_;refine K.call (acP p _ _ _ _ _ _ s bf (a1.ext (fF (Ext.refl _))) (aS.ext (fF (Ext.refl _))) (h.ext (fF (Ext.refl _)))) ?_;rintro _ bq ⟨rfl,aR⟩;replace aq:=aR.obj aq;replace aM:=aR.obj aM;have ed:∀{w'},Ext bq w'→Ext w w':=fun e=>fF (aR.trans e);refine aa ?_;apply K.cond<;>intro g2;rotate_left
 ·refine aa ?_;exact⟨by rw[if_pos g2],ed (Ext.refl _)⟩
 rw[if_neg (by simpa using g2)];refine aa ?_;refine K.call (R8 p _ _ _ _ _ _ _ _ _ _ _ _ _ _ _ _ _ _ _ _ _ _ bq) ?_;rintro _ bS ⟨rfl,bj⟩;replace aq:=bj.obj aq;have iq:∀{w'},Ext bS w'→Ext w w':=fun e=>ed (bj.trans e);refine aa ?_;intro bX Ek E3 bk dr;replace aq:=bk.obj aq;have kj:∀{w'},Ext bX w'→Ext w w':=fun e=>iq (bk.trans e);have fw:∀w',Ext w w'→o.e6 w' [.slice a0 s.scalars.length bO,.slice dy s.vars.length c1,.slice a2 s.aJ.length c2,.slice a3 s.procs.length d3,.slice cm p.vars.length bN,.int .i64 p.over] (o.inner p s):=fun w' e =>
  ⟨(a8.inner mI).pj.1,_,_,_,_,_,rfl,aj.ext e,h1.ext e,U.ext e,ag.ext e,aS.ext e,(a8.inner mI).pj.2⟩
 refine aa ?_;refine K.df 37 p.cB.length [2,10,35,36] (fun _=>[]) () (fun k _ w'=>Ext bX w'∧o.j2 (o.inner p s) p.cz p.cB p.cB 0=o.j2 (o.inner p s) p.cz p.cB (p.cB.drop k) k) bB bB ⟨Ext.refl _,by simp⟩ ?_;rintro k _ S cn hk ⟨bR,bH⟩;replace aq:=bR.obj aq;replace dr:=bR.obj dr;refine aa ?_;apply K.cond<;>intro g3
 ·have bh:k<p.cB.length:=by omega
  obtain⟨a,rfl⟩:=pI.addr (by omega);obtain⟨ay,fD,eD,gr,rI,qJ⟩:=pI.at k bh;obtain⟨oo,kU,rfl,SN⟩:=rI.form;obtain⟨bl,iz,rfl,oi⟩:=qJ.form;rw[o.Pa bh] at bH;replace gr:=gr.ext (kj (Ext.refl _));refine aa ?_;intro zS El uA lu qy;refine aa ?_;intro dv kG eN;have bW:=kG.ext lu uA;replace aq:=bW.obj aq;replace dr:=bW.obj dr;have jX:∀{w'},Ext dv w'→Ext w w':=fun e=>kj ((bR.trans bW).trans e);clear qy lu;refine aa ?_;refine K.call (Xw p.cB[k] _ _ p _ _ _ (o.inner p s) dv (a1.ext (jX (Ext.refl _))) ay (rI.ext (jX (Ext.refl _))) (qJ.ext (jX (Ext.refl _))) (aS.ext (jX (Ext.refl _))) (pI.ext (jX (Ext.refl _))) (fw _ (jX (Ext.refl _)))) ?_;rintro _ eA ⟨rfl,cp⟩;replace aq:=cp.obj aq;replace eN:=cp.obj eN;have kk:∀{w'},Ext eA w'→Ext w w':=fun e=>jX (cp.trans e);refine aa ?_;apply K.cond<;>intro g4;rotate_left
  ·refine aa ?_;exact⟨by rw[bH,if_pos g4],kk (Ext.refl _)⟩
  rw[if_neg (by simpa using g4)] at bH;have hz:=(bz.len pI).2.1;refine aa ?_;refine K.rY (k:=.i64) k (by rfl) (by omega) ?_;refine aa ?_;refine K.call (Ph lx E.bQ E.cc _ (p.cB.take k) eA ((pI.head k (by omega)).ext o.vG.ext (kk (Ext.refl _))) F.bv (by kernel_rfl) [] [_] (fun x=>decide (x.name=p.cB[k].name)) ?_) ?_
  ·rintro i ad hP w' e ⟨_,ajT,mj,rfl,aby,JK⟩;obtain⟨_,_,rfl,_⟩:=aby.form;obtain⟨_,_,rfl,_⟩:=JK.form;exact Xv _ _ _ _ _ _ _ _ _ _ _ _ _ _ El w' (e.obj eN)
  rintro _ eR ⟨rfl,dJ⟩;refine aa ?_;refine K.c4 (fun g5=>?_) (fun g5=>?_)
  ·refine aa ?_;exact⟨by rw[bH,if_pos g5],kk dJ⟩
  ·refine aa ?_;exact⟨bh,bw,(),trivial,((bR.trans bW).trans cp).trans dJ,by rw[bH,if_neg (by simp[g5])]⟩
 ·refine aa ?_;exact⟨by rw[bH,List.drop_eq_nil_of_le (by omega)];rfl,kj bR⟩
end Go.Proofs.R
end
section
namespace bt
open Go Go.RowKit
theorem bz.Ho{α:Type}{R:World→Addr→α→Prop}{C:World→List Value→α→Prop}{sz:Nat}[Rel R C sz]{w:World}{b n:Nat}{e:TypeId}{cells:List Value}{xs:List α}(eF:List (nD sz))(aD:w.heap[b]? = some (.cells cells.toArray e))(Z3:cells=eF.flatMap rj)
  (aP:eF.length=xs.length)(aI:n=xs.length)(hm:xs.length≤maxLen)(ax:∀i (h1:i<eF.length) (U:i<xs.length),C w eF[i].1 xs[i]):bz sz R w (.slice (some ⟨b,0,none⟩) n n) xs:=by
 subst Z3;exact bz.Kl aP (bz.aW (enc:=rj) ur aD (by omega) (by omega) fun _ _ _ h=>h) ax
end bt
namespace o
open Go
def H8:Scalar:=⟨⟨#[83]⟩,2⟩
theorem nr{n:Int}(h : -1000≤n∧n≤1000):en n:=by unfold en;omega
theorem zN(a b:Int)(s:Scope):(jV a b s).2=((gP a s).2&&(gP b s).2)∧((jV a b s).2=true→(jV a b s).1=(if a=0 then 0 else 1+a)):=by
 unfold jV gP;constructor
 ·(repeat' split)<;>first | rfl | (exfalso;omega)
 ·intro h
  (repeat' split)<;>first | rfl | (exfalso;omega) | simp_all
theorem Pp{l:List Var}{n:Int}{s:Scope}(h:(fq l n s).2.2=false):declared l n s=none:=by
 unfold declared;unfold fq at h;cases aI:nth l n with
 | none=>rfl
 | some v =>
  rw[aI] at h;simp only at h ⊢;rw[if_neg];rw[(zN _ _ _).1,h];simp
theorem Pr{l:List Var}{n:Int}{s:Scope}{x:Var}(h:(fq l n s).2.2=true)(ar:nth l n=some x):declared l n s=some (x,if x.scalar=0 then 0 else 1+x.scalar)∧0≤x.scalar∧x.scalar≤s.scalars.length∧0≤x.over∧x.over≤s.scalars.length:=by
 unfold fq at h;rw[ar] at h;simp only at h;have aL:(jV x.scalar x.over s).2=true:=by rw[(zN _ _ _).1];exact h
 refine⟨?_,?_⟩
 ·unfold declared;rw[ar];simp only;rw[if_pos aL,(zN _ _ _).2 aL]
 ·unfold jV at aL;split at aL
  ·cases aL
  ·omega
theorem Xk{n:Int}{s:Scope}(h:¬(iT n s).2=0):channel n s=none:=by
 unfold channel;unfold iT at h;cases aI:nth s.aJ n with
 | none=>rfl
 | some c =>
  rw[aI] at h;simp only at h ⊢;rw[if_neg];intro aL;rw[(zN _ _ _).1] at aL;simp only[Bool.and_eq_true] at aL;rw[if_pos aL.1] at h;exact h rfl
theorem Xm{n:Int}{s:Scope}{c:c5}(h:(iT n s).2=0)(ar:nth s.aJ n=some c):channel n s=some (if c.scalar=0 then 0 else 1+c.scalar)∧0≤c.scalar∧c.scalar≤s.scalars.length:=by
 unfold iT at h;rw[ar] at h;simp only at h;have h1:(gP c.scalar s).2=true:=by
  cases hk:(gP c.scalar s).2 with
  | true=>rfl
  | false=>rw[hk] at h;simp at h
 have aL:(jV c.scalar 0 s).2=true:=by rw[(zN _ _ _).1,h1];simp[gP]
 refine⟨?_,?_⟩
 ·unfold channel;rw[ar];simp only;rw[if_pos aL,(zN _ _ _).2 aL]
 ·unfold jV at aL;split at aL
  ·cases aL
  ·omega
def jQ(l:List Var)(n:Int)(s:Scope):Int×Int:=match declared l n s with | none=>(0,8) | some (v,k)=>if v.over≠0 then (0,9) else (k,0)
def wW(a:Act)(s:Scope):Int:=match declared s.vars a.to s with | none=>8 | some (v,k)=>if v.over=0 then 9 else if asked a.index (1+v.over) s≠0 then asked a.index (1+v.over) s else asked a.value k s
def jT(a:Act)(s:Scope)(comm:Bool):Int :=
 if a.kind<1∨5<a.kind then 3
 else if a.kind=2 then wW a s
 else if a.kind=1∨a.kind=3 then (if (jQ (if a.kind=3 then s.locals else s.vars) a.to s).2≠0 then (jQ (if a.kind=3 then s.locals else s.vars) a.to s).2 else asked a.value (jQ (if a.kind=3 then s.locals else s.vars) a.to s).1 s)
 else if comm=true then 7
 else match channel a.to s with
  | none=>8
  | some k=>if a.kind=4 then asked a.value k s else if (jQ s.locals a.loc s).2≠0 then (jQ s.locals a.loc s).2 else if (jQ s.locals a.loc s).1≠k then 9 else 0
theorem aev(a:Act)(s:Scope)(comm:Bool):jT a s comm=if gh a&&comm then 7 else jb a s:=by
 by_cases aj:a.kind<1∨5<a.kind
 ·have aL:gh a=false:=by unfold gh;rw[decide_eq_false_iff_not];omega
  unfold jT jb;rw[if_pos aj,aL,if_neg (by omega:¬(a.kind=1∨a.kind=2∨a.kind=3)),if_neg (by omega:¬(a.kind=4∨a.kind=5))];simp
 by_cases U:a.kind=2
 ·have aL:gh a=false:=by unfold gh;rw[decide_eq_false_iff_not];omega
  unfold jT jb;rw[if_neg aj,if_pos U,aL,if_pos (by omega:a.kind=1∨a.kind=2∨a.kind=3)];simp only[Bool.false_and,Bool.false_eq_true,if_false];rw[if_neg (by omega:¬a.kind=3)];unfold wW;cases br:declared s.vars a.to s with
  | none=>rfl
  | some q =>
   obtain⟨v,k⟩:=q;simp only[U,true_and];by_cases aS:v.over=0
   ·simp[aS]
   ·simp[aS]
 by_cases h1:a.kind=1∨a.kind=3
 ·have aL:gh a=false:=by unfold gh;rw[decide_eq_false_iff_not];omega
  unfold jT jb;rw[if_neg aj,if_neg U,if_pos h1,aL,if_pos (by omega:a.kind=1∨a.kind=2∨a.kind=3)];simp only[Bool.false_and,Bool.false_eq_true,if_false];unfold jQ;cases br:declared (if a.kind=3 then s.locals else s.vars) a.to s with
  | none=>simp
  | some q =>
   obtain⟨v,k⟩:=q;simp only[U,false_and,if_false];by_cases aS:v.over=0
   ·simp[aS]
   ·simp[aS]
 ·have Zm:a.kind=4∨a.kind=5:=by omega
  have aL:gh a=true:=by unfold gh;rw[decide_eq_true_eq];omega
  unfold jT jb;rw[if_neg aj,if_neg U,if_neg h1,aL,if_neg (by omega:¬(a.kind=1∨a.kind=2∨a.kind=3)),if_pos Zm];simp only[Bool.true_and];cases comm with
  | true=>simp
  | false =>
   simp only[Bool.false_eq_true,if_false];cases ax:channel a.to s with
   | none=>rfl
   | some k =>
    simp only;by_cases aK:a.kind=4
    ·rw[if_pos aK,if_neg (by omega:¬a.kind=5)]
    ·rw[if_neg aK,if_pos (by omega:a.kind=5)];unfold jQ C9;cases br:declared s.locals a.loc s with
     | none=>simp
     | some q =>
      obtain⟨v,k'⟩:=q;simp only;by_cases aS:v.over=0
      ·simp[aS]
      ·simp[aS]
end o
end
section
set_option linter.unusedSimpArgs false
namespace Go.Proofs.R
open Go Go.RowKit bt
theorem UL(op:Int)(w:World):bu Tryz.prog F.zd #[.int .i64 op] w fun v w'=>v = .int .i64 (o.eK op)∧w'=w:=by
 have key:∀n:Int,(if op=3 then (1:Int) else if 1≤op∧op≤8 then 0 else if op=9∨op=10 then 1 else if 11≤op∧op≤19 then 2 else -1)=n→o.eK op=n:=fun _ h=>h;refine bM E.zd ?_;refine bF ?_
 (repeat' (refine aH ?_;first | (refine K.cond (fun _=>?_) (fun _=>?_)<;>try (exfalso;omega)) | refine K.c4 (fun _=>?_) (fun _=>?_)))<;>try refine aH ?_
 all_goals
  refine⟨?_,bw⟩;congr 1;refine(key _ ?_).symm
  (repeat' split)<;>first | rfl | (exfalso;omega)
theorem F2{x:Int}(h:o.eK x=0):1≤x∧x≤8∧x≠3∧o.fX x=none:=by
 have h1:1≤x∧x≤8∧x≠3:=by unfold o.eK at h; (repeat' split at h)<;>omega
 exact⟨h1.1,h1.2.1,h1.2.2,o.Ti (by simp[o.y2];omega)⟩
theorem Tc{x:Int}(h:o.eK x=1):x=3∨x=9∨x=10:=by unfold o.eK at h; (repeat' split at h)<;>omega
theorem F3{x:Int}(h:o.eK x=2):11≤x∧x≤19:=by unfold o.eK at h; (repeat' split at h)<;>omega
theorem Tj{x:Int}(h:9≤x∧x≤19):∃au,o.fX x=some au∧au.parts=o.eK x:=by
 cases a1:o.fX x with
 | some au=>exact⟨au,rfl,(o.CV a1).1⟩
 | none =>
  exfalso;unfold o.fX at a1
  (repeat' split at a1)
  all_goals first | (cases a1;done) | omega
theorem HP{st:List Int}(h:1≤st.length):st.drop (st.length - 1)=[st[st.length - 1]]:=by
 rw[List.drop_eq_getElem_cons (by omega),List.drop_eq_nil_of_le (by omega)]
theorem Pt{st:List Int}(h:2≤st.length):st.drop (st.length - 2)=[st[st.length - 2],st[st.length - 1]]:=by
 rw[List.drop_eq_getElem_cons (by omega)];have e:st.length - 2+1=st.length - 1:=by omega
 congr 1;rw[e];exact HP (by omega)
theorem pF:∀y,∀u∈encI y,u.oneCell'=true:=fun y u h=>by simp[encI] at h;subst h;rfl
end Go.Proofs.R
end
section
set_option linter.unusedSimpArgs false
namespace Go.Proofs.R
open Go Go.RowKit bt
theorem KT(n:Int)(cs:List Value)(s:o.Scope)(w:World)(h:o.e6 w cs s) :
  bu Tryz.prog F.w5 #[.int .i64 n,.agg cs.toArray] w fun v w'=>v = .bool (o.gP n s).2∧Ext w w':=by
 obtain⟨a0,bO,dy,c1,a2,c2,a3,bN,a4,bT,rfl,aj,h1,U,ag,aK,eG,du,dF,dV,eo⟩:=h.form;refine bM E.w5 ?_;refine bF ?_;refine aH ?_;refine K.new fun av b aD aA aq=>?_
 (repeat' (refine aH ?_;first | (refine K.cond (fun _=>?_) (fun _=>?_)<;>try (exfalso;omega)) | refine K.c4 (fun _=>?_) (fun _=>?_)))<;>try refine aH ?_
 all_goals
  refine⟨?_,fj⟩;congr 1;unfold o.gP
  (repeat' split)<;>first | rfl | (exfalso;omega) | (simp;omega)
def kindOf(n:Int):Int:=if n=0 then 0 else 1+n
theorem FP(n:Int)(w:World)(h:0≤n∧n≤4611686018427387904):bu Tryz.prog F.qL #[.int .i64 n] w fun v w'=>v = .int .i64 (kindOf n)∧w'=w:=by
 refine bM E.qL ?_;refine bF ?_
 (repeat' (refine aH ?_;first | (refine K.cond (fun _=>?_) (fun _=>?_)<;>try (exfalso;omega)) | refine K.c4 (fun _=>?_) (fun _=>?_)))<;>try refine aH ?_
 all_goals
  refine⟨?_,bw⟩;congr 1;unfold kindOf;split<;>first | rfl | (exfalso;omega)
theorem St{n:Int}{s:o.Scope}(h:(o.gP n s).2=true):0≤n∧n≤s.scalars.length∧(o.gP n s).1=kindOf n:=by
 unfold o.gP kindOf at *
 (repeat' split at h) <;> (repeat' split)<;>first | (cases h;done) | (refine⟨by omega,by omega,?_⟩;first | rfl | omega) | (exfalso;omega)
theorem Df(v:Value)(l:List o.Var)(n:Int)(cs:List Value)(s:o.Scope)(w:World)(aP:o.gJ w v l)(h:o.e6 w cs s) :
  bu Tryz.prog F.u2 #[v,.int .i64 n,.agg cs.toArray] w fun v w' =>
   (∃x:o.Var,v = .tuple #[.agg x.enc.toArray,.bool (o.fq l n s).2.2]∧((o.fq l n s).2.2=true→o.nth l n=some x))∧Ext w w':=by
 obtain⟨a0,bO,dy,c1,a2,c2,a3,bN,a4,bT,rfl,_⟩:=h.form;obtain⟨bl,cap,rfl,hlen⟩:=aP.form;refine bM E.u2 ?_;refine bF ?_;refine aH ?_;refine K.new fun av b aD aA aq=>?_;refine aH ?_;refine K.new fun aT ca dB aC aM=>?_;have he:=aA.trans aC;have eb:=aC.obj aq;refine aH ?_;apply K.cond<;>intro g1
 ·have hk:(o.fq l n s).2.2=false:=by rw[o.fq,o.gQ (.inl g1)]
  refine aH ?_;intro bf aw;refine aH ?_;refine K.cF (cs:=(⟨⟨#[]⟩,0,0,0,0,0⟩:o.Var).enc) (by simp[ew,o.Var.enc]) ?_;refine aH ?_;refine K.k6 (cs:=(⟨⟨#[]⟩,0,0,0,0,0⟩:o.Var).enc.toArray) (aw.obj aM) rfl rfl (by simp[o.Var.enc,Value.oneCell']) fun bq ee bI=>?_;refine aH ?_;refine K.gm (c:=o.Var.enc _) bI (Ext.refl _) rfl ?_;refine aH ?_;exact⟨⟨_,by rw[hk],by rw[hk];intro h;cases h⟩,ee.ext (he.trans aw) (by have:=aA.size;omega)⟩
 refine aH ?_;apply K.cond<;>intro g2
 ·have hk:(o.fq l n s).2.2=false:=by rw[o.fq,o.gQ (.inr (by omega))]
  refine aH ?_;intro bf aw;refine aH ?_;refine K.cF (cs:=(⟨⟨#[]⟩,0,0,0,0,0⟩:o.Var).enc) (by simp[ew,o.Var.enc]) ?_;refine aH ?_;refine K.k6 (cs:=(⟨⟨#[]⟩,0,0,0,0,0⟩:o.Var).enc.toArray) (aw.obj aM) rfl rfl (by simp[o.Var.enc,Value.oneCell']) fun bq ee bI=>?_;refine aH ?_;refine K.gm (c:=o.Var.enc _) bI (Ext.refl _) rfl ?_;refine aH ?_;exact⟨⟨_,by rw[hk],by rw[hk];intro h;cases h⟩,ee.ext (he.trans aw) (by have:=aA.size;omega)⟩
 obtain⟨i,rfl⟩:=Int.eq_ofNat_of_zero_le (show 0≤n by omega);have ad:i<l.length:=by omega
 have aI:o.nth l (i:Int)=some l[i]:=by rw[o.hX (by omega) (by omega)];simp only[Int.toNat_natCast]
 obtain⟨a,rfl⟩:=aP.addr (by omega);refine aH ?_;refine K.gm (c:=[_,_,_,_,_,_]) eb (Ext.refl _) rfl ?_;refine aH ?_;refine K.gn _ (fun w' e=>KT _ _ s w' (h.ext (he.trans e))) ?_;refine aH ?_;refine K.c4 (fun g3=>?_) (fun g3=>?_);rotate_left
 ·have hk:(o.fq l i s).2.2=false:=by rw[o.fq,aI];simp only[g3,Bool.false_and]
  refine aH ?_;intro bf aw;refine aH ?_;refine K.cF (cs:=(⟨⟨#[]⟩,0,0,0,0,0⟩:o.Var).enc) (by simp[ew,o.Var.enc]) ?_;refine aH ?_;refine K.k6 (cs:=(⟨⟨#[]⟩,0,0,0,0,0⟩:o.Var).enc.toArray) (aw.obj aM) rfl rfl (by simp[o.Var.enc,Value.oneCell']) fun bq ee bI=>?_;refine aH ?_;refine K.gm (c:=o.Var.enc _) bI (Ext.refl _) rfl ?_;refine aH ?_;exact⟨⟨_,by rw[hk],by rw[hk];intro h;cases h⟩,ee.ext (he.trans aw) (by have:=aA.size;omega)⟩
 refine aH ?_;refine K.gm (c:=[_,_,_,_,_,_]) eb (Ext.refl _) rfl ?_;refine aH ?_;refine K.gn _ (fun w' e=>KT _ _ s w' (h.ext (he.trans e))) ?_;refine aH ?_;cases g4:(o.gP l[i].over s).2 with
 | false =>
  have hk:(o.fq l i s).2.2=false:=by rw[o.fq,aI];simp only[g4,Bool.and_false]
  refine aH ?_;intro bf aw;refine aH ?_;refine K.cF (cs:=(⟨⟨#[]⟩,0,0,0,0,0⟩:o.Var).enc) (by simp[ew,o.Var.enc]) ?_;refine aH ?_;refine K.k6 (cs:=(⟨⟨#[]⟩,0,0,0,0,0⟩:o.Var).enc.toArray) (aw.obj aM) rfl rfl (by simp[o.Var.enc,Value.oneCell']) fun bq ee bI=>?_;refine aH ?_;refine K.gm (c:=o.Var.enc _) bI (Ext.refl _) rfl ?_;refine aH ?_;exact⟨⟨_,by rw[hk],by rw[hk];intro h;cases h⟩,ee.ext (he.trans aw) (by have:=aA.size;omega)⟩
 | true =>
  have hk:(o.fq l i s).2.2=true:=by rw[o.fq,aI];simp only[g3,g4,Bool.and_true]
  refine aH ?_;intro bf aw;refine aH ?_;refine K.k6 (cs:=l[i].enc.toArray) (aw.obj aM) rfl rfl (by simp[o.Var.enc,Value.oneCell']) fun bq ee bI=>?_;refine aH ?_;refine K.gm (c:=o.Var.enc _) bI (Ext.refl _) rfl ?_;refine aH ?_;exact⟨⟨_,by rw[hk],fun _=>aI⟩,ee.ext (he.trans aw) (by have:=aA.size;omega)⟩
theorem TJ(n:Int)(cs:List Value)(s:o.Scope)(w:World)(h:o.e6 w cs s) :
  bu Tryz.prog F.zb #[.int .i64 n,.agg cs.toArray] w fun v w' =>
   (∃x:o.c5,v = .tuple #[.agg x.enc.toArray,.bool (decide ((o.iT n s).2=0))]∧((o.iT n s).2=0→o.nth s.aJ n=some x))∧Ext w w':=by
 obtain⟨a0,bO,dy,c1,a2,c2,a3,bN,a4,bT,rfl,aj,h1,U,ag,aK,eG,du,dF,dV,eo⟩:=h.form;refine bM E.zb ?_;refine bF ?_;refine aH ?_;refine K.new fun av b aD aA aq=>?_;refine aH ?_;refine K.new fun aT ca dB aC aM=>?_;have he:=aA.trans aC;have eb:=aC.obj aq;refine aH ?_;apply K.cond<;>intro g1
 ·have hk:(o.iT n s).2=8:=by rw[o.iT,o.gQ (.inl g1)]
  refine aH ?_;intro bf aw;refine aH ?_;refine K.cF (cs:=(⟨⟨#[]⟩,0,0,0,0,false⟩:o.c5).enc) (by simp[ew,o.c5.enc]) ?_;refine aH ?_;refine K.k6 (cs:=(⟨⟨#[]⟩,0,0,0,0,false⟩:o.c5).enc.toArray) (aw.obj aM) rfl rfl (by simp[o.c5.enc,Value.oneCell']) fun bq ee bI=>?_;refine aH ?_;refine K.gm (c:=o.c5.enc _) bI (Ext.refl _) rfl ?_;refine aH ?_;exact⟨⟨_,by rw[hk];rfl,by rw[hk];intro h;cases h⟩,ee.ext (he.trans aw) (by have:=aA.size;omega)⟩
 refine aH ?_;apply K.cond<;>intro g2
 ·have hk:(o.iT n s).2=8:=by rw[o.iT,o.gQ (.inr (by omega))]
  refine aH ?_;intro bf aw;refine aH ?_;refine K.cF (cs:=(⟨⟨#[]⟩,0,0,0,0,false⟩:o.c5).enc) (by simp[ew,o.c5.enc]) ?_;refine aH ?_;refine K.k6 (cs:=(⟨⟨#[]⟩,0,0,0,0,false⟩:o.c5).enc.toArray) (aw.obj aM) rfl rfl (by simp[o.c5.enc,Value.oneCell']) fun bq ee bI=>?_;refine aH ?_;refine K.gm (c:=o.c5.enc _) bI (Ext.refl _) rfl ?_;refine aH ?_;exact⟨⟨_,by rw[hk];rfl,by rw[hk];intro h;cases h⟩,ee.ext (he.trans aw) (by have:=aA.size;omega)⟩
 obtain⟨i,rfl⟩:=Int.eq_ofNat_of_zero_le (show 0≤n by omega);have ad:i<s.aJ.length:=by omega
 have aI:o.nth s.aJ (i:Int)=some s.aJ[i]:=by rw[o.hX (by omega) (by omega)];simp only[Int.toNat_natCast]
 obtain⟨a,rfl⟩:=U.addr (by omega);refine aH ?_;refine K.gm (c:=[_,_,_,_,_,_]) eb (Ext.refl _) rfl ?_;refine aH ?_;refine K.gn _ (fun w' e=>KT _ _ s w' (h.ext (he.trans e))) ?_;refine aH ?_;cases g4:(o.gP s.aJ[i].scalar s).2 with
 | false =>
  have hk:(o.iT i s).2=8:=by rw[o.iT,aI];simp only[g4,Bool.false_eq_true,if_false]
  refine aH ?_;intro bf aw;refine aH ?_;refine K.cF (cs:=(⟨⟨#[]⟩,0,0,0,0,false⟩:o.c5).enc) (by simp[ew,o.c5.enc]) ?_;refine aH ?_;refine K.k6 (cs:=(⟨⟨#[]⟩,0,0,0,0,false⟩:o.c5).enc.toArray) (aw.obj aM) rfl rfl (by simp[o.c5.enc,Value.oneCell']) fun bq ee bI=>?_;refine aH ?_;refine K.gm (c:=o.c5.enc _) bI (Ext.refl _) rfl ?_;refine aH ?_;exact⟨⟨_,by rw[hk];rfl,by rw[hk];intro h;cases h⟩,ee.ext (he.trans aw) (by have:=aA.size;omega)⟩
 | true =>
  have hk:(o.iT i s).2=0:=by rw[o.iT,aI];simp only[g4,if_true]
  refine aH ?_;intro bf aw;refine aH ?_;refine K.k6 (cs:=s.aJ[i].enc.toArray) (aw.obj aM) rfl rfl (by simp[o.c5.enc,Value.oneCell']) fun bq ee bI=>?_;refine aH ?_;refine K.gm (c:=o.c5.enc _) bI (Ext.refl _) rfl ?_;refine aH ?_;exact⟨⟨_,by rw[hk];rfl,fun _=>aI⟩,ee.ext (he.trans aw) (by have:=aA.size;omega)⟩
end Go.Proofs.R
end
section
set_option linter.unusedSimpArgs false
namespace Go.Proofs.R
open Go Go.RowKit bt
theorem JZ{l:List o.Var}{n:Int}{s:o.Scope}{x:o.Var}(h:(o.fq l n s).2.2=true)(ar:o.nth l n=some x) :
  (o.fq l n s).1=kindOf x.scalar∧(o.fq l n s).2.1=kindOf x.over∧0≤x.scalar∧x.scalar≤s.scalars.length∧0≤x.over∧x.over≤s.scalars.length:=by
 unfold o.fq at h ⊢;rw[ar] at h ⊢;simp only[Bool.and_eq_true] at h ⊢;obtain⟨dy,a2,a3⟩:=St h.1;obtain⟨bC,ca,b5⟩:=St h.2;exact⟨a3,b5,dy,a2,bC,ca⟩
theorem ae0(x:o.Node)(cs:List Value)(s:o.Scope)(w:World)(ar:x.ok)(h:o.e6 w cs s)(j7:1≤x.op∧x.op≤8)(ag:x.op≠3)(t:Int) :
  bu Tryz.prog F.Ch #[.agg x.enc.toArray,.agg cs.toArray] w fun v w'=>v = .tuple #[.int .i64 (o.ie x s t).1,.int .i64 (o.ie x s t).2]∧Ext w w':=by
 obtain⟨a0,bO,dy,c1,a2,c2,a3,bN,a4,bT,rfl,qU,dO,dP,eg,gR,eG,du,dF,dV,eo⟩:=h.form;refine bM E.Ch ?_;refine bF ?_;refine aH ?_;refine K.new fun av bC cL aA aq=>?_;refine aH ?_;refine K.new fun aT ca dB aC aM=>?_;have he:=aA.trans aC;have ez:aT.heap[bC]? = some (.cells #[.int .i64 x.op,.int .i64 x.n] T.k):=aC.obj aq;clear aq;refine aH ?_;apply K.cond<;>intro g1
 ·have hk:o.ie x s t=if o.within x.n then (0,0) else (0,10):=by rw[o.ie,if_pos g1]
  (repeat' (refine aH ?_;first | (refine K.cond (fun _=>?_) (fun _=>?_)<;>try (exfalso;omega)) | refine K.c4 (fun _=>?_) (fun _=>?_)))<;>try refine aH ?_
  all_goals
   refine⟨?_,fj⟩;rw[hk];unfold o.within;split<;>first | rfl | (rename_i c7;simp at c7;exfalso;omega)
 by_cases aS:x.op=2∨x.op=4
 ·have hk:o.ie x s t=(let q:=o.fq (if x.op=4 then s.locals else s.vars) x.n s;if q.2.2=false then (0,8) else if (x.op=3∧(q.2.1=0∨t≠q.2.1))∨(x.op≠3∧q.2.1≠0) then (0,9) else (q.1,0)):=by
   rw[o.ie,if_neg g1,if_pos (by omega)]
  by_cases g4:x.op=4
  ·rw[if_pos g4] at hk;rw[hk];refine aH ?_;refine K.gm (c:=[_,_,_,_,_,_]) aM (Ext.refl _) rfl ?_;refine aH ?_;refine K.call (Df _ s.locals x.n _ s aT (gR.ext he) (h.ext he)) ?_;rintro _ bf ⟨⟨y,rfl,cx⟩,aw⟩;have dh:(o.fq s.locals x.n s).2.2=true→_:=fun g=>JZ g (cx g);clear cx hk;generalize o.fq s.locals x.n s=q at dh ⊢;obtain⟨vh,xq,KB⟩:=q;refine aH ?_;refine K.rS (vs:=y.enc) (fun _=>by simp -dsimp only[cJ,cw,Nat.reduceAdd,Nat.reduceEqDiff,reduceIte,reduceCtorEq,cU]) rfl rfl (by simp[o.Var.enc,Value.oneCell']) fun bq cO fo aR bI=>?_;have k3:bq.heap[cO]? = some (.cells #[.string y.name,.int .i64 y.scalar,.int .i64 y.over,.int .i64 y.aZ,.int .i64 y.ad,.int .i64 y.init] T.f):=bI;clear bI;refine aH ?_;refine K.c4 (fun g5=>?_) (fun g5=>?_);rotate_left
   ·refine aH ?_;simp only[g5,if_true];exact cg
   obtain⟨fE,z2,z3,z4,z5,DG⟩:=dh g5;have uI:kindOf y.over=0↔y.over=0:=by unfold kindOf;split<;>omega
   have xG:vh=kindOf y.scalar:=fE;have xH:xq=kindOf y.over:=z2;refine aH ?_;apply K.cond<;>intro g6
   ·refine aH ?_;refine K.call (FP y.scalar bq (by omega)) ?_;rintro _ _ ⟨rfl,rfl⟩;refine aH ?_;simp only[g5,Bool.true_eq_false,if_false,xG,xH];rw[if_neg (by rw[ne_eq,uI];omega)];exact cg
   ·refine aH ?_;simp only[g5,Bool.true_eq_false,if_false,xG,xH];rw[if_pos (.inr ⟨ag,by rw[ne_eq,uI];exact g6⟩)];exact cg
  ·rw[if_neg g4] at hk;rw[hk];refine aH ?_;refine K.gm (c:=[_,_,_,_,_,_]) aM (Ext.refl _) rfl ?_;refine aH ?_;refine K.call (Df _ s.vars x.n _ s aT (dO.ext he) (h.ext he)) ?_;rintro _ bf ⟨⟨y,rfl,cx⟩,aw⟩;have dh:(o.fq s.vars x.n s).2.2=true→_:=fun g=>JZ g (cx g);clear cx hk;generalize o.fq s.vars x.n s=q at dh ⊢;obtain⟨vh,xq,KB⟩:=q;refine aH ?_;refine K.rS (vs:=y.enc) (fun _=>by simp -dsimp only[cJ,cw,Nat.reduceAdd,Nat.reduceEqDiff,reduceIte,reduceCtorEq,cU]) rfl rfl (by simp[o.Var.enc,Value.oneCell']) fun bq cO fo aR bI=>?_;have k3:bq.heap[cO]? = some (.cells #[.string y.name,.int .i64 y.scalar,.int .i64 y.over,.int .i64 y.aZ,.int .i64 y.ad,.int .i64 y.init] T.f):=bI;clear bI;refine aH ?_;refine K.c4 (fun g5=>?_) (fun g5=>?_);rotate_left
   ·refine aH ?_;simp only[g5,if_true];exact cg
   obtain⟨fE,z2,z3,z4,z5,DG⟩:=dh g5;have uI:kindOf y.over=0↔y.over=0:=by unfold kindOf;split<;>omega
   have xG:vh=kindOf y.scalar:=fE;have xH:xq=kindOf y.over:=z2;refine aH ?_;apply K.cond<;>intro g6
   ·refine aH ?_;refine K.call (FP y.scalar bq (by omega)) ?_;rintro _ _ ⟨rfl,rfl⟩;refine aH ?_;simp only[g5,Bool.true_eq_false,if_false,xG,xH];rw[if_neg (by rw[ne_eq,uI];omega)];exact cg
   ·refine aH ?_;simp only[g5,Bool.true_eq_false,if_false,xG,xH];rw[if_pos (.inr ⟨ag,by rw[ne_eq,uI];exact g6⟩)];exact cg
 have hk:o.ie x s t=o.kK x s:=by rw[o.ie,if_neg g1,if_neg (by omega)]
 rw[hk];clear hk;refine aH ?_;apply K.cond<;>intro g5
 ·(repeat' (refine aH ?_;first | (refine K.cond (fun _=>?_) (fun _=>?_)<;>try (exfalso;omega)) | refine K.c4 (fun _=>?_) (fun _=>?_)))<;>try refine aH ?_
  all_goals
   refine⟨?_,fj⟩;rw[o.kK,if_pos g5];split<;>first | rfl | (exfalso;omega)
 refine aH ?_;apply K.cond<;>intro g6
 ·have hk:o.kK x s=o.iT x.n s:=by rw[o.kK,if_neg g5,if_pos g6]
  rw[hk];have Je:(o.iT x.n s).1=0∧((o.iT x.n s).2=0∨(o.iT x.n s).2=8):=by
   unfold o.iT; (repeat' split)<;>simp
  refine aH ?_;refine K.gm (c:=[_,_,_,_,_,_]) aM (Ext.refl _) rfl ?_;refine aH ?_;refine K.call (TJ x.n _ s aT (h.ext he)) ?_;rintro _ bf ⟨⟨y,rfl,cx⟩,aw⟩;generalize o.iT x.n s=q at *;obtain⟨dO,dP⟩:=q;obtain⟨rfl,aB⟩:=Je;refine aH ?_;refine K.rS (vs:=y.enc) (fun _=>by simp -dsimp only[cJ,cw,Nat.reduceAdd,Nat.reduceEqDiff,reduceIte,reduceCtorEq,cU]) rfl rfl (by simp[o.c5.enc,Value.oneCell']) fun bq cO fo aR bI=>?_;refine aH ?_;apply K.cond<;>intro g7
  ·refine aH ?_;have g8:dP=0:=g7;rw[g8];exact cg
  ·refine aH ?_
   have:dP=8:=aB.resolve_left g7
   rw[this];exact cg
 refine aH ?_;apply K.cond<;>intro g7
 ·have hk:o.kK x s=o.y5 x.n s:=by rw[o.kK,if_neg g5,if_neg g6,if_pos g7]
  rw[hk,o.y5];refine aH ?_;apply K.cond<;>intro g1
  ·refine aH ?_;intro bf aw;refine aH ?_;rw[if_neg (by omega)];exact cg
  rw[if_pos (by omega)];obtain⟨i,ad⟩:=Int.eq_ofNat_of_zero_le (show 0≤x.n by omega);obtain⟨_,hV⟩:=ar.n;rw[ad] at hV;have aB:x.n.tdiv 16=((i / 16:Nat):Int):=by rw[ad];rfl
  have hm:x.n.tmod 16=((i % 16:Nat):Int):=by rw[ad];rfl
  refine aH ?_;refine K.quo (by omega) ?_;rw[aB];refine aH ?_;apply K.cond<;>intro g2
  ·refine aH ?_;intro bf aw;refine aH ?_;rw[o.gQ (.inr (by omega))];exact cg
  have aU:i / 16<s.procs.length:=by omega
  rw[o.hX (by omega) (by omega)];simp only[Int.toNat_natCast];refine aH ?_;refine K.rem (by omega) ?_;refine aH ?_;refine K.quo (by omega) ?_;rw[aB];obtain⟨a,rfl⟩:=eg.addr (by omega);obtain⟨_,ct,dM,Br,_⟩:=eg.at (i / 16) aU;have IP:w.cell? ((a.add (i / 16*5)).add 2)=some (.int .i64 s.procs[i / 16].cz):=Br 2 _ rfl;refine aH ?_;refine K.ld ((aA.trans aC).cell IP) ?_;refine aH ?_;rw[hm];intro bf aw;refine aH ?_;apply K.cond<;>intro g3
  all_goals
   refine aH ?_;refine⟨?_,fj⟩
   first | rw[if_pos (by omega)] | rw[if_neg (by omega)]
 (repeat' (refine aH ?_;first | (refine K.cond (fun _=>?_) (fun _=>?_)<;>try (exfalso;omega)) | refine K.c4 (fun _=>?_) (fun _=>?_)))<;>try refine aH ?_
 all_goals
  refine⟨?_,fj⟩;rw[o.kK,if_neg g5,if_neg g6,if_neg g7,if_pos (by omega)];split<;>first | rfl | (exfalso;omega)
end Go.Proofs.R
end
section
set_option linter.unusedSimpArgs false
namespace Go.Proofs.R
open Go Go.RowKit bt
theorem Sz(au:o.oH)(k:Int):o.l9 au [k]=if au.il = -1∨k=au.il then (au.makes,0) else (0,9):=by
 simp[o.l9]
theorem acj(au:o.oH)(a b:Int):o.l9 au [a,b]=if (au.il = -1∨a=au.il)∧a=b then (au.makes,0) else (0,9):=by
 simp only[o.l9,List.all_cons,List.all_nil,List.headD_cons,Bool.and_true,decide_true];by_cases h:a=b
 ·subst h;simp
 ·have bA:¬b=a:=fun e=>h e.symm;simp[h,bA]
def rT(x:o.Node)(k:Int)(s:o.Scope):Int×Int:=match o.fX x.op with | some au=>o.l9 au [k] | none=>o.ie x s k
theorem ae5(x:o.Node)(k:Int)(cs:List Value)(s:o.Scope)(w:World)(h:o.e6 w cs s)(j7:x.op=3∨x.op=9∨x.op=10) :
  bu Tryz.prog F.Ci #[.agg x.enc.toArray,.int .i64 k,.agg cs.toArray] w fun v w'=>v = .tuple #[.int .i64 (rT x k s).1,.int .i64 (rT x k s).2]∧Ext w w':=by
 obtain⟨a0,bO,dy,c1,a2,c2,a3,bN,a4,bT,rfl,qU,dO,dP,eg,gR,eG,du,dF,dV,eo⟩:=h.form;refine bM E.Ci ?_;refine bF ?_;refine aH ?_;refine K.new fun av bC cL aA aq=>?_;refine aH ?_;refine K.new fun aT ca dB aC aM=>?_;have he:=aA.trans aC;have ez:aT.heap[bC]? = some (.cells #[.int .i64 x.op,.int .i64 x.n] T.k):=aC.obj aq;clear aq;refine aH ?_;apply K.cond<;>intro g1
 ·have a1:o.fX x.op=none:=by rw[g1];rfl
  have hk:rT x k s=(let q:=o.fq s.vars x.n s;if q.2.2=false then (0,8) else if (x.op=3∧(q.2.1=0∨k≠q.2.1))∨(x.op≠3∧q.2.1≠0) then (0,9) else (q.1,0)):=by
   rw[rT,a1];simp only;rw[o.ie,if_neg (by omega),if_pos (by omega)];simp only[show ¬x.op=4 from by omega,if_false]
  rw[hk];refine aH ?_;refine K.gm (c:=[_,_,_,_,_,_]) aM (Ext.refl _) rfl ?_;refine aH ?_;refine K.call (Df _ s.vars x.n _ s aT (dO.ext he) (h.ext he)) ?_;rintro _ bf ⟨⟨y,rfl,cx⟩,aw⟩;have dh:(o.fq s.vars x.n s).2.2=true→_:=fun g=>JZ g (cx g);clear cx hk;generalize o.fq s.vars x.n s=q at dh ⊢;obtain⟨vh,xq,KB⟩:=q;refine aH ?_;refine K.rS (vs:=y.enc) (fun _=>by simp -dsimp only[cJ,cw,Nat.reduceAdd,Nat.reduceEqDiff,reduceIte,reduceCtorEq,cU]) rfl rfl (by simp[o.Var.enc,Value.oneCell']) fun bq cO fo aR bI=>?_;have k3:bq.heap[cO]? = some (.cells #[.string y.name,.int .i64 y.scalar,.int .i64 y.over,.int .i64 y.aZ,.int .i64 y.ad,.int .i64 y.init] T.f):=bI;clear bI;refine aH ?_;refine K.c4 (fun g5=>?_) (fun g5=>?_);rotate_left
  ·refine aH ?_;simp only[g5,if_true];exact cg
  obtain⟨fE,z2,z3,z4,z5,DG⟩:=dh g5;have xG:vh=kindOf y.scalar:=fE;have xH:xq=kindOf y.over:=z2;have uI:xq=if y.over=0 then 0 else 1+y.over:=xH
  refine aH ?_;apply K.cond<;>intro g6
  ·refine aH ?_;simp only[g5,Bool.true_eq_false,if_false];rw[if_pos (.inl ⟨g1,.inl (by rw[uI,if_pos g6])⟩)];exact cg
  rw[if_neg g6] at uI;refine aH ?_;apply K.cond<;>intro g7;rotate_left
  ·refine aH ?_;simp only[g5,Bool.true_eq_false,if_false];rw[if_pos (.inl ⟨g1,.inr (by omega)⟩)];exact cg
  refine aH ?_;refine K.call (FP y.scalar bq (by omega)) ?_;rintro _ _ ⟨rfl,rfl⟩;refine aH ?_;simp only[g5,Bool.true_eq_false,if_false,xG];rw[if_neg (by omega)];exact cg
 have hS:x.op=9→rT x k s=if k=1 then (1,0) else (0,9):=by
  intro e;rw[rT,e];show o.l9 _ [k]=_;rw[Sz];simp
 have jg:x.op=10→rT x k s=if k=0 then (0,0) else (0,9):=by
  intro e;rw[rT,e];show o.l9 _ [k]=_;rw[Sz];simp
 (repeat' (refine aH ?_;first | (refine K.cond (fun _=>?_) (fun _=>?_)<;>try (exfalso;omega)) | refine K.c4 (fun _=>?_) (fun _=>?_)))<;>try refine aH ?_
 all_goals
  refine⟨?_,fj⟩;rcases j7 with e | e | e
  ·exact absurd e g1
  ·rw[hS e];split<;>first | rfl | (exfalso;omega)
  ·rw[jg e];split<;>first | rfl | (exfalso;omega)
def Dx(op a b:Int):Int×Int:=match o.fX op with | some au=>o.l9 au [a,b] | none=>(0,9)
theorem afc(op a b:Int)(w:World)(j7:11≤op∧op≤19) :
  bu Tryz.prog F.Cj #[.int .i64 op,.int .i64 a,.int .i64 b] w fun v w'=>v = .tuple #[.int .i64 (Dx op a b).1,.int .i64 (Dx op a b).2]∧w'=w:=by
 have key:Dx op a b=if a≠b then (0,9) else if op=14∨op=15 then (1,0) else if op=18∨op=19 then (if a=1 then (1,0) else (0,9)) else if op=16∨op=17 then (if a=0 then (1,0) else (0,9)) else (if a=0 then (0,0) else (0,9)):=by
  have ax:op=11∨op=12∨op=13∨op=14∨op=15∨op=16∨op=17∨op=18∨op=19:=by omega
  rcases ax with e | e | e | e | e | e | e | e | e<;>subst e <;> (show o.l9 _ [a,b]=_)<;>rw[acj]<;>by_cases Be:a=b<;>simp[Be,o.xu]
 refine bM E.Cj ?_;refine bF ?_
 (repeat' (refine aH ?_;first | (refine K.cond (fun _=>?_) (fun _=>?_)<;>try (exfalso;omega)) | refine K.c4 (fun _=>?_) (fun _=>?_)))<;>try refine aH ?_
 all_goals
  refine⟨?_,bw⟩;rw[key]
  (repeat' split)<;>first | rfl | (exfalso;omega)
end Go.Proofs.R
end
section
set_option linter.unusedSimpArgs false
namespace Go.Proofs.R
open Go Go.RowKit bt
theorem YB{s:o.Scope}{x:o.Node}{st:List Int}(h:o.eK x.op=0):o.fO s x st=o.ie x s (st.getLastD 0):=by
 unfold o.fO;rw[(F2 h).2.2.2]
theorem YC{s:o.Scope}{x:o.Node}{st:List Int}(h:o.eK x.op=1)(aP:1≤st.length):o.fO s x st=rT x st[st.length - 1] s:=by
 unfold o.fO rT;cases a1:o.fX x.op with
 | none=>simp only;rw[Ik st (by omega)]
 | some au =>
  have:=(o.CV a1).1
  simp only;rw[show au.parts.toNat=1 from by omega,HP aP]
theorem YD{s:o.Scope}{x:o.Node}{st:List Int}(h:o.eK x.op=2)(aP:2≤st.length):o.fO s x st=Dx x.op st[st.length - 2] st[st.length - 1]:=by
 unfold o.fO Dx;obtain⟨au,a1,aO⟩:=Tj (show 9≤x.op∧x.op≤19 by have:=F3 h;omega);rw[a1];simp only;rw[show au.parts.toNat=2 from by omega,Pt aP]
theorem TN(hs:Value)(e:List o.Node)(cs:List Value)(s:o.Scope)(w:World)(he:o.fG w hs e)(h:o.e6 w cs s) :
  bu Tryz.prog F.zc #[hs,.agg cs.toArray] w fun v w'=>v = .tuple #[.int .i64 (o.kind e s).1,.int .i64 (o.kind e s).2]∧Ext w w':=by
 obtain⟨v0,v1,v2,v3,v4,rfl,_⟩:=h.ex;obtain⟨bl,cap,rfl,hlen⟩:=he.form;refine bM E.zc ?_;refine bF ?_;refine aH ?_;refine K.new fun av db uQ aA aq=>?_;refine aH ?_;apply K.cond<;>intro g1
 ·refine aH ?_;rw[o.kind,o.jU,if_pos (by omega)];exact cg
 refine aH ?_;apply K.cond<;>intro g2
 ·refine aH ?_;rw[o.kind,o.jU,if_neg (by omega),if_pos (by omega)];exact cg
 refine aH ?_;refine K.yz 7 e.length (fun k S w' => ∃v st,S 6=v∧la av.heap.size w' v st∧o.eL (o.fO s) (e.take k) []=(0,st)∧(0<k→1≤st.length)∧st.length≤12∧Ext av w')
  (by simp -dsimp only[cJ,cw,Nat.reduceAdd,Nat.reduceEqDiff,reduceIte,reduceCtorEq,cU]) ⟨.slice none 0 0,[],by simp -dsimp only[cJ,cw,Nat.reduceAdd,Nat.reduceEqDiff,reduceIte,reduceCtorEq,cU],bs.nil _ _ _ _ _,by simp[o.eL],by simp,by simp,Ext.refl _⟩ ?_
 rintro k S aT ck hk b6 ⟨v6,st,bD,fI,gC,Ba,pG,aC⟩;have aj:=ck 0 rfl;have ag:=ck 3 rfl;simp only[cd,Nat.reduceAdd,Nat.reduceEqDiff,reduceIte,iC,ln] at aj ag;clear ck;obtain⟨ve,pB,rfl,dr,qE⟩:=fI.form;have ad:Ints aT _ st:=bs.rZ (enc:=encI) (sz:=1) (fun _=>rfl) fI;unfold maxLen at qE;refine cY (And.intro aj (And.intro ag (And.intro bD b6))) ?_;apply K.cond<;>intro g3;rotate_left
 ·have bh:k=e.length:=by omega
  subst bh;rw[List.take_length] at gC;have h1:=Ba (by omega);obtain⟨a,rfl⟩:=ad.addr h1;have e9:o.kind e s=if st.length > 1 then (0,5) else (st.headD 0,0):=by
   rw[o.kind,o.jU,if_neg (by omega),if_neg (by omega),gC,if_neg (by simp)]
  rw[e9];clear e9;refine cY (And.intro aj (And.intro ag (And.intro bD b6))) ?_;apply K.cond<;>intro g4
  ·refine aH ?_;rw[if_pos (by omega)];exact cg
  ·refine cY (And.intro aj (And.intro ag (And.intro bD b6))) ?_;refine K.dk 0 rfl (by omega) ?_;refine aH ?_;rw[if_neg (by omega)]
   have:st.headD 0=st[0]:=by
    cases st with
    | nil=>simp at h1
    | cons z st=>rfl
   rw[this];exact cg
 have bh:k<e.length:=by omega
 obtain⟨a,rfl⟩:=he.addr (by omega);have rL:=(he.at k bh).ok;have jj:=fun aj=>o.KU (f:=o.fO s) (e:=e) (by omega) bh gC aj;have rG:=o.vj bh gC;have A8:=aA.trans aC;have eb:=aC.obj aq;refine cY (And.intro aj (And.intro ag (And.intro bD b6))) ?_;refine K.call (UL e[k].op aT) ?_;rintro _ _ ⟨rfl,rfl⟩;generalize aI:o.eK e[k].op=n at *;have jE : -1≤n∧n≤2:=by rw[←aI];unfold o.eK; (repeat' split)<;>omega
 refine cY (And.intro aj (And.intro ag (And.intro bD b6))) ?_;apply K.cond<;>intro g4
 ·have ay:o.stepG (o.fO s) e[k] st=(3,st):=by unfold o.stepG;rw[aI,if_pos g4]
  rw[ay] at jj;refine aH ?_;rw[o.kind,jj (by simp)];exact cg
 refine cY (And.intro aj (And.intro ag (And.intro bD b6))) ?_;apply K.cond<;>intro g5
 ·have ay:o.stepG (o.fO s) e[k] st=(4,st):=by unfold o.stepG;rw[aI,if_neg g4,if_pos g5]
  rw[ay] at jj;refine aH ?_;rw[o.kind,jj (by simp)];exact cg
 obtain⟨p,rfl⟩:=Int.eq_ofNat_of_zero_le (show 0≤n by omega);have ec:o.stepG (o.fO s) e[k] st=if (o.fO s e[k] st).2≠0 then ((o.fO s e[k] st).2,st) else if (st.take (st.length - p)++[(o.fO s e[k] st).1]).length > 12 then (12,st) else (0,st.take (st.length - p)++[(o.fO s e[k] st).1]):=by
  unfold o.stepG;rw[aI,if_neg g4,if_neg g5];simp only[Int.toNat_natCast]
 have gB:(st.take (st.length - p)++[(o.fO s e[k] st).1]).length=st.length - p+1:=by simp[List.length_take]
 rw[gB] at ec;have fin:p=0∨p=1∨p=2:=by omega
 rcases fin with sX | sX | sX
 ·have aN:=YB (s:=s) (st:=st) (x:=e[k]) (by omega);obtain⟨fE,z2,z3,z4⟩:=F2 (x:=e[k].op) (by omega);refine cY (And.intro aj (And.intro ag (And.intro bD b6))) ?_;refine K.gm (c:=[_,_,_,_,_,_]) eb (Ext.refl _) rfl ?_;refine cY (And.intro aj (And.intro ag (And.intro bD b6))) ?_;refine K.gn _ (fun w' e'=>ae0 e[k] _ s w' rL (h.ext (A8.trans e')) ⟨fE,z2⟩ z3 (st.getLastD 0)) ?_;rw[←aN];refine cY (And.intro aj (And.intro ag (And.intro bD b6))) ?_;intro bf aw;refine cY (And.intro aj (And.intro ag (And.intro bD b6))) ?_;apply K.cond<;>intro g6;rotate_left
  ·rw[if_pos g6] at ec;refine aH ?_;rw[o.kind,jj (by rw[ec];exact g6),ec];exact cg
  rw[if_neg (by simpa using g6)] at ec;have eY:=fI.ext aw;refine cY (And.intro aj (And.intro ag (And.intro bD b6))) ?_;refine K.kt (cs:=[]) (by simp[List.range,List.range.loop,ew]) fun bq cO fo aR bI=>?_;have z12:=aC.size;have z23:=aw.size;have zU:=aR.size;have qv:la av.heap.size bq (.slice (some ⟨cO,0,none⟩) 0 0) []:=bs.empty (by omega) bI;have ey:=eY.ext aR;have ea:la av.heap.size bq (.slice _ (st.length - p) _) (st.take (st.length - p)):=bs.head (enc:=encI) (sz:=1) (xs:=st) (fun _=>rfl) ey (st.length - p) (Nat.sub_le _ _);have cq:(st.take (st.length - p)).length=st.length - p:=by simp[List.length_take]
  refine cY (And.intro aj (And.intro ag (And.intro bD b6))) ?_;refine K.rY (st.length - p) (by refine b2 bD ?_;first | rfl | (congr 1;omega)) (by omega) ?_;refine aH ?_;refine K.x2 (xs:=[]) (ys:=st.take (st.length - p)) qv ea (fun _=>rfl) pF (by rw[cq];simp only[List.length_nil];omega) (by rw[cq];simp only[List.length_nil,maxLen];omega) (by omega) fun v5 bS l5 kD=>?_;have l4:Ext bf bS:=aR.grown kD fun q aB=>by simp[Value.ownBlock] at aB;omega
  rw[List.nil_append] at l5;have z35:=l4.size;refine aH ?_;refine K.kt (cs:=[(o.fO s e[k] st).1].flatMap encI) (by simp[List.range,List.range.loop,ew,lay,fv,cd,Value.cells,encI]) fun bX ix gM bk dr=>?_;have xI:=bk.size;have dn:=l5.ext bk;refine aH ?_;refine K.ra (xs:=st.take (st.length - p)) (ys:=[(o.fO s e[k] st).1]) dn (fun _=>rfl) (gK dr) rfl pF (by rw[cq];simp only[List.length_cons,List.length_nil];omega) (by rw[cq];simp only[List.length_cons,List.length_nil,maxLen];omega) (by omega) fun zP cn dX ji=>?_;have bR:Ext av cn:=Ext.grown (((aC.trans aw).trans l4).trans bk) ji fun q aB=>(dn.lt q aB).1;obtain⟨CU,vV,rfl,_⟩:=dX.form;rw[gB] at dX ⊢;by_cases g7:12<st.length - p+1
  ·rw[if_pos (by omega)] at ec
   first
    | (exfalso;omega)
    | (refine aH ?_
       rw[o.kind,jj (by rw[ec];simp),ec];exact⟨bw,aA.trans bR⟩)
  rw[if_neg (by omega)] at ec;refine cY b6 ?_;refine⟨bh,bw,_,_,rfl,dX,by rw[rG,ec],fun _=>by rw[gB];omega,by rw[gB];omega,bR⟩
 ·have aN:=YC (s:=s) (st:=st) (x:=e[k]) (by omega) (by omega);obtain⟨lf,rfl⟩:=ad.addr (by omega);refine cY (And.intro aj (And.intro ag (And.intro bD b6))) ?_;refine K.dk (st.length - 1) (by omega) (by omega) ?_;refine cY (And.intro aj (And.intro ag (And.intro bD b6))) ?_;refine K.gm (c:=[_,_,_,_,_,_]) eb (Ext.refl _) rfl ?_;refine cY (And.intro aj (And.intro ag (And.intro bD b6))) ?_;refine K.gn _ (fun w' e'=>ae5 e[k] _ _ s w' (h.ext (A8.trans e')) (Tc (by omega))) ?_;rw[←aN];refine cY (And.intro aj (And.intro ag (And.intro bD b6))) ?_;intro bf aw;refine cY (And.intro aj (And.intro ag (And.intro bD b6))) ?_;apply K.cond<;>intro g6;rotate_left
  ·rw[if_pos g6] at ec;refine aH ?_;rw[o.kind,jj (by rw[ec];exact g6),ec];exact cg
  rw[if_neg (by simpa using g6)] at ec;have eY:=fI.ext aw;refine cY (And.intro aj (And.intro ag (And.intro bD b6))) ?_;refine K.kt (cs:=[]) (by simp[List.range,List.range.loop,ew]) fun bq cO fo aR bI=>?_;have z12:=aC.size;have z23:=aw.size;have zU:=aR.size;have qv:la av.heap.size bq (.slice (some ⟨cO,0,none⟩) 0 0) []:=bs.empty (by omega) bI;have ey:=eY.ext aR;have ea:la av.heap.size bq (.slice _ (st.length - p) _) (st.take (st.length - p)):=bs.head (enc:=encI) (sz:=1) (xs:=st) (fun _=>rfl) ey (st.length - p) (Nat.sub_le _ _);have cq:(st.take (st.length - p)).length=st.length - p:=by simp[List.length_take]
  refine cY (And.intro aj (And.intro ag (And.intro bD b6))) ?_;refine K.rY (st.length - p) (by refine b2 bD ?_;first | rfl | (congr 1;omega)) (by omega) ?_;refine aH ?_;refine K.x2 (xs:=[]) (ys:=st.take (st.length - p)) qv ea (fun _=>rfl) pF (by rw[cq];simp only[List.length_nil];omega) (by rw[cq];simp only[List.length_nil,maxLen];omega) (by omega) fun v5 bS l5 kD=>?_;have l4:Ext bf bS:=aR.grown kD fun q aB=>by simp[Value.ownBlock] at aB;omega
  rw[List.nil_append] at l5;have z35:=l4.size;refine aH ?_;refine K.kt (cs:=[(o.fO s e[k] st).1].flatMap encI) (by simp[List.range,List.range.loop,ew,lay,fv,cd,Value.cells,encI]) fun bX ix gM bk dr=>?_;have xI:=bk.size;have dn:=l5.ext bk;refine aH ?_;refine K.ra (xs:=st.take (st.length - p)) (ys:=[(o.fO s e[k] st).1]) dn (fun _=>rfl) (gK dr) rfl pF (by rw[cq];simp only[List.length_cons,List.length_nil];omega) (by rw[cq];simp only[List.length_cons,List.length_nil,maxLen];omega) (by omega) fun zP cn dX ji=>?_;have bR:Ext av cn:=Ext.grown (((aC.trans aw).trans l4).trans bk) ji fun q aB=>(dn.lt q aB).1;obtain⟨CU,vV,rfl,_⟩:=dX.form;rw[gB] at dX ⊢;by_cases g7:12<st.length - p+1
  ·rw[if_pos (by omega)] at ec
   first
    | (exfalso;omega)
    | (refine aH ?_
       rw[o.kind,jj (by rw[ec];simp),ec];exact⟨bw,aA.trans bR⟩)
  rw[if_neg (by omega)] at ec;refine cY b6 ?_;refine⟨bh,bw,_,_,rfl,dX,by rw[rG,ec],fun _=>by rw[gB];omega,by rw[gB];omega,bR⟩
 ·have aN:=YD (s:=s) (st:=st) (x:=e[k]) (by omega) (by omega);obtain⟨lf,rfl⟩:=ad.addr (by omega);refine cY (And.intro aj (And.intro ag (And.intro bD b6))) ?_;refine K.dk (st.length - 2) (by omega) (by omega) ?_;refine cY (And.intro aj (And.intro ag (And.intro bD b6))) ?_;refine K.dk (st.length - 1) (by omega) (by omega) ?_;refine cY (And.intro aj (And.intro ag (And.intro bD b6))) ?_;refine K.gn _ (fun w' e'=>(afc e[k].op _ _ w' (F3 (by omega))).mono fun v bZ h=>⟨h.1,h.2 ▸ Ext.refl _⟩) ?_;rw[←aN];refine cY (And.intro aj (And.intro ag (And.intro bD b6))) ?_;intro bf aw;refine cY (And.intro aj (And.intro ag (And.intro bD b6))) ?_;apply K.cond<;>intro g6;rotate_left
  ·rw[if_pos g6] at ec;refine aH ?_;rw[o.kind,jj (by rw[ec];exact g6),ec];exact cg
  rw[if_neg (by simpa using g6)] at ec;have eY:=fI.ext aw;refine cY (And.intro aj (And.intro ag (And.intro bD b6))) ?_;refine K.kt (cs:=[]) (by simp[List.range,List.range.loop,ew]) fun bq cO fo aR bI=>?_;have z12:=aC.size;have z23:=aw.size;have zU:=aR.size;have qv:la av.heap.size bq (.slice (some ⟨cO,0,none⟩) 0 0) []:=bs.empty (by omega) bI;have ey:=eY.ext aR;have ea:la av.heap.size bq (.slice _ (st.length - p) _) (st.take (st.length - p)):=bs.head (enc:=encI) (sz:=1) (xs:=st) (fun _=>rfl) ey (st.length - p) (Nat.sub_le _ _);have cq:(st.take (st.length - p)).length=st.length - p:=by simp[List.length_take]
  refine cY (And.intro aj (And.intro ag (And.intro bD b6))) ?_;refine K.rY (st.length - p) (by refine b2 bD ?_;first | rfl | (congr 1;omega)) (by omega) ?_;refine aH ?_;refine K.x2 (xs:=[]) (ys:=st.take (st.length - p)) qv ea (fun _=>rfl) pF (by rw[cq];simp only[List.length_nil];omega) (by rw[cq];simp only[List.length_nil,maxLen];omega) (by omega) fun v5 bS l5 kD=>?_;have l4:Ext bf bS:=aR.grown kD fun q aB=>by simp[Value.ownBlock] at aB;omega
  rw[List.nil_append] at l5;have z35:=l4.size;refine aH ?_;refine K.kt (cs:=[(o.fO s e[k] st).1].flatMap encI) (by simp[List.range,List.range.loop,ew,lay,fv,cd,Value.cells,encI]) fun bX ix gM bk dr=>?_;have xI:=bk.size;have dn:=l5.ext bk;refine aH ?_;refine K.ra (xs:=st.take (st.length - p)) (ys:=[(o.fO s e[k] st).1]) dn (fun _=>rfl) (gK dr) rfl pF (by rw[cq];simp only[List.length_cons,List.length_nil];omega) (by rw[cq];simp only[List.length_cons,List.length_nil,maxLen];omega) (by omega) fun zP cn dX ji=>?_;have bR:Ext av cn:=Ext.grown (((aC.trans aw).trans l4).trans bk) ji fun q aB=>(dn.lt q aB).1;obtain⟨CU,vV,rfl,_⟩:=dX.form;rw[gB] at dX ⊢;by_cases g7:12<st.length - p+1
  ·rw[if_pos (by omega)] at ec
   first
    | (exfalso;omega)
    | (refine aH ?_
       rw[o.kind,jj (by rw[ec];simp),ec];exact⟨bw,aA.trans bR⟩)
  rw[if_neg (by omega)] at ec;refine cY b6 ?_;refine⟨bh,bw,_,_,rfl,dX,by rw[rG,ec],fun _=>by rw[gB];omega,by rw[gB];omega,bR⟩
end Go.Proofs.R
end