/- Texts joined: ReaH ReaW ReaI ReaT ReaN LibB ReaO StaB StaC StaD StaE StaF StaG StaH StaI StaJ LiteI LiteJ LiteK LiteL StaK ReaR MovP StaT StaU LiteT LiteU StaV StaX StaY MovA MovB ComA MovC MovD MovQ ExprK ExprL ExprN ExprR ExprS MovE MovF MovG ReaU ReaX ModQ LabP DepP DepA DepB DepC LabQ StaL StaW StbA StbB LabA LabD. -/
import Derived.Test.YtfdohkdifdemeaaGreatDoorQdtd
import Derived.Test.YtfdohkdifdemeaaGreatDoorQdtg
import Derived.Test.YtfdohkdifdemeaaGreatDoorQdti
import Derived.Test.YtfdohkdifdemeaaGreatDoorQdtj
import Derived.Test.YtfdohkdifdemeaaGreatDoorQdtk
import Derived.Test.YtfdohkdifdemeaaGreatDoorQdtm
import Derived.Test.YtfdohkdifdemeaaGreatDoorQdtn
import Derived.Laws.Bits64b
import Derived.Lib.AppendZerosOnto
set_option linter.all false
set_option maxRecDepth 8000
set_option maxHeartbeats 16000000
section
namespace bt
open Go Go.RowKit
structure iE(e:TypeId)(base:Nat)(w:World)(v1:Value)(dB:List Int)(v2:Value)(dH:List Int):Prop where
 eO:bg c4 e 1 base w v1 dB
 fc:bg c4 e 1 base w v2 dH
 ap:∀k,v1.ownBlock=some k→v2.ownBlock≠some k
theorem iE.symm{e:TypeId}{base:Nat}{w:World}{v1 v2:Value}{dB dH:List Int}(h:iE e base w v1 dB v2 dH):iE e base w v2 dH v1 dB:=⟨h.fc,h.eO,fun k a b=>h.ap k b a⟩
theorem iE.ext{e:TypeId}{base:Nat}{w w':World}{v1 v2:Value}{dB dH:List Int}(h:iE e base w v1 dB v2 dH)(he:Ext w w'):iE e base w' v1 dB v2 dH:=⟨h.eO.ext he,h.fc.ext he,h.ap⟩
theorem iE.app{P:Program}{di:Value→World→Prop}{e:TypeId}{base:Nat}{w:World}{v1 v2 x:Value}{dB dH ys:List Int}{ty:TypeId}{t}(h:iE e base w v1 dB v2 dH)(av:bG 1 (Flat c4) w x ys)(a1:dB.length+ys.length≤100000)(aB:base≤w.heap.size)
  (hk:∀bm n c w',iE e base w' (.slice bm n c) (dB++ys) v2 dH→w.grownBy w' v1.ownBlock→di (.slice bm n c) w'):mg P ty e 1 8 v1 x w di t:=by
 have key:∀ck w',bg c4 e 1 base w' ck (dB++ys)→w.grownBy w' v1.ownBlock→(ck.ownBlock=v1.ownBlock∨ck.ownBlock=some w.heap.size)→di ck w':=fun ck w' h1 U ah=>by
  obtain⟨bm,cap,rfl,_⟩:=h1.form;refine hk _ _ _ _ ⟨h1,h.fc.mod (Mod.grown (A:=fun k=>v1.ownBlock=some k) U fun k e=>e) fun k a b=>h.ap k b a,fun k a b=>?_⟩ U;rcases ah with ah | ah
  ·exact h.ap k (ah ▸ a) b
  ·have:=(h.fc.lt k b).2
   rw[a] at ah;injection ah with ah
   omega
 obtain⟨bm,cap,rfl,h1,U,ah,aJ⟩:=av.ex;cases bm with
 | some a=>exact K.u0 h.eO (fun _=>rfl) (bG.flat (enc:=c4) (fun _=>rfl) (fun _ _ h=>h) ⟨some a,cap,rfl,h1,U,ah,aJ⟩) rfl j1 (by omega) (by unfold maxLen;omega) aB key
 | none =>
  have:ys=[]:=Classical.byContradiction fun aH=>by have:=ah aH;cases this
  subst this;rw[List.append_nil] at key;refine K.app fun⟨aL,i,z,af,bL,Dn,CK,Ac,LA⟩=>?_;exact⟨ty,v1,w,run_append_owned_none w base ty ty e i 1 aL af v1 _ _ h.eO,key v1 w h.eO ⟨rfl,rfl,rfl,Nat.le_refl _,fun _ _ _=>rfl⟩ (.inl rfl)⟩
end bt
end
section
namespace bt
open Go Go.RowKit
section
variable{P:Program}{C:World→Prop}{S:Fr}{w:World}{K:Fr→World→Prop}
theorem cI.aeV{d x i sz len cap k:Nat}{r:eD}{a:Addr}(av:S x = .slice (some a) len cap)(af:S i = .int .i64 k)(hk:k<len)(h:cI P C r (cc S d (.pointer (some (a.add (k*sz))))) w K):cI P C (.take ⟨some d,none,.p (.ib sz (.tmp x) (.tmp i))⟩ r) S w K:=by
 refine cI.p ?_;rw[ag0];show yF sz (S x) (S i) _;rw[av,af];exact Uz k rfl hk h
theorem cI.Yx{d x:Nat}{ty:TypeId}{n m:Int}{r:eD}(av:S x = .int .i64 n)(bd : -9223372036854775808≤n+m∧n+m≤9223372036854775807)(h:cI P C r (cc S d (.int .i64 (n+m))) w K):cI P C (.take ⟨some d,none,.p (.bin .add ty (.tmp x) (.const (.int .i64 m)))⟩ r) S w K:=by
 refine cI.p ?_;rw[VT];show ln P .add ty _ _ (S x) (.int .i64 m) _;rw[av,I5];exact wrap_i64 bd h
theorem cI.Yw{d x y:Nat}{ty:TypeId}{n m:Int}{r:eD}(av:S x = .int .i64 n)(bS:S y = .int .i64 m)(bd : -9223372036854775808≤n+m∧n+m≤9223372036854775807)(h:cI P C r (cc S d (.int .i64 (n+m))) w K):cI P C (.take ⟨some d,none,.p (.bin .add ty (.tmp x) (.tmp y))⟩ r) S w K:=by
 refine cI.p ?_;rw[VT];show ln P .add ty _ _ (S x) (S y) _;rw[av,bS,I5];exact wrap_i64 bd h
end
theorem JV{w w':World}{row:Option Nat}{a:Addr}{v:Value}(aV:w.grownBy w' row)(aw:w.cell? a=some v)(aH:row≠some a.block):w'.cell? a=some v:=by
 have cB:a.block<w.heap.size:=by
  unfold World.cell? at aw;cases aB:w.heap[a.block]? with
  | none=>rw[aB] at aw;cases aw
  | some ak=>exact cy aB
 rw[←aw];simp only[World.cell?,aV.block a.block cB (Ne.symm aH)]
theorem Eo{w:World}{b:Nat}{y:Int}{e:TypeId}(h:w.heap[b]? = some (.cells #[.int .i64 y] e)):bG 1 (Flat c4) w (.slice (some ⟨b,0,none⟩) 1 1) [y] :=
 bg.fB (enc:=c4) (fun _=>rfl) (bg.wV (base:=0) (enc:=c4) (sz:=1) [y] (cs:=[.int .i64 y]) h (Nat.zero_le _) rfl (fun _=>rfl) rfl (by show 1≤maxLen;unfold maxLen;decide))
end bt
namespace Go.Proofs.R
open Go Go.RowKit bt
def XI:eD :=
 (.take (I 173 11) (.take (I 174 14) (.take (ag 176 2 9) (.take (ae 177 176) (.take (I 178 6) (.take (bc 179 1 177 178) (.take (ae 180 179) (.take (az .add T.a 181 180 1) (.take (ag 182 2 13) (.take (ae 183 182) (.take (bl .add T.a 184 181 183) (.alt (ay 175 (.app T.c T.a 1 8 (ab 173) (ab 174))) (.bT (ay 185 (.cQ T.a 1 1 [(.int .i64 0)] [(0,(ab 184))])) (.bT (ay 186 (.app T.c T.a 1 8 (ab 175) (ab 185))) (.take (I 11 186) .done) .nil) .nil) (.bT (ay 185 (.cQ T.a 1 1 [(.int .i64 0)] [(0,(ab 184))])) (.alt (ay 175 (.app T.c T.a 1 8 (ab 173) (ab 174))) (.bT (ay 186 (.app T.c T.a 1 8 (ab 175) (ab 185))) (.take (I 11 186) .done) .nil) .nil) .nil)))))))))))))
theorem aj0{w:World}{S:Fr}{di:Fr→World→Prop}{base b9 b13 q ni ci:Nat}{a2:Addr}{iq tl:Int}{vw vr:Option Addr×Nat×Nat}{lw lr ys:List Int}{va:Value}
  (zu:S 11=cg vw)(zv:S 14=va)(hi:S 9 = .pointer (some ⟨b9,0,none⟩))(bY:S 6 = .int .i64 q)(xg:S 13 = .pointer (some ⟨b13,0,none⟩))
  (c1:w.cell? (Addr.add ⟨b9,0,none⟩ 2)=some (.slice (some a2) ni ci))(c2:w.cell? (a2.add (q*1))=some (.int .i64 iq))(bJ:w.cell? (Addr.add ⟨b13,0,none⟩ 2)=some (.int .i64 tl))(aR:q<ni)(alC:0≤iq∧iq≤1000∧0≤tl∧tl≤1000)
  (ka:(cg vw).ownBlock≠some b9)(jw:(cg vw).ownBlock≠some a2.block)(mQ:(cg vw).ownBlock≠some b13)
  (hj:iE T.a base w (cg vr) lr (cg vw) lw)(dP:bG 1 (Flat c4) w va ys)(rh:lw.length+ys.length+1≤100000)(aB:base≤w.heap.size)
  (hk:∀a8 w' Im,(∀t,t<11∨(11<t∧t<173)→a8 t=S t)→a8 11=cg Im→iE T.a base w' (cg vr) lr (cg Im) (lw++ys++[iq+1+tl])→(∀w0,Ext w0 w→w0.heap.size≤base→Ext w0 w')→di a8 w'):∃C:World→Prop,C w∧cI Tryz.prog C XI S w di:=by
 refine⟨fun w=>w.cell? (Addr.add ⟨b9,0,none⟩ 2)=some (.slice (some a2) ni ci)∧w.cell? (a2.add (q*1))=some (.int .i64 iq)∧w.cell? (Addr.add ⟨b13,0,none⟩ 2)=some (.int .i64 tl),⟨c1,c2,bJ⟩,?_⟩;unfold XI;refine cI.l7 zu ?_;refine cI.l7 (v:=va) (by simp[b6,zv]) ?_;refine cI.jK (a:=⟨b9,0,none⟩) (by simp[b6,hi]) ?_;refine cI.ld (v:=.slice (some a2) ni ci) (by simp[b6]) (fun w' m=>m.1) ?_;refine cI.l7 (v:=.int .i64 q) (by simp[b6,bY]) ?_;refine cI.aeV (a:=a2) (len:=ni) (cap:=ci) (k:=q) (by simp[b6]) (by simp[b6]) aR ?_;refine cI.ld (v:=.int .i64 iq) (by simp[b6]) (fun w' m=>m.2.1) ?_;refine cI.Yx (n:=iq) (m:=1) (by simp[b6]) (by omega) ?_;refine cI.jK (a:=⟨b13,0,none⟩) (by simp[b6,xg]) ?_;refine cI.ld (v:=.int .i64 tl) (by simp[b6]) (fun w' m=>m.2.2) ?_;refine cI.Yw (n:=iq+1) (m:=tl) (by simp[b6]) (by simp[b6]) (by omega) ?_;generalize pk:cc _ 184 _=o7;have zr:∀t,t<173→o7 t=S t:=by
  subst pk;intro t aL;simp only[b6];rw[if_neg (by omega),if_neg (by omega),if_neg (by omega),if_neg (by omega),if_neg (by omega),if_neg (by omega),if_neg (by omega),if_neg (by omega),if_neg (by omega),if_neg (by omega),if_neg (by omega)]
 have RR:o7 173=cg vw:=by subst pk;simp[b6]
 have RS:o7 174=va:=by subst pk;simp[b6]
 have RU:o7 184 = .int .i64 (iq+1+tl):=by subst pk;simp[b6]
 clear pk;have oO:∀{aq aU:World} {row:Option Nat},aq.grownBy aU row→(row≠some b9∧row≠some a2.block∧row≠some b13)→(aq.cell? (Addr.add ⟨b9,0,none⟩ 2)=some (.slice (some a2) ni ci)∧aq.cell? (a2.add (q*1))=some (.int .i64 iq)∧aq.cell? (Addr.add ⟨b13,0,none⟩ 2)=some (.int .i64 tl)) →
   (aU.cell? (Addr.add ⟨b9,0,none⟩ 2)=some (.slice (some a2) ni ci)∧aU.cell? (a2.add (q*1))=some (.int .i64 iq)∧aU.cell? (Addr.add ⟨b13,0,none⟩ 2)=some (.int .i64 tl)):=fun aV aH h =>
  ⟨JV aV h.1 (by rw[uZ];exact aH.1),JV aV h.2.1 (by rw[uZ];exact aH.2.1),JV aV h.2.2 (by rw[uZ];exact aH.2.2)⟩
 have out:∀{aq aU:World} {v:Value} {l:List Int},bg c4 T.a 1 base aq v l→aq.grownBy aU v.ownBlock→(∀w0,Ext w0 w→w0.heap.size≤base→Ext w0 aq)→∀w0,Ext w0 w→w0.heap.size≤base→Ext w0 aU:=fun aZ aV h w0 e aB=>(h w0 e aB).grown aV fun k hk=>Nat.le_trans aB (aZ.lt k hk).1;refine⟨kh.e ?_,lC.e ?_,trivial⟩
 ·rw[B5];unfold ab;rw[fD,fD,RR,RS];refine BD fun t=>iE.app hj.symm dP (by omega) aB fun bm n c aq Ct xB=>⟨oO xB ⟨ka,jw,mQ⟩ ⟨c1,c2,bJ⟩,?_⟩;have g1:=out hj.fc xB fun w0 e _=>e;refine cI.r7 (lC.e ?_);have he:Ext aq (aq.alloc (.cells #[.int .i64 (iq+1+tl)] T.a)):=(Ext.refl aq).alloc _;have bB:=heap_alloc_new aq (.cells #[.int .i64 (iq+1+tl)] T.a);rw[JF];refine wU (cs:=[.int .i64 (iq+1+tl)]) (Cp (by simp[gd,b6,RU])) ?_;show cI _ _ _ _ (aq.alloc (.cells #[.int .i64 (iq+1+tl)] T.a)) _;generalize aq.alloc (.cells #[.int .i64 (iq+1+tl)] T.a)=aU at he bB;have bL:=xB.size;have sv:=he.size;refine cI.r7 (lC.e ?_);rw[B5];rw[fD,fD];simp only[gd,b6,Nat.reduceEqDiff,if_false,if_true];refine BD fun t=>iE.app (Ct.ext he) (Eo bB) (by rw[List.length_append];simp only[List.length_singleton];omega) (by omega) fun iR hB kj aY J3 C0=>?_;refine cI.l7 (v:=.slice iR hB kj) (by simp[gd,b6]) ?_;refine hk _ _ (iR,hB,kj) (fun t aL=>?_) (by simp[b6]) J3.symm (out (Ct.ext he).eO C0 fun w0 e aB=>(g1 w0 e aB).trans he);simp only[gd,b6];rw[if_neg (by omega),if_neg (by omega),if_neg (by omega),if_neg (by omega)];exact zr t (by omega)
 ·have he:Ext w (w.alloc (.cells #[.int .i64 (iq+1+tl)] T.a)):=(Ext.refl w).alloc _;have bB:=heap_alloc_new w (.cells #[.int .i64 (iq+1+tl)] T.a);rw[JF];refine wU (cs:=[.int .i64 (iq+1+tl)]) (Cp (by simp[ab,gd,b6,RU])) ?_;show cI _ _ _ _ (w.alloc (.cells #[.int .i64 (iq+1+tl)] T.a)) _;generalize w.alloc (.cells #[.int .i64 (iq+1+tl)] T.a)=aq at he bB;have bL:=he.size;refine cI.wQ (kh.e ?_);rw[B5];unfold ab;rw[fD,fD];simp only[gd,b6,Nat.reduceEqDiff,if_false,RR,RS];have Ct:=hj.ext he;refine BD fun t=>iE.app Ct.symm (dP.ext Flat.ext he) (by omega) (by omega) fun bm n c aU SK GZ=>⟨oO GZ ⟨ka,jw,mQ⟩ ⟨he.cell c1,he.cell c2,he.cell bJ⟩,?_⟩;have g2:=out Ct.fc GZ fun w0 e _=>e.trans he;have sv:=GZ.size;have bH:aU.heap[w.heap.size]? = some (.cells #[.int .i64 (iq+1+tl)] T.a):=by
   rw[GZ.block _ (by have:=cy bB;omega) fun e=>?_]
   ·exact bB
   ·have:=(hj.fc.lt _ e.symm).2
    omega
  refine cI.r7 (lC.e ?_);rw[B5];rw[fD,fD];simp only[gd,b6,Nat.reduceEqDiff,if_false,if_true];refine BD fun t=>iE.app SK (Eo bH) (by rw[List.length_append];simp only[List.length_singleton];omega) (by omega) fun iR hB kj aY J3 C0=>?_;refine cI.l7 (v:=.slice iR hB kj) (by simp[gd,b6]) ?_;refine hk _ _ (iR,hB,kj) (fun t aL=>?_) (by simp[b6]) J3.symm (out SK.eO C0 g2);simp only[gd,b6];rw[if_neg (by omega),if_neg (by omega),if_neg (by omega),if_neg (by omega)];exact zr t (by omega)
end Go.Proofs.R
end
section
namespace o
open Go
theorem Yo{m:Model}(bq:ff m){q p:Nat}(h:fW m q p){a:Act}(bu:uO (inner (m.procs[p]'(h.aW)) (ez m)) a):eI 3072 (nd m q a):=by
 unfold nd;by_cases bk:a.kind=5
 ·rw[if_pos bk,if_neg (by omega),if_neg (by omega),if_pos bk,List.nil_append];exact(zg bq (bu.chan (.inr bk)).2).mono (by omega)
 ·rw[if_neg bk];refine eI.app (b:=1536) (tq bq h (bu.val bk) (Nat.le_refl _)) ?_ (by omega);by_cases U:a.kind=2
  ·rw[if_pos U];exact tq bq h (bu.item U).2.2 (Nat.le_refl _)
  rw[if_neg U];by_cases aJ:a.kind=4
  ·rw[if_pos aJ]
   have:=s9 bq (bu.chan (.inl aJ)).2
   exact eI.row (by omega) (by omega)
  ·rw[if_neg aJ,if_neg bk];exact eI.nil _
theorem HS{m:Model}(bq:ff m){q p:Nat}(h:fW m q p){c:dL}(aw:wq (inner (m.procs[p]'(h.aW)) (ez m)) c):∀n,n≤c.cn.length→eI (1537+3072*n) (oU m q c n)
 | 0,_=>by
  unfold oU;simpa using JW bq h aw
 | n+1,aH=>by
  rw[Wf (by omega)];exact eI.app (HS bq h aw n (by omega)) (Yo bq h (aw.act n (by omega))) (by omega)
theorem ah3{l sy r:List Int}(h:na l r)(e:∀x,x∈l↔x∈sy):na sy r:=⟨h.jx,fun x=>(h.mem x).trans (e x)⟩
end o
namespace bt
open Go Go.RowKit
theorem Zu{w:World}{a:Addr}{v:Value}(aw:w.cell? a=some v):a.block<w.heap.size:=by
 unfold World.cell? at aw;cases aB:w.heap[a.block]? with
 | none=>rw[aB] at aw;cases aw
 | some ak=>exact cy aB
end bt
namespace Go.Proofs.R
open Go Go.RowKit bt
theorem Wc(cs:List Value)(m:o.Model)(ref:Int)(w:World)(h:o.dM w cs m)(aV:m.cG) :
  bw Tryz.prog F.As #[.agg cs.toArray,.int .i64 ref] w fun v w'=>(∃va ky a b,v = .tuple #[va,ky]∧bg c4 T.a 1 w.heap.size w' va a∧bg c4 T.a 1 w.heap.size w' ky b∧o.iG m ref a b)∧Ext w w':=by
 have dk:=h;obtain⟨cz,bV,cj,c1,cq,c2,cr,bJ,cC,bW,rfl,ao,h1,U,ah,aJ,_⟩:=h.form;refine bP E.As ?_;refine bM ?_;refine ad ?_;intro aq cp dT aC aK;refine ad ?_;refine K.call (ahD _ m ref aq (dk.ext aC) aV) ?_;rintro _ aU ⟨hO,aA⟩;replace aK:=aA.obj aK;have ba:=aC.trans aA;rcases hO with ⟨Ld,rfl⟩ | ⟨q,p,k,fV,va,cv,rfl,kn,hM⟩
 ·unfold F0;refine ad ?_;intro wn dY eK fF fT;refine ad ?_;intro aY fk b5;refine ad ?_;exact⟨⟨_,_,[],[],rfl,bg.nil _ _ _ _ _,bg.nil _ _ _ _ _,o.iG.nil Ld⟩,ba.trans (fk.ext fF eK)⟩
 obtain⟨hq,gl,rfl,_⟩:=kn.form;obtain⟨ur,ta,rfl,_⟩:=hM.form;have bq:=o.mP cv.ok;have bs:=cv.inst;have k0:=cv.cin;have q7:=k0.jq;obtain⟨c,CQ⟩:∃c,c=o.da m p k:=⟨_,rfl⟩;rw[←CQ] at k0 q7 kn hM ⊢;unfold o.dL.enc;refine ad ?_;intro wn kX iM fF fT;refine ad ?_;intro aY fk dq;have ax:Ext aU aY:=fk.ext fF iM;clear fF fT fk;replace aK:=ax.obj aK;have bz:=ba.trans ax;refine ad ?_;refine K.call (Wk _ m aY (dk.ext bz) aV bq) ?_;rintro _ bo ⟨⟨ys,rfl,Gu⟩,aF⟩;replace aK:=aF.obj aK;replace dq:=aF.obj dq;have bX:=bz.trans aF;have dg:=Gu.here;obtain⟨me,d0,jB,d1,jC,d2,pK,d3,oX,d4,rfl,gG,eO,fc,mb,sJ⟩:=dg.form;clear Gu;refine eh ?_;intro bD b9 lX aM dm;have CM:=aM.obj aK;have xr:=aM.obj dq;have xt:=dm;have ca:=bX.trans aM;obtain⟨xD,kl⟩:=o.xT bs.aR;obtain⟨a2,rfl⟩:=fc.addr (by omega);have HO:=gG.ext Flat.ext aM;have Ev:=eO.ext Flat.ext aM;have qn:=fc.ext Flat.ext aM;have zC:=dg.ext aM;have ad7:=kn.ext (ax.trans (aF.trans aM));have Lc:=hM.ext (ax.trans (aF.trans aM));have k3:=(o.tq bq bs k0.guard (Nat.le_refl _)).len;have alB:=(o.JW bq bs k0).len;clear aK dq dm gG eO fc mb sJ dg kn hM;refine eh ?_;refine K.gK [2,6,7,9] (fun v:gf=>[(10,.slice v.1 v.2.1 v.2.2)]) (fun v W=>Ext bD W∧bg c4 T.a 1 bD.heap.size W (.slice v.1 v.2.1 v.2.2) (o.r8 m q c)) ?_ ?_
 ·refine ad ?_;intro bQ aN;have c7:=ca.trans aN;have J5:=zC.ext aN;have T3:=ad7.ext aN;have HP:=qn.ext Flat.ext aN;refine ad ?_;refine⟨?_,?_⟩
  ·refine ad ?_;intro cd YS CI bC acX;refine⟨bC,?_⟩;refine ad ?_;have dw:=c7.trans bC;refine K.call (HR _ _ _ _ m q p cd (dk.ext dw) aV bq (J5.ext bC) bs (T3.ext bC) k0.guard) ?_;rintro u c9 ⟨kp,bU⟩;refine⟨bC.trans bU,?_⟩;have h1:bg c4 T.a 1 bQ.heap.size c9 (.slice (some ⟨YS,0,none⟩) 1 1) [(o.fl m q:Int)]:=bg.wV _ (bU.obj acX) CI (by rw[kl];rfl) (fun _=>rfl) rfl (by show 1≤maxLen;unfold maxLen;decide);refine ad ?_;refine K.yZ h1 kp (fun _=>rfl) j1 (by simp only[List.length_singleton];omega) (by simp only[List.length_singleton];unfold maxLen;omega) (by have:=bC.size;have:=bU.size;omega) fun ck dF jt tI=>?_;have gu:Ext bQ dF:=(bC.trans bU).grown tI fun k hk=>(h1.lt k hk).1;have ga:o.r8 m q c=[(o.fl m q:Int)]++o.iL m q c.guard c.guard.length:=by unfold o.r8;rw[o.lJ]
   rw[←ga] at jt;obtain⟨Mv,Jw,rfl,_⟩:=jt.form;refine ad ?_;exact⟨(Mv,_,Jw),⟨rfl,trivial⟩,aN.trans gu,bg.low aN.size jt⟩
  ·refine ad ?_;refine K.call (HR _ _ _ _ m q p bQ (dk.ext c7) aV bq J5 bs T3 k0.guard) ?_;rintro u cd ⟨eR,bC⟩;refine⟨bC,?_⟩;refine ad ?_;intro c9 YT alc bU ac0;refine⟨bC.trans bU,?_⟩;have h1:bg c4 T.a 1 bQ.heap.size c9 (.slice (some ⟨YT,0,none⟩) 1 1) [(o.fl m q:Int)]:=bg.wV _ ac0 (by have:=bC.size;omega) (by rw[kl];rfl) (fun _=>rfl) rfl (by show 1≤maxLen;unfold maxLen;decide);refine ad ?_;refine K.yZ h1 (eR.ext bU) (fun _=>rfl) j1 (by simp only[List.length_singleton];omega) (by simp only[List.length_singleton];unfold maxLen;omega) (by have:=bC.size;have:=bU.size;omega) fun ck dF jt tI=>?_;have gu:Ext bQ dF:=(bC.trans bU).grown tI fun k hk=>(h1.lt k hk).1;have ga:o.r8 m q c=[(o.fl m q:Int)]++o.iL m q c.guard c.guard.length:=by unfold o.r8;rw[o.lJ]
   rw[←ga] at jt;obtain⟨Mv,Jw,rfl,_⟩:=jt.form;refine ad ?_;exact⟨(Mv,_,Jw),⟨rfl,trivial⟩,aN.trans gu,bg.low aN.size jt⟩
 rintro vr S bQ ⟨aN,et⟩;have aK:=aN.obj CM;have dq:=aN.obj xr;have dm:=aN.obj xt;have HP:=qn.ext Flat.ext aN;refine ad ?_;intro cd qO Gz bC nR;have zw:bg c4 T.a 1 bD.heap.size cd (.slice (some ⟨qO,0,none⟩) 1 1) (o.jA m q c 0):=bg.wV _ nR (by have:=aN.size;omega) (by unfold o.jA;rw[kl,List.take_zero,List.flatMap_nil,List.append_nil,o.lJ];rfl) (fun _=>rfl) (by unfold o.jA;rw[List.take_zero,List.flatMap_nil,List.append_nil,o.lJ];rfl) (by unfold o.jA;rw[List.take_zero,List.flatMap_nil,List.append_nil,o.lJ];show 1≤maxLen;unfold maxLen;decide);have SJ:iE T.a bD.heap.size cd (.slice vr.1 vr.2.1 vr.2.2) (o.oU m q c 0) (.slice (some ⟨qO,0,none⟩) 1 1) (o.jA m q c 0):=⟨by unfold o.oU;rw[List.take_zero,List.flatMap_nil,List.append_nil];exact et.ext bC,zw,fun k hk e=>by
  have:=(et.lt k hk).2
  injection e with e
  have:k=qO:=e.symm
  omega⟩
 refine ad ?_;refine K.cR 12 c.cn.length [2,6,7,9] (fun v:gf×gf=>[(10,.slice v.1.1 v.1.2.1 v.1.2.2),(11,.slice v.2.1 v.2.2.1 v.2.2.2)]) (vr,(some ⟨qO,0,none⟩,1,1)) (fun k v W=>Ext bD W∧iE T.a bD.heap.size W (.slice v.1.1 v.1.2.1 v.1.2.2) (o.oU m q c k) (.slice v.2.1 v.2.2.1 v.2.2.2) (o.jA m q c k)) bp bp ⟨aN.trans bC,SJ⟩ ?_;clear SJ zw et aK dq dm HP nR bC aN;rintro n ⟨vr,vw⟩ S bQ aH ⟨aN,hj⟩;have aK:=aN.obj CM;have dq:=aN.obj xr;have dm:=aN.obj xt;have ad5:=Lc.ext aN;have uN:=aN.size;refine ad ?_;apply K.cond<;>intro g1
 ·have js:n<c.cn.length:=by omega
  obtain⟨jE,rfl⟩:=Lc.addr (by omega);obtain⟨cw,cx,sa,tO,zW⟩:=Lc.at n js;replace sa:=sa.ext aN;have p3:=k0.act n js;obtain⟨dd,ci,rfl,afU⟩:=tO.form;obtain⟨fz,ir,rfl,amD⟩:=zW.form;obtain⟨a,acs⟩:∃a,a=c.cn[n]:=⟨_,rfl⟩;have jS:=o.Wf (m:=m) (q:=q) js;have sr:=o.NH (m:=m) (q:=q) js;have j6:=(o.HS bq bs k0 (n+1) (by omega)).len;have aeM:=(o.E3 bq bs k0 (n+1) (by omega)).len;rw[←acs] at p3 sa tO zW jS sr;unfold o.Act.enc at sa;refine eh ?_;refine K.gK [2,6,7,9,12] (fun v:gf×gf=>[(10,.slice v.1.1 v.1.2.1 v.1.2.2),(11,.slice v.2.1 v.2.2.1 v.2.2.2)]) (fun v W=>Ext bD W∧iE T.a bD.heap.size W (.slice v.1.1 v.1.2.1 v.1.2.2) (o.oU m q c (n+1)) (.slice v.2.1 v.2.2.1 v.2.2.2) (o.jA m q c (n+1))) ?_ ?_;rotate_left
  ·rintro v a8 w' ⟨gx,abZ⟩;refine ad ?_;exact⟨js,bf,v,⟨rfl,rfl,trivial⟩,gx,abZ⟩
  have alN:=(o.HS bq bs k0 n (by omega)).len;have alO:=(o.E3 bq bs k0 n (by omega)).len;have J5:=zC.ext aN;refine ad ?_;intro cd b13 CG bC hl;have jh:=aN.trans bC;have dw:=ca.trans jh;replace aK:=bC.obj aK;replace dq:=bC.obj dq;replace dm:=bC.obj dm;have zz:=hj.ext bC;have NS:=jh.size;clear hj ad5 sa;refine ad ?_;apply K.cond<;>intro g5
  ·obtain⟨fv,dV⟩:=p3.chan (.inr g5);have eA:a.to.toNat<m.a7.length:=dV;obtain⟨dc,hy⟩:=p3.recv g5;have p8:a.loc.toNat<(m.procs[p]'(bs.aW)).vars.length:=hy;have zx:=bs.yg bq;have z6:=o.s9 bq eA;have ade:=o.zc eA;have tC:=(bq.chan _ (List.getElem_mem eA)).cap;obtain⟨p5,e9⟩:=o.u3 eA;obtain⟨f6,f7,f8⟩:=o.Ai m;obtain⟨dG,rfl⟩:=Ev.addr (by omega);obtain⟨wP,rfl⟩:=U.addr (by omega);have MP:=Ev.ext Flat.ext jh;have ew:=((U.at a.to.toNat eA).cells).ext dw;have r2:o.nd m q a=o.lz m a.to.toNat:=by unfold o.nd;rw[if_pos g5,if_neg (by omega),if_neg (by omega),if_pos g5,List.nil_append]
   have oA:o.jG m q a=o.lz m a.to.toNat++[((o.fl m q+1+a.loc.toNat:Nat):Int)]:=by unfold o.jG;rw[if_neg (by omega),if_neg (by omega),if_neg (by omega),if_neg (by omega),if_pos g5,o.lJ]
   have gh:(o.lz m a.to.toNat).length≤64:=(o.zg bq eA).len;refine ad ?_;intro c9 bU;replace aK:=bU.obj aK;replace dm:=bU.obj dm;replace hl:=bU.obj hl;replace MP:=MP.ext Flat.ext bU;replace ew:=ew.ext bU;refine ad ?_;refine K.dx a.to.toNat (by omega) (by omega) ?_;refine ad ?_;refine K.dx a.to.toNat (by omega) eA ?_;refine ad ?_;refine K.call (M5 (o.h3 m a.to.toNat) (1+o.rV m a.to.toNat) _ _ c9 (by rw[e9]) (by omega) (by omega)) ?_;rintro u dF ⟨jt,cL⟩;have S0:bG 1 (Flat c4) dF u (o.lz m a.to.toNat):=bg.fB (enc:=c4) (fun _=>rfl) jt;obtain⟨Mq,Jc,rfl,_⟩:=S0.form;have gp:=(jh.trans bU).trans cL;have vl:=(zz.ext bU).ext cL;replace dm:=cL.obj dm;replace hl:=cL.obj hl;have z9:=gp.size;clear aK MP ew;refine ad ?_;refine iE.app vl S0 (by omega) z9 fun or' AI zk fe oC nW=>?_;have oo:Ext bD fe:=gp.grown nW fun i af=>(vl.eO.lt i af).1;have Kq:=vl.eO.box nW hl (by decide);have acv:bG 1 (Flat c4) fe (.slice Mq (o.lz m a.to.toNat).length Jc) (o.lz m a.to.toNat):=bg.fB (enc:=c4) (fun _=>rfl) (jt.mod (Mod.grown (A:=fun k=>(Value.slice vr.1 vr.2.1 vr.2.2).ownBlock=some k) nW fun k e=>e) fun k hk e=>by
    have a:=(jt.lt k hk).1;have b:=(zz.eO.lt k e).2;have c:=bU.size;omega)
   refine ad ?_;intro fQ hn;have hX:=oo.trans hn;have q0:=oC.ext hn;have acw:=acv.ext Flat.ext hn;have S6:=hn.obj Kq;have ahy:=qn.ext Flat.ext hX;have CS:=(ahy.at q xD) 0 (.int .i64 (o.layout m).insts[q]) rfl;rw[add_zero,kl] at CS;have kG:(o.jA m q c n).length+(o.lz m a.to.toNat).length+1≤100000:=by omega
   refine K.wide (aj0 (base:=bD.heap.size) (b9:=b9) (b13:=b13) (q:=q) (ni:=(o.layout m).insts.length) (ci:=d2) (a2:=a2) (iq:=o.fl m q) (tl:=a.loc) (vw:=vw) (vr:=(or',AI,zk)) (lw:=o.jA m q c n) (lr:=o.oU m q c n++o.lz m a.to.toNat) (ys:=o.lz m a.to.toNat) (va:=.slice Mq (o.lz m a.to.toNat).length Jc)
    (by simp[b6]) (by simp[b6]) (by simp[b6]) (by simp[b6]) (by simp[b6]) (eN (hX.obj xt) rfl) CS (eN S6 rfl) (by omega) (by omega) ?_ ?_ ?_ q0 acw kG hX.size ?_)
   ·intro e;have:=(zz.fc.lt b9 e).1;have:=cy xt;omega
   ·intro e;have df:=(zz.fc.lt a2.block e).1;have hi:=Zu ((qn.at q xD) 0 (.int .i64 (o.layout m).insts[q]) rfl);rw[add_zero,uZ] at hi;omega
   ·intro e;obtain⟨cur,df⟩:=q0.fc.aQ b13 e;rw[S6] at df;injection df with df;injection df with _ df;exact absurd df (by decide)
   ·intro a8 kO Im zr r1 zy ga;have aan:a8 10 = .slice or' AI zk:=by rw[zr 10 (.inl (by omega))];simp[b6]
    refine ad ?_;refine⟨((or',AI,zk),Im),⟨aan,r1,trivial⟩,ga bD hX (Nat.le_refl _),?_⟩;rw[jS,sr,r2,oA,←List.append_assoc,show((o.fl m q+1+a.loc.toNat:Nat):Int)=(o.fl m q:Int)+1+a.loc from by omega];exact zy
  ·have T5:=p3.val g5;have zT:=p3.kind;have al3:=(o.tq bq bs T5 (Nat.le_refl _)).len;refine ad ?_;refine K.call (HR _ _ _ a.value m q p cd (dk.ext dw) aV bq (zC.ext jh) bs (zW.ext jh) T5) ?_;rintro u c9 ⟨kp,bU⟩;have Dt:bG 1 (Flat c4) c9 u (o.iL m q a.value a.value.length):=bg.fB (enc:=c4) (fun _=>rfl) kp;obtain⟨Mq,Jc,rfl,_⟩:=Dt.form;have mX:=jh.trans bU;have NT:=mX.size;have Gp:=zz.ext bU;refine ad ?_;refine iE.app Gp Dt (by omega) NT fun or' AI zk dF vl tI=>?_;have gp:Ext bD dF:=mX.grown tI fun i af=>(Gp.eO.lt i af).1;replace hl:=Gp.eO.box tI (bU.obj hl) (by decide);replace aK:=gp.obj CM;replace dq:=gp.obj xr;replace dm:=gp.obj xt;have gu:=ca.trans gp;have z9:=gp.size;have vC:(o.oU m q c n++o.iL m q a.value a.value.length).length≤30000:=by rw[List.length_append];omega
   clear Dt kp Gp zz;obtain⟨f6,f7,f8⟩:=o.Ai m;refine ad ?_;refine K.cond (fun dc=>?_) (fun dc=>?_)
   ·obtain⟨fv,v,aO,jg⟩:=p3.set dc;have dV:a.to.toNat<m.vars.length:=(List.getElem?_eq_some_iff.1 aO).1;obtain⟨fq,lF⟩:=o.wg dV;obtain⟨a0,rfl⟩:=HO.addr (by omega);have amO:=HO.ext Flat.ext gp;have r2:o.nd m q a=o.iL m q a.value a.value.length:=by unfold o.nd;rw[if_neg (by omega),if_neg (by omega),if_neg (by omega),if_neg (by omega),List.append_nil]
    have oA:o.jG m q a=[((o.iD m a.to.toNat:Nat):Int)]:=by unfold o.jG;rw[if_pos dc,o.lJ]
    refine ad ?_;refine K.dx a.to.toNat (by omega) (by omega) ?_;refine ad ?_;intro fe FO Gy dj nQ;refine ad ?_;rw[lF] at nQ;have oC:=vl.ext dj;refine iE.app oC.symm (Eo nQ) (by simp only[List.length_singleton];omega) (by have:=dj.size;omega) fun uv uq te fQ q0 xC=>?_;refine ad ?_;exact⟨((or',AI,zk),(uv,uq,te)),⟨rfl,rfl,trivial⟩,(gp.trans dj).grown xC fun i af=>(oC.fc.lt i af).1,by rw[jS,sr,r2,oA];exact q0.symm⟩
   refine ad ?_;refine K.cond (fun cY=>?_) (fun cY=>?_)
   ·obtain⟨fv,dV,C5⟩:=p3.item cY;have eA:a.to.toNat<m.vars.length:=dV;have fR:a.to=(a.to.toNat:Nat):=by omega
    have G2:=(o.tq bq bs C5 (Nat.le_refl _)).len;have r2:o.nd m q a=o.iL m q a.value a.value.length++o.iL m q a.index a.index.length:=by unfold o.nd;rw[if_neg (by omega),if_pos cY]
    have oA:o.jG m q a=o.k8 m q a.to.toNat (o.pH a):=by unfold o.jG;rw[if_neg dc,if_pos cY]
    have alD:=(o.LY bq bs.aR eA (o.pH a)).len;refine ad ?_;refine K.call (HR _ _ _ a.index m q p dF (dk.ext gu) aV bq (zC.ext gp) bs (tO.ext gp) C5) ?_;rintro u fe ⟨tP,dj⟩;have LO:bG 1 (Flat c4) fe u (o.iL m q a.index a.index.length):=bg.fB (enc:=c4) (fun _=>rfl) tP;obtain⟨agv,Zj,rfl,_⟩:=LO.form;have oC:=vl.ext dj;have oo:=gp.trans dj;refine ad ?_;refine iE.app oC LO (by omega) oo.size fun HK HH F6 fQ q0 xC=>?_;have hX:Ext bD fQ:=oo.grown xC fun i af=>(oC.eO.lt i af).1;replace hl:=oC.eO.box xC (dj.obj hl) (by decide);replace aK:=hX.obj CM;replace dm:=hX.obj xt;have r1:=ca.trans hX;clear LO tP oC;refine ad ?_;intro kO en;have lM:=hX.trans en;have qU:=r1.trans en;replace aK:=en.obj aK;replace dm:=en.obj dm;replace hl:=en.obj hl;have zy:=q0.ext en;have alP:=tO.ext lM;refine ad ?_;apply K.cond<;>intro g6
    ·have tU:=o.WT (a:=a) (by omega);obtain⟨rP,rfl⟩:=tO.addr (by omega);have mK:=(C5.node 0 (by omega)).1;refine ad ?_;refine K.dx 0 rfl (by omega) ?_;refine ad ?_;rw[fR];refine K.call (M0 _ _ m q a.to.toNat (decide ((a.index[0]'(by omega)).op=5)) kO (dk.ext qU) aV bq (zC.ext lM) bs.aR eA (fun bk=>o.WU bs mK (by simpa using bk))) ?_;rw[←tU];rintro u mU ⟨Df,gC⟩;have su:bG 1 (Flat c4) mU u (o.k8 m q a.to.toNat (o.pH a)):=bg.fB (enc:=c4) (fun _=>rfl) Df;obtain⟨agw,Zk,rfl,_⟩:=su.form;have vk:=zy.ext gC;have nB:=lM.trans gC;refine ad ?_;refine iE.app vk.symm su (by omega) nB.size fun uv uq te E2 Cu CZ=>?_;refine ad ?_;refine⟨((HK,HH,F6),(uv,uq,te)),⟨rfl,rfl,trivial⟩,nB.grown CZ fun i af=>(vk.fc.lt i af).1,?_⟩;rw[jS,sr,r2,oA,←List.append_assoc];exact Cu.symm
    ·have tU:=o.WS (a:=a) (by omega);refine ad ?_;rw[fR];refine K.call (M0 _ _ m q a.to.toNat false kO (dk.ext qU) aV bq (zC.ext lM) bs.aR eA (fun bk=>by cases bk)) ?_;rw[←tU];rintro u mU ⟨Df,gC⟩;have su:bG 1 (Flat c4) mU u (o.k8 m q a.to.toNat (o.pH a)):=bg.fB (enc:=c4) (fun _=>rfl) Df;obtain⟨agw,Zk,rfl,_⟩:=su.form;have vk:=zy.ext gC;have nB:=lM.trans gC;refine ad ?_;refine iE.app vk.symm su (by omega) nB.size fun uv uq te E2 Cu CZ=>?_;refine ad ?_;refine⟨((HK,HH,F6),(uv,uq,te)),⟨rfl,rfl,trivial⟩,nB.grown CZ fun i af=>(vk.fc.lt i af).1,?_⟩;rw[jS,sr,r2,oA,←List.append_assoc];exact Cu.symm
   refine ad ?_;refine K.cond (fun gW=>?_) (fun gW=>?_)
   ·obtain⟨fv,dV⟩:=p3.loc gW;have eA:a.to.toNat<(m.procs[p]'(bs.aW)).vars.length:=dV;have zx:=bs.yg bq;have r2:o.nd m q a=o.iL m q a.value a.value.length:=by unfold o.nd;rw[if_neg (by omega),if_neg (by omega),if_neg (by omega),if_neg (by omega),List.append_nil]
    have oA:o.jG m q a=[((o.fl m q+1+a.to.toNat:Nat):Int)]:=by unfold o.jG;rw[if_neg (by omega),if_neg (by omega),if_pos gW,o.lJ]
    have amQ:=qn.ext Flat.ext gp;refine ad ?_;intro fe dj;refine ad ?_;rw[kl];refine ad ?_;intro fQ akx ak6 hn acJ;refine ad ?_;have q0:=(vl.ext dj).ext hn;refine iE.app q0.symm (Eo acJ) (by simp only[List.length_singleton];omega) (by have:=dj.size;have:=hn.size;omega) fun uv uq te kO zy adB=>?_;refine ad ?_;refine⟨((or',AI,zk),(uv,uq,te)),⟨rfl,rfl,trivial⟩,((gp.trans dj).trans hn).grown adB fun i af=>(q0.fc.lt i af).1,?_⟩;rw[jS,sr,r2,oA,show((o.fl m q+1+a.to.toNat:Nat):Int)=(o.fl m q:Int)+1+a.to from by omega];exact zy.symm
   have ic:a.kind=4:=by omega
   obtain⟨fv,dV⟩:=p3.chan (.inl ic);have eA:a.to.toNat<m.a7.length:=dV;have z6:=o.s9 bq eA;have ade:=o.zc eA;have tC:=(bq.chan _ (List.getElem_mem eA)).cap;obtain⟨p5,e9⟩:=o.u3 eA;obtain⟨dG,rfl⟩:=Ev.addr (by omega);obtain⟨wP,rfl⟩:=U.addr (by omega);have ahx:=Ev.ext Flat.ext gp;have r2:o.nd m q a=o.iL m q a.value a.value.length++[((o.h3 m a.to.toNat:Nat):Int)]:=by unfold o.nd;rw[if_neg (by omega),if_neg (by omega),if_pos ic,o.lJ]
   have oA:o.jG m q a=o.lz m a.to.toNat:=by unfold o.jG;rw[if_neg (by omega),if_neg (by omega),if_neg (by omega),if_pos ic]
   have gh:(o.lz m a.to.toNat).length≤64:=(o.zg bq eA).len;refine ad ?_;refine K.dx a.to.toNat (by omega) (by omega) ?_;refine ad ?_;intro fe FO Gy dj nQ;refine ad ?_;rw[e9] at nQ;have oC:=vl.ext dj;have oo:=gp.trans dj;refine iE.app oC (Eo nQ) (by simp only[List.length_singleton];omega) (by have:=dj.size;omega) fun HK HH F6 fQ q0 xC=>?_;have hX:Ext bD fQ:=oo.grown xC fun i af=>(oC.eO.lt i af).1;replace hl:=oC.eO.box xC (dj.obj hl) (by decide);replace aK:=hX.obj CM;replace dm:=hX.obj xt;have r1:=ca.trans hX;have Wa:=Ev.ext Flat.ext hX;have ew:=((U.at a.to.toNat eA).cells).ext r1;clear oC ahx;refine ad ?_;intro kO en;replace aK:=en.obj aK;replace dm:=en.obj dm;replace hl:=en.obj hl;replace Wa:=Wa.ext Flat.ext en;replace ew:=ew.ext en;refine ad ?_;refine K.dx a.to.toNat (by omega) (by omega) ?_;refine ad ?_;refine K.dx a.to.toNat (by omega) eA ?_;refine ad ?_;refine K.call (M5 (o.h3 m a.to.toNat) (1+o.rV m a.to.toNat) _ _ kO (by rw[e9]) (by omega) (by omega)) ?_;rintro u mU ⟨Df,gC⟩;have su:bG 1 (Flat c4) mU u (o.lz m a.to.toNat):=bg.fB (enc:=c4) (fun _=>rfl) Df;obtain⟨agv,Zj,rfl,_⟩:=su.form;have vk:=(q0.ext en).ext gC;have nB:=(hX.trans en).trans gC;refine ad ?_;refine iE.app vk.symm su (by omega) nB.size fun uv uq te E2 Cu CZ=>?_;refine ad ?_;refine⟨((HK,HH,F6),(uv,uq,te)),⟨rfl,rfl,trivial⟩,nB.grown CZ fun i af=>(vk.fc.lt i af).1,?_⟩;rw[jS,sr,r2,oA,←List.append_assoc];exact Cu.symm
 ·have vD:c.cn.length=n:=by omega
  have jS:=o.HS bq bs k0 n (by omega);have sr:=o.E3 bq bs k0 n (by omega);have ab9:h0 bQ (.slice vr.1 vr.2.1 vr.2.2) (o.oU m q c n):=bg.fB (enc:=c4) (fun _=>rfl) hj.eO;have SR:h0 bQ (.slice vw.1 vw.2.1 vw.2.2) (o.jA m q c n):=bg.fB (enc:=c4) (fun _=>rfl) hj.fc;refine ad ?_;refine K.call (Wx _ _ bQ ab9 jS.bA (by have:=jS.len;omega)) ?_;rintro u cd ⟨⟨MT,Lf,Lq⟩,bC⟩;refine ad ?_;refine K.call (Wx _ _ cd (SR.ext Flat.ext bC) sr.bA (by have:=sr.len;omega)) ?_;rintro yp c9 ⟨⟨Ex,Lg,Lr⟩,bU⟩;refine ad ?_;have uN:=(ca.trans aN).size;have NS:=bC.size;refine⟨⟨_,_,MT,Ex,rfl,bg.ext bU (bg.low uN Lf),bg.low (Nat.le_trans uN NS) Lg,?_⟩,((ca.trans aN).trans bC).trans bU⟩;subst CQ;refine o.iG.of cv ?_ ?_
  ·rw[vD];exact o.ah3 Lq fun x=>(o.ahJ m q _ n x).symm
  ·rw[vD];exact Lr
end Go.Proofs.R
end
section
namespace o
open Go
theorem aa6(x:Node)(h : -1000≤x.op∧x.op≤1000 ∧ -1000≤x.n∧x.n≤1000):x.ok:=⟨k7 ⟨h.1,h.2.1⟩,k7 h.2.2⟩
end o
end
section
namespace Go.Proofs.R
open Go Go.RowKit bt
theorem HB(cs:List Value)(m:o.Model)(w:World)(h:o.dM w cs m)(aV:m.cG) :
  bw Tryz.prog F.vN #[.agg cs.toArray] w fun v w'=>v = .bool (decide ((o.check m).cM=0))∧Ext w w':=by
 obtain⟨cz,bV,cj,c1,cq,c2,cr,bJ,cC,bW,rfl,_⟩:=h.form;refine bP E.vN ?_;refine bM ?_;refine ad ?_;intro aq bE c8 aC ar;refine ad ?_;refine K.call (MX _ m aq (h.ext aC) aV) ?_;rintro _ aU ⟨rfl,aA⟩;unfold vj;refine ad ?_;refine K.jd (v:=.int .i64 (o.check m).cM) rfl ?_;refine ad ?_;exact⟨bf,aC.trans aA⟩
end Go.Proofs.R
end
section
namespace bt
open Go Go.RowKit
def ae2(l:List Int):List Value:=l.map (Value.int .i64)
end bt
namespace Go.Proofs.R
open Go Go.RowKit bt
def PH(w:World)(a:Addr)(l:List Int):Prop := ∃v,w.cell? a=some v∧h0 w v l
abbrev PI(w:World)(v:Value)(l:List (List Int)):Prop:=bG 1 PH w v l
end Go.Proofs.R
end
section
namespace bt
open Go Go.RowKit
structure ako{α:Type}(C:World→List Value→α→Prop)(e:TypeId)(sz base:Nat)(v:Value)(w0 ws:World)(xs:List α)(k:Nat)(x:List (o0 sz))(W:World):Prop where
 m:Mod (fun i=>v.ownBlock=some i) ws W
 aQ:∀i,v.ownBlock=some i→base≤i∧i<ws.heap.size∧∃cur,ws.heap[i]? = some (.cells cur e)
 len:x.length=xs.length
 own:Bn e sz base W v x
 new:∀i (h1:i<x.length) (U:i<xs.length),i<k→gI (fun j=>j<ws.heap.size) (fun w=>C w x[i].1 xs[i]) W
 kr:∀i (h1:i<x.length) (U:i<xs.length),k≤i→C w0 x[i].1 xs[i]
end bt
end
section
namespace Go.Proofs.R
open Go Go.RowKit bt
def X5(w:World)(cs:List Value)(l:List Int):Prop := ∃v,cs=[v]∧h0 w v l
instance amp:Rel PH X5 1 where
 out h:=by
  obtain⟨v,h1,U⟩:=h;exact⟨[v],fun j u aI=>by cases j with | zero=>simp at aI;subst aI;rw[add_zero];exact h1 | succ j=>simp at aI,v,rfl,U⟩
 nY h k:=by
  obtain⟨v,rfl,k⟩:=k
  have:=h 0 v rfl
  rw[add_zero] at this;exact⟨v,this,k⟩
 len h:=by obtain⟨v,rfl,_⟩:=h;rfl
 one h:=by obtain⟨v,rfl,h⟩:=h;simpa using h.one
 ext e h:=let ⟨v,h1,U⟩:=h; ⟨v,h1,U.ext Flat.ext e⟩
def X4(_:World)(cs:List Value)(x:Int):Prop:=cs=c4 x
instance amo:Rel (Flat c4) X4 1 where
 out h:=⟨_,h,rfl⟩
 nY h k:=by cases k;exact h
 len h:=by cases h;rfl
 one h:=by cases h;exact j1 _
 ext _ h:=h
structure akh(w:World)(cs:List Value)(x:o.Env):Prop where
 ex:∃v0 v1 v2 v3,cs=[v0,v1,v2,v3,.int .i64 x.self]∧PI w v0 x.vars∧h0 w v1 x.lens∧h0 w v2 x.locals∧PI w v3 x.at_
end Go.Proofs.R
end
section
namespace o
open Go
def uw(m:Model)(e:List Node):List Int:=e.flatMap (dI m 0 false)
def UM(l:List Int):Bool:=match l with
 | []=>false
 | n :: r=>decide (0≤n∧n≤r.length)&&(r.drop n.toNat).all (fun x=>decide (x=0))
def UN(l:List Int):List Int:=if UM l then (l.drop 1).take (l.headD 0).toNat else []
def VU(k:Nat)(l:List Int):List Int:=(l.length:Int) :: (List.range (k - 1)).map fun i=>l.getD i 0
def ahj(l:List Int)(v:Int):Option (List Int):=if UM l=true∧l.headD 0≠(l.length:Int) - 1 then some (VU l.length (UN l++[v])) else none
def ajc(l:List Int):Option (List Int×Int):=match UN l with
 | []=>none
 | x :: r=>some (VU l.length r,x)
def chanOf(m:Model)(s:List Int)(c:Nat):List Int:=(s.drop (h3 m c)).take (1+rV m c)
def LX(s:List Int)(a:Nat)(l:List Int):List Int:=s.take a++l++s.drop (a+l.length)
def Q4(m:Model)(c:Nat):Int×Int:=match (cZ m)[c]? with
 | some x=>(x.bA,x.af)
 | none=>(0,-1)
def putAt(m:Model)(s:List Int)(c:Nat)(n:Int):Option (List Int):=if n<(Q4 m c).1∨(Q4 m c).2<n then none else some (s.set c n)
def Rg(m:Model)(c:Nat):dJ:=match m.a7[c]? with
 | some x=>h2 x.scalar x.bA x.af m.scalars
 | none=>h2 0 0 0 m.scalars
def aiE(m:Model)(s:List Int)(c:Nat)(n:Int):Option (List Int) :=
 if n<(Rg m c).bA∨(Rg m c).af<n then none else (ahj (chanOf m s c) n).map (LX s (h3 m c))
def ahN(m:Model)(s:List Int)(q:Nat)(a:Act):Option (List Int):=match ajc (chanOf m s a.to.toNat) with
 | none=>none
 | some (rest,n)=>putAt m (LX s (h3 m a.to.toNat) rest) (fl m q+1+a.loc.toNat) n
def ae4(m:Model)(s:List Int)(a:Act)(k:Int×Int)(n:Int):Option (List Int) :=
 if k.2≠0∨k.1<1∨(lb m a.to.toNat:Int)<k.1 then none else putAt m s (iD m a.to.toNat+k.1.toNat - 1) n
def Yn(m:Model)(s:List Int)(q:Nat)(a:Act):Option (List Int) :=
 if a.kind=5 then ahN m s q a
 else if (eval a.value (wc m s q)).2≠0 then none
 else if a.kind=1 then putAt m s (iD m a.to.toNat) (eval a.value (wc m s q)).1
 else if a.kind=2 then ae4 m s a (eval a.index (wc m s q)) (eval a.value (wc m s q)).1
 else if a.kind=3 then putAt m s (fl m q+1+a.to.toNat) (eval a.value (wc m s q)).1
 else aiE m s a.to.toNat (eval a.value (wc m s q)).1
def QR(m:Model)(q:Nat):List Act→List Int→Option (List Int)
 | [],s=>some s
 | a :: r,s=>match Yn m s q a with
  | none=>none
  | some t=>QR m q r t
def FZ(m:Model)(s:List Int)(q:Nat)(c:dL):Option (List Int) :=
 if s[fl m q]? ≠ some c.from_ then none
 else if 0<c.guard.length∧((eval c.guard (wc m s q)).2≠0∨(eval c.guard (wc m s q)).1=0) then none
 else (QR m q c.cn s).map fun t=>t.set (fl m q) c.to
def gQ(s t:List Int)(l:List Int):Prop:=t.length=s.length∧∀c:Nat,t[c]? ≠ s[c]? → (c:Int)∈l
theorem gQ.trans{s t u l:List Int}(h:gQ s t l)(k:gQ t u l):gQ s u l:=⟨k.1.trans h.1,fun c aw=>by
 by_cases e:u[c]? = t[c]?
 ·exact h.2 c (by rw[←e];exact aw)
 ·exact k.2 c e⟩
theorem Rc{m:Model}{c:Nat}(h:c<m.a7.length):h3 m c+(1+rV m c)≤fx m:=by
 have:=Ja h
 rw[zc h]
 have:=tc m
 omega
end o
end
section
namespace bt
open Go Go.RowKit
def r3(d:Nat):List Value:=[.int .u8 d]
theorem aaz(d:Nat):∀u∈r3 d,u.oneCell'=true:=by simp[r3,Value.oneCell']
def I8(l:List Nat):List Value:=l.map fun(d:Nat)=>Value.int .u8 (d:Int)
theorem I9:∀l:List Nat,I8 l=l.flatMap r3
 | []=>rfl
 | x :: r=>by
  have:=I9 r
  simp only[I8,List.map_cons,List.flatMap_cons] at this ⊢;rw[this];rfl
theorem abm(l:List Nat)(k x:Nat):(l.flatMap r3).set k (.int .u8 x)=(l.set k x).flatMap r3:=by
 rw[←I9,←I9];simp[I8,List.map_set]
theorem K.ll{e:TypeId}{base:Nat}{w:World}{l:List Nat}{a:Addr}{n c k x:Nat}{gq:World→Prop}{t}(h:bg r3 e 1 base w (.slice (some a) n c) l)(hk:k<l.length)
  (ea:∀aq,dz a.block w aq→bg r3 e 1 base aq (.slice (some a) n c) (l.set k x)→gq aq):qF (.pointer (some (a.add (k*1)))) (.int .u8 (x:Nat)) w gq t:=by
 rcases h.2 with ⟨aH,ao⟩ | ⟨g,cap,cur,h1,U,ah,aJ,bk,bY,cO⟩
 ·cases aH
 ·injection h1 with b2 ba bz
  injection b2 with b2
  subst b2 bz;have cB:k<cur.size:=by omega
  have jI:Addr.add ⟨g,0,none⟩ (k*1)=⟨g,k,none⟩:=by rw[add_eq,Nat.mul_one,Nat.zero_add]
  have aw:w.cell? (Addr.add ⟨g,0,none⟩ (k*1))=some cur[k]:=eN ah (by rw[Nat.mul_one];exact Array.getElem?_eq_getElem cB);rw[jI] at aw ⊢;have bK:w.ownsRow base e 1 (.slice (some ⟨g,0,none⟩) l.length c) l.length (l.flatMap r3):=by unfold bg at h;rw[ba] at h;exact h
  have aG:=World.ownsRow.stored bK k (.int .u8 (x:Nat));rw[abm] at aG;refine K.st aw (by simp[World.frozen?,ah]) (by simp[Value.oneCell']) (ea _ (dz.setCell w ⟨g,k,none⟩ _) ?_);unfold bg;rw[List.length_set,ba];exact aG.1
end bt
end
section
namespace Go.Proofs.R
open Go Go.RowKit bt
structure akt(w:World)(cs:List Value)(m:o.Model):Prop where
 ex:∃ms ys cw vr,cs=ms++ys++[cw,vr]∧o.dM w ms m∧o.kf w ys (o.layout m)∧jX w cw (o.insts m)∧FD w vr (o.refs m)
end Go.Proofs.R
end
section
set_option linter.unusedSimpArgs false
end
section
set_option linter.unusedSimpArgs false
namespace o
open Go Go.RowKit bt
structure Env.ok(v:Env):Prop where
 vars:∀l∈v.vars,∀z∈l,eM z
 lens:∀z∈v.lens,eM z
 locals:∀z∈v.locals,eM z
 at_:∀l∈v.at_,∀z∈l,eM z
 self:eM v.self
end o
end
section
set_option linter.unusedSimpArgs false
end
section
set_option linter.unusedSimpArgs false
end
section
set_option linter.unusedSimpArgs false
end
section
namespace o
open Go
structure aki(v:Env):Prop where
 vars:∀l∈v.vars,∀x∈l,eM x
 lens:∀x∈v.lens,eM x
 locals:∀x∈v.locals,eM x
 at_:∀l∈v.at_,∀x∈l,eM x
 self:eM v.self
def lost(m:Model)(s t:List Int)(c:dL):List Int:=LX t (h3 m (comm c.cn).2.toNat) (chanOf m s (comm c.cn).2.toNat)
structure Fg(m:Model)(s:List Int)(ref nw:Int)(t:List Int)(e:Int):Prop where
 f0:¬(yP m s∧Told m ref)→t=[]∧e=2
 f1:∀q p k,yP m s→hf m ref q p k→¬(0≤nw∧nw<ways (da m p k) m.a7)→t=[]∧e=2
 f2:∀q p k,yP m s→hf m ref q p k→0≤nw∧nw<ways (da m p k) m.a7→FZ m s q (da m p k)=none→t=[]∧e=15
 f3:∀q p k u,yP m s→hf m ref q p k→0≤nw∧nw<ways (da m p k) m.a7→FZ m s q (da m p k)=some u→t=(if nw=1 then lost m s u (da m p k) else u)∧e=0
theorem Fg.none{m:Model}{s:List Int}{ref nw:Int}{q p k:Nat}(aw:hf m ref q p k)(bd:yP m s)(hw:0≤nw∧nw<ways (da m p k) m.a7)(h:FZ m s q (da m p k)=Option.none):Fg m s ref nw [] 15 :=
 ⟨fun aH=>absurd ⟨bd,aw.told⟩ aH,fun gF hC k' _ oF aH=>(by obtain⟨rfl,rfl,rfl⟩:=aw.one oF;exact absurd hw aH),fun _ _ _ _ _ _ _=>⟨rfl,rfl⟩,fun gF hC k' u _ oF _ hu=>by obtain⟨rfl,rfl,rfl⟩:=aw.one oF;rw[h] at hu;cases hu⟩
theorem Fg.some{m:Model}{s u:List Int}{ref nw:Int}{q p k:Nat}(aw:hf m ref q p k)(bd:yP m s)(hw:0≤nw∧nw<ways (da m p k) m.a7)(h:FZ m s q (da m p k)=Option.some u):Fg m s ref nw (if nw=1 then lost m s u (da m p k) else u) 0 :=
 ⟨fun aH=>absurd ⟨bd,aw.told⟩ aH,fun gF hC k' _ oF aH=>(by obtain⟨rfl,rfl,rfl⟩:=aw.one oF;exact absurd hw aH),fun gF hC k' _ oF _ hu=>(by obtain⟨rfl,rfl,rfl⟩:=aw.one oF;rw[h] at hu;cases hu),
  fun gF hC k' jz _ oF _ hu=>by obtain⟨rfl,rfl,rfl⟩:=aw.one oF;rw[h] at hu;injection hu with hu;subst hu;exact⟨rfl,rfl⟩⟩
theorem QV{s:Scope}:∀(l:List Act) (i:Nat) (t:Bool),(jZ s l i t).2=0→∀k (h:k<l.length),jF l[k] s=0
 | [],_,_,_,k,h=>by simp at h
 | a :: r,i,t,h,k,hk=>by
  unfold jZ at h;by_cases h1:(hs a&&t)=true
  ·rw[if_pos h1] at h;cases h
  rw[if_neg h1] at h;by_cases U:jF a s≠0
  ·rw[if_pos U] at h;exact absurd h U
  rw[if_neg U] at h;cases k with
  | zero=>simpa using U
  | succ k=>exact QV r _ _ h k (by simpa using hk)
structure XT(m:Model)(p:Nat)(c:dL):Prop where
 act:∀k (h:k<c.cn.length),∀aW:p<m.procs.length,jF c.cn[k] (inner m.procs[p] (ez m))=0
 to:∀aW:p<m.procs.length,0≤c.to∧c.to<m.procs[p].cW
theorem Z2{m:Model}(h:(check m).cM=0){p k:Nat}(aW:p<m.procs.length)(hk:k<m.procs[p].cE.length):XT m p m.procs[p].cE[k]:=by
 obtain⟨gb,_,_⟩:=MD (Rj h);obtain⟨_,dc,_,_⟩:=Cj aW (gb p aW);obtain⟨_,_,ic⟩:=VZ dc;have e:gz m (p:Int)=inner m.procs[p] (ez m):=by
  unfold gz;rw[lf (by omega) (by omega)];rfl
 have bk:=(Jn _ _ ic k hk).1;rw[e] at bk;unfold iJ at bk;by_cases h1:head m.procs[p].cE[k] m.procs[p].cW≠0
 ·rw[if_pos h1] at bk;exact absurd bk h1
 rw[if_neg h1] at bk;have bk:(jZ (inner m.procs[p] (ez m)) m.procs[p].cE[k].cn 0 false).2=0:=by
  split at bk
  ·rename_i ea;exact absurd bk ea.2
  ·exact bk
 refine⟨fun j aI _=>QV _ _ _ bk j aI,fun _=>?_⟩;have h1:head m.procs[p].cE[k] m.procs[p].cW=0:=by simpa using h1
 unfold head at h1;by_cases dQ:isName m.procs[p].cE[k].name=false
 ·rw[if_pos dQ] at h1;cases h1
 rw[if_neg dQ] at h1;by_cases ef:m.procs[p].cE[k].from_<0∨m.procs[p].cW≤m.procs[p].cE[k].from_∨m.procs[p].cE[k].to<0∨m.procs[p].cW≤m.procs[p].cE[k].to
 ·rw[if_pos ef] at h1;cases h1
 omega
theorem UH{m:Model}:∀(l:List dt) (i:Nat),l=m.procs.drop i→∀x∈iP m l i,∃(p:Nat) (h:p<m.procs.length),x.proc=p∧(m.procs[p].over≠0→x.elem≤elems m m.procs[p])
 | [],_,_,x,av=>by simp[iP] at av
 | p :: r,i,h,x,av=>by
  have af:i<m.procs.length:=by
   apply Classical.byContradiction;intro aH;rw[List.drop_eq_nil_of_le (by omega)] at h;cases h
  rw[List.drop_eq_getElem_cons af] at h;injection h with h1 U
  simp only[iP,List.mem_append] at av;rcases av with (av | av) | av
  ·unfold ih at av;split at av
   ·rename_i ao;rw[List.mem_singleton] at av;subst av;exact⟨i,af,rfl,fun aH=>absurd (h1 ▸ ao) aH⟩
   ·cases av
  ·unfold iS at av;obtain⟨k,hk,rfl⟩:=List.mem_map.1 av
   have:=List.mem_range.1 hk
   refine⟨i,af,rfl,fun _=>?_⟩;rw[←h1];simp only;omega
  ·exact UH r (i+1) U x av
theorem fW.af5{m:Model}{q p:Nat}(h:fW m q p):(m.procs[p]'(h.aW)).over≠0→((insts m)[q]'(h.aR)).elem≤elems m (m.procs[p]'(h.aW)):=by
 obtain⟨hC,alQ,e,h1⟩:=UH m.procs 0 (by simp) _ (List.getElem_mem h.aR);have U:=h.eq;have ba:((hC:Nat):Int)=p:=by
  have:((insts m)[q]'(h.aR)).proc=(hC:Int):=e
  rw[←this,U]
 have:hC=p:=by omega
 subst this;exact h1
theorem aay{m:Model}{p:dt}(h:elems m p≠0):(elems m p:Int)=size p.over m.scalars:=by
 unfold elems at h ⊢;cases aH:nth m.scalars (p.over - 1) with
 | none=>rw[aH] at h;exact absurd rfl h
 | some x =>
  rw[aH] at h;obtain⟨ao,h1,_⟩:=vR aH;simp only at h ⊢;unfold size;rw[h1];split at h
  ·exact absurd rfl h
  ·rename_i ea;rw[if_neg ea];simp only;rw[if_pos (by omega)];omega
theorem afh{x:Node}{s:Scope}(h:x.op=5)(h1:1≤s.self∧s.self≤s.scalars.length):kind [x] s=(1+s.self,0):=by
 have aH:fH x.op=0:=by rw[h];decide
 have aT:eY s x []=(1+s.self,0):=by
  unfold eY;rw[h];simp[hP,ie,la,h,h1]
 unfold kind nt fP;simp only[List.length_singleton,stepG,aH,aT];simp[fP]
theorem Yu{m:Model}{p:Nat}(aW:p<m.procs.length){a:Act}(h:jF a (inner m.procs[p] (ez m))=0)(U:a.kind=2)(aG:pH a=true):∃v,m.vars[a.to.toNat]? = some v∧v.over=m.procs[p].over:=by
 obtain⟨x,av,bk⟩:∃x,a.index=[x]∧x.op=5:=by
  unfold pH at aG;split at aG
  ·rename_i x av;exact⟨x,av,by simpa using aG⟩
  ·cases aG
 have e5:=IX h;have Uh:=((e5.item U).2.2.node 0 (by rw[av];simp)).1.self (by simp[av,bk]);unfold jF at h;rw[if_pos (by omega)] at h;rw[if_neg (by omega:¬a.kind=3)] at h;cases bx:declared (inner m.procs[p] (ez m)).vars a.to (inner m.procs[p] (ez m)) with
 | none=>rw[bx] at h;cases h
 | some vV =>
  rw[bx] at h;obtain⟨v,k⟩:=vV;obtain⟨_,d2,_⟩:=Jx bx;simp only at h;by_cases ah:(v.over≠0)≠(a.kind=2)
  ·rw[if_pos ah] at h;cases h
  rw[if_neg ah] at h;by_cases aJ:a.kind=2∧asked a.index (1+v.over) (inner m.procs[p] (ez m))≠0
  ·rw[if_pos aJ] at h;exact absurd h aJ.2
  have bY:asked a.index (1+v.over) (inner m.procs[p] (ez m))=0:=Classical.byContradiction fun aH=>aJ ⟨U,aH⟩;refine⟨v,d2,?_⟩;unfold asked at bY;rw[av,afh bk Uh] at bY;simp only[ne_eq,not_true_eq_false,if_false] at bY;split at bY
  ·cases bY
  ·rename_i ea
   have:(inner m.procs[p] (ez m)).self=m.procs[p].over:=rfl
   omega
theorem ae5{m:Model}{q p:Nat}(bs:fW m q p){v:Nat}(aO:v<m.vars.length){own:Bool}(aZ:own=true→m.vars[v].over=(m.procs[p]'(bs.aW)).over∧(m.procs[p]'(bs.aW)).over≠0):∀x∈k8 m q v own,0≤x∧x<fx m:=fun x av=>by
 have h1:=EY aO;have U:=uf aO;have ah:=tc m;unfold k8 at av;cases own with
 | false =>
  rw[if_neg (by simp)] at av
  have:=pD.1 av
  omega
 | true =>
  obtain⟨cj,cq⟩:=aZ rfl;rw[if_pos rfl] at av;have av:=pD.1 av;have b2:=bs.elem cq;have ba:=bs.af5 cq;have bz:=aay (m:=m) (p:=m.procs[p]'(bs.aW)) (by omega);have bX:=Gg bs.aR;have ca:cells m.vars[v] m.scalars=size (m.procs[p]'(bs.aW)).over m.scalars:=by unfold cells;rw[if_neg (by omega),cj]
  omega
theorem Ys{m:Model}{q p:Nat}(bs:fW m q p){a:Act}(ga:jF a (inner (m.procs[p]'(bs.aW)) (ez m))=0):∀x∈jG m q a,0≤x∧x<fx m:=fun x av=>by
 have bu:=IX ga;have z6:=bs.room;have ah:=tc m;unfold jG at av;by_cases h1:a.kind=1
 ·rw[if_pos h1] at av;obtain⟨_,v,aO,jg⟩:=bu.set h1;have rj:a.to.toNat<m.vars.length:=(List.getElem?_eq_some_iff.1 aO).1;have eA:m.vars[a.to.toNat]=v:=(List.getElem?_eq_some_iff.1 aO).2
  have:=EY rj
  have e:cells m.vars[a.to.toNat] m.scalars=1:=by rw[eA];unfold cells;rw[if_pos jg]
  have:=pD.1 av
  omega
 rw[if_neg h1] at av;by_cases U:a.kind=2
 ·rw[if_pos U] at av;have rj:a.to.toNat<m.vars.length:=(bu.item U).2.1;refine ae5 bs rj (fun aG=>?_) x av;obtain⟨v,aO,aZ⟩:=Yu bs.aW ga U aG;obtain⟨_,eA⟩:=List.getElem?_eq_some_iff.1 aO;obtain⟨y,bS,bk⟩:∃y,a.index=[y]∧y.op=5:=by
   unfold pH at aG;split at aG
   ·rename_i y bS;exact⟨y,bS,by simpa using aG⟩
   ·cases aG
  have Uh:=((bu.item U).2.2.node 0 (by rw[bS];simp)).1.self (by simp[bS,bk])
  have:(inner (m.procs[p]'(bs.aW)) (ez m)).self=(m.procs[p]'(bs.aW)).over:=rfl
  exact⟨by rw[eA];exact aZ,by omega⟩
 rw[if_neg U] at av;by_cases xh:a.kind=3
 ·rw[if_pos xh] at av;have bk:a.to.toNat<(m.procs[p]'(bs.aW)).vars.length:=(bu.loc xh).2
  have:=pD.1 av
  omega
 rw[if_neg xh] at av;by_cases aJ:a.kind=4
 ·rw[if_pos aJ] at av
  have:=Rc (m:=m) (bu.chan (.inl aJ)).2
  have:=pD.1 av
  omega
 rw[if_neg aJ] at av;by_cases bk:a.kind=5
 ·rw[if_pos bk] at av;have bY:a.loc.toNat<(m.procs[p]'(bs.aW)).vars.length:=(bu.recv bk).2
  have:=Rc (m:=m) (bu.chan (.inr bk)).2
  rcases List.mem_append.1 av with av | av
  ·have:=pD.1 av;omega
  ·have:=pD.1 av;omega
 ·rw[if_neg bk] at av;cases av
theorem write_lt{m:Model}{ref:Int}{q p k:Nat}(cv:hf m ref q p k):∀x∈jA m q (da m p k) (da m p k).cn.length,0≤x∧x<fx m:=fun x av=>by
 have bs:=cv.inst;have T0:=Z2 cv.ok cv.at_.aW cv.at_.hk;rw[←w2 cv.at_.aW cv.at_.hk] at T0;have z6:=bs.room;unfold jA at av;rw[List.take_length] at av;rcases List.mem_append.1 av with av | av
 ·have:=pD.1 av;omega
 ·obtain⟨a,bu,LP⟩:=List.mem_flatMap.1 av;obtain⟨j,aI,rfl⟩:=List.mem_iff_getElem.1 bu;exact Ys bs (T0.act j aI bs.aW) x LP
def afW:List Node:=[⟨1,0⟩,⟨1,0⟩,⟨14,0⟩]
def more(m:Model)(s:ByteArray):Model:=⟨m.scalars,m.vars,m.a7,m.procs,m.props++[⟨s,afW⟩]⟩
theorem Jl{m:Model}(h:(check m).cM=0):(data m).cM=0∧(lg m).cM=0∧(n2 m).cM=0:=by
 unfold check at h;by_cases h1:(data m).cM≠0
 ·rw[if_pos h1] at h;exact absurd h h1
 rw[if_neg h1] at h;by_cases U:(lg m).cM≠0
 ·rw[if_pos U] at h;exact absurd h U
 rw[if_neg U] at h;exact⟨by simpa using h1,by simpa using U,h⟩
theorem V0{m:Model}(h:(check m).cM=0):m.props.length≤8:=by
 obtain⟨_,_,ah⟩:=Jl h;have bd:=HM ah;refine Classical.byContradiction fun aH=>?_;have df:=bd 8 (by omega);rw[Ck (by omega),if_pos (by omega)] at df;cases df
theorem ME{m:Model}(h:(check m).cM=0){j:Nat}(aI:j<m.props.length):qz (ez m) m.props[j].expr:=by
 obtain⟨_,_,ah⟩:=Jl h;have df:=HM ah j aI;rw[Ck aI] at df;refine U2 (Classical.byContradiction fun aH=>?_)
 repeat' split at df
 all_goals first | omega | (exact absurd df aH) | skip
 all_goals contradiction
def qp(m:Model):List Int:=m.props.flatMap fun p=>uw m p.expr
def il(m:Model):List Bool:=if (check m).cM=0 then (List.range (fx m)).map fun(c:Nat)=>decide ((c:Int)∈qp m) else []
structure mn(n:Nat)(L:List Int)(ak:List Bool):Prop where
 len:ak.length=n
 at_:∀(c:Nat) (h:c<ak.length),ak[c]=decide ((c:Int)∈L)
theorem mn.start(n:Nat):mn n [] (List.replicate n false):=⟨by simp,fun c h=>by simp⟩
theorem mn.put{n c:Nat}{L:List Int}{ak:List Bool}(h:mn n L ak)(aw:c<n):mn n (L++[(c:Int)]) (ak.set c true):=by
 refine⟨by rw[List.length_set];exact h.len,fun d bx=>?_⟩;rw[List.length_set] at bx;rw[List.getElem_set];by_cases e:c=d
 ·subst e;simp
 ·rw[if_neg e,h.at_ d bx]
  have:¬(d:Int)=(c:Int):=by omega
  simp[this]
theorem mn.congr{n:Nat}{L lu:List Int}{ak:List Bool}(h:mn n L ak)(e:∀x,x∈L↔x∈lu):mn n lu ak:=⟨h.len,fun c aw=>by rw[h.at_ c aw];exact decide_eq_decide.2 (e _)⟩
theorem mn.eq{n:Nat}{L:List Int}{ak o':List Bool}(h:mn n L ak)(bK:mn n L o'):ak=o':=by
 refine List.ext_getElem (by rw[h.len,bK.len]) fun c h1 U=>by rw[h.at_ c h1,bK.at_ c U]
theorem mn.WQ{m:Model}{ak:List Bool}(hk:(check m).cM=0)(h:mn (fx m) (qp m) ak):ak=il m:=by
 unfold il;rw[if_pos hk];exact h.eq ⟨by simp,fun c aw=>by simp⟩
def fX(a b:List Int):Prop := ∃x,x∈a∧x∈b
instance(a b:List Int):Decidable (fX a b):=decidable_of_iff (a.any (fun x=>b.contains x)=true) (by simp[fX,List.any_eq_true])
theorem fX.comm{a b:List Int}:fX a b↔fX b a:=⟨fun⟨x,h1,U⟩=>⟨x,U,h1⟩,fun⟨x,h1,U⟩=>⟨x,U,h1⟩⟩
theorem fX.VD(b:List Int):¬fX [] b:=fun⟨_,h,_⟩=>by cases h
theorem fX.agh(a:List Int):¬fX a []:=fun⟨_,_,h⟩=>by cases h
theorem ahm{a:List Int}(bu:a.Pairwise (· < ·)){i:Nat}(h:i<a.length):∀x∈a.drop i,a[i]≤x:=fun x av=>by
 rw[List.drop_eq_getElem_cons h] at av;rcases List.mem_cons.1 av with e | e
 ·omega
 ·have aW:=bu.sublist (List.drop_sublist i a);rw[List.drop_eq_getElem_cons h,List.pairwise_cons] at aW
  have:=aW.1 x e
  omega
theorem Xn{a b:List Int}(aB:b.Pairwise (· < ·)){i k:Nat}(h1:i<a.length)(U:k<b.length)(h:a[i]<b[k]):fX (a.drop i) (b.drop k)↔fX (a.drop (i+1)) (b.drop k):=by
 constructor
 ·rintro⟨x,dc,cY⟩;rw[List.drop_eq_getElem_cons h1] at dc;rcases List.mem_cons.1 dc with e | e
  ·have:=ahm aB U x cY;omega
  ·exact⟨x,e,cY⟩
 ·rintro⟨x,dc,cY⟩;exact⟨x,by rw[List.drop_eq_getElem_cons h1];exact List.mem_cons_of_mem _ dc,cY⟩
theorem EW{a b:List Int}(bu:a.Pairwise (· < ·)){i k:Nat}(h1:i<a.length)(U:k<b.length)(h:b[k]<a[i]):fX (a.drop i) (b.drop k)↔fX (a.drop i) (b.drop (k+1)):=by
 rw[fX.comm,Xn bu U h1 h,fX.comm]
theorem ajn{a b:List Int}{i k:Nat}(h1:i<a.length)(U:k<b.length)(h:a[i]=b[k]):fX (a.drop i) (b.drop k) :=
 ⟨a[i],by rw[List.drop_eq_getElem_cons h1];exact List.mem_cons_self ..,by rw[List.drop_eq_getElem_cons U,h];exact List.mem_cons_self ..⟩
theorem ajo{a b:List Int}{i k:Nat}(h:¬(i<a.length∧k<b.length)):¬fX (a.drop i) (b.drop k):=by
 by_cases h1:i<a.length
 ·have e:b.drop k=[]:=List.drop_eq_nil_of_le (by omega);rw[e];exact fX.agh _
 ·have e:a.drop i=[]:=List.drop_eq_nil_of_le (by omega);rw[e];exact fX.VD _
def jk(r w fI w':List Int):Prop:=fX w w'∨fX w fI∨fX r w'
instance(r w fI w':List Int):Decidable (jk r w fI w'):=inferInstanceAs (Decidable (_∨_∨_))
theorem jk.comm{r w fI w':List Int}:jk r w fI w'↔jk fI w' r w:=by
 unfold jk;rw[fX.comm (a:=w) (b:=w'),fX.comm (a:=w) (b:=fI),fX.comm (a:=r) (b:=w')];constructor
 ·rintro(h | h | h)
  ·exact .inl h
  ·exact .inr (.inr h)
  ·exact .inr (.inl h)
 ·rintro(h | h | h)
  ·exact .inl h
  ·exact .inr (.inr h)
  ·exact .inr (.inl h)
end o
end
section
namespace Go.Proofs.R
open Go Go.RowKit bt
theorem EW(va ky:Value)(a b:List Int)(w:World)(bu:h0 w va a)(aB:h0 w ky b)(rA:a.Pairwise (· < ·))(qk:b.Pairwise (· < ·)) :
  bw Tryz.prog F.ox #[va,ky] w fun v w'=>v = .bool (decide (o.fX a b))∧Ext w w':=by
 obtain⟨bm,gJ,rfl,ns⟩:=bu.form;obtain⟨rz,pW,rfl,gy⟩:=aB.form;refine bP E.ox ?_;refine bM ?_;refine ad ?_;refine K.yu [0,1] (fun x:Nat×Nat=>[(5,.int .i64 x.1),(6,.int .i64 x.2)]) (0,0) (fun x W=>Ext w W∧x.1≤a.length∧x.2≤b.length∧(o.fX a b↔o.fX (a.drop x.1) (b.drop x.2))) (fun x=>(a.length - x.1)+(b.length - x.2)) bp ⟨Ext.refl _,Nat.zero_le _,Nat.zero_le _,Iff.rfl⟩ ?_;rintro⟨i,k⟩ S aq ⟨aC,af,hk,hm⟩;dsimp only at af hk hm ⊢;have no:¬(i<a.length∧k<b.length)→decide (o.fX a b)=false:=fun h=>decide_eq_false (by rw[hm];exact o.ajo h);refine ad ?_;apply K.cond<;>intro g1;rotate_left
 ·refine ad ?_;exact⟨by rw[no (by omega)],aC⟩
 refine ad ?_;apply K.cond<;>intro g2;rotate_left
 ·refine ad ?_;exact⟨by rw[no (by omega)],aC⟩
 have eP:i<a.length:=by omega
 have cT:k<b.length:=by omega
 obtain⟨jE,rfl⟩:=bu.addr (by omega);obtain⟨kV,rfl⟩:=aB.addr (by omega);have SZ:=bu.ext Flat.ext aC;have c8:=aB.ext Flat.ext aC;refine ad ?_;intro aU aA;have ba:=aC.trans aA;refine ad ?_;apply K.cond<;>intro g3
 ·have yes:decide (o.fX a b)=true:=decide_eq_true (by rw[hm];exact o.ajn eP cT g3);refine ad ?_;exact⟨by rw[yes],ba⟩
 have acr:=SZ.ext Flat.ext aA;have dT:=c8.ext Flat.ext aA;clear SZ c8;refine ad ?_;intro aY ax;have bz:=ba.trans ax;refine ad ?_;apply K.cond<;>intro g4
 ·refine ad ?_;exact⟨(i+1,k),⟨bf,bf,trivial⟩,⟨bz,by simp only;omega,hk,hm.trans (o.Xn qk eP cT g4)⟩,by simp only;omega⟩
 ·refine ad ?_;exact⟨(i,k+1),⟨bf,bf,trivial⟩,⟨bz,af,by simp only;omega,hm.trans (o.EW rA eP cT (by omega))⟩,by simp only;omega⟩
theorem Mf(va ky:Value)(a b:List Int)(w:World)(bu:h0 w va a)(aB:h0 w ky b) :
  bw Tryz.prog F.x8 #[va,ky] w fun v w'=>v = .bool (decide (o.fX a b))∧Ext w w':=by
 obtain⟨bm,gJ,rfl,ns⟩:=bu.form;obtain⟨rz,pW,rfl,gy⟩:=aB.form;refine bP E.x8 ?_;refine bM ?_;refine ad ?_;refine K.cR 5 a.length [0,1] (fun _:Unit=>[]) () (fun i _ W=>Ext w W∧¬o.fX (a.take i) b) bp bp ⟨Ext.refl _,by simpa using o.fX.VD b⟩ ?_;rintro i _ S aq af ⟨aC,sl⟩;refine ad ?_;apply K.cond<;>intro g1;rotate_left
 ·have kl:i=a.length:=by omega
  rw[kl,List.take_length] at sl;have no:decide (o.fX a b)=false:=decide_eq_false sl;refine ad ?_;exact⟨by rw[no],aC⟩
 have eP:i<a.length:=by omega
 obtain⟨jE,rfl⟩:=bu.addr (by omega);refine ad ?_;refine K.cR 6 b.length [0,1,5] (fun _:Unit=>[]) () (fun k _ W=>Ext w W∧¬a[i]∈b.take k) bp bp ⟨aC,by simp⟩ ?_;rintro k _ iH aU hk ⟨aA,js⟩;refine ad ?_;apply K.cond<;>intro g2;rotate_left
 ·have tL:k=b.length:=by omega
  rw[tL,List.take_length] at js;refine ad ?_;refine⟨eP,bf,(),trivial,aA,?_⟩;rintro⟨x,h1,U⟩;rw[List.take_succ_eq_append_getElem eP,List.mem_append,List.mem_singleton] at h1;rcases h1 with h1 | rfl
  ·exact sl ⟨x,h1,U⟩
  ·exact js U
 have cT:k<b.length:=by omega
 obtain⟨kV,rfl⟩:=aB.addr (by omega);have acr:=bu.ext Flat.ext aA;have dT:=aB.ext Flat.ext aA;refine ad ?_;intro aY ax;have bz:=aA.trans ax;refine ad ?_;apply K.cond<;>intro g3
 ·have yes:decide (o.fX a b)=true:=decide_eq_true ⟨a[i],List.getElem_mem _,by rw[g3];exact List.getElem_mem _⟩;refine ad ?_;exact⟨by rw[yes],bz⟩
 ·refine ad ?_;refine⟨cT,bf,(),trivial,bz,?_⟩;rw[List.take_succ_eq_append_getElem cT,List.mem_append,List.mem_singleton];rintro(h | h)
  ·exact js h
  ·exact g3 h
theorem VP(v1 v2 v3 v4:Value)(a b cX gk:List Int)(w:World)(h1:h0 w v1 a)(U:h0 w v2 b)(ah:h0 w v3 cX)(aJ:h0 w v4 gk)(rA:a.Pairwise (· < ·))(qk:b.Pairwise (· < ·))(ag1:cX.Pairwise (· < ·))(VV:gk.Pairwise (· < ·)) :
  bw Tryz.prog F.a9 #[.agg #[v1,v2],.agg #[v3,v4]] w fun v w'=>v = .bool (decide (o.jk a b cX gk))∧Ext w w':=by
 obtain⟨cj,c1,rfl,_⟩:=h1.form;obtain⟨cq,c2,rfl,_⟩:=U.form;obtain⟨cr,bJ,rfl,_⟩:=ah.form;obtain⟨cC,bW,rfl,_⟩:=aJ.form;refine bP E.a9 ?_;refine bM ?_;refine ad ?_;intro aq cp dT aC aK;refine ad ?_;intro aU ch fE aA bB;replace aK:=aA.obj aK;have ba:=aC.trans aA;refine ad ?_;refine K.call (EW _ _ b gk aU (U.ext Flat.ext ba) (aJ.ext Flat.ext ba) qk VV) ?_;rintro _ aY ⟨rfl,ax⟩;have bz:=ba.trans ax;replace aK:=ax.obj aK;replace bB:=ax.obj bB;refine ad ?_;apply K.cond<;>intro g1
 ·have yes:decide (o.jk a b cX gk)=true:=decide_eq_true (.inl g1);refine ad ?_;exact⟨by rw[yes],bz⟩
 refine ad ?_;refine K.call (EW _ _ b cX aY (U.ext Flat.ext bz) (ah.ext Flat.ext bz) qk ag1) ?_;rintro _ bo ⟨rfl,aF⟩;have bX:=bz.trans aF;replace aK:=aF.obj aK;replace bB:=aF.obj bB;refine ad ?_;apply K.cond<;>intro g2
 ·have yes:decide (o.jk a b cX gk)=true:=decide_eq_true (.inr (.inl g2));refine ad ?_;exact⟨by rw[yes],bX⟩
 refine ad ?_;refine K.call (EW _ _ a gk bo (h1.ext Flat.ext bX) (aJ.ext Flat.ext bX) rA VV) ?_;rintro _ bD ⟨rfl,aM⟩;have ca:=bX.trans aM;have last:decide (o.jk a b cX gk)=decide (o.fX a gk):=decide_eq_decide.2 ⟨fun h=>h.elim (fun h=>absurd h g1) fun h=>h.elim (fun h=>absurd h g2) id,fun h=>.inr (.inr h)⟩;refine ad ?_;exact⟨by rw[last],ca⟩
theorem Xr(v1 v2 v3 v4:Value)(a b cX gk:List Int)(w:World)(h1:h0 w v1 a)(U:h0 w v2 b)(ah:h0 w v3 cX)(aJ:h0 w v4 gk) :
  bw Tryz.prog F.Aw #[.agg #[v1,v2],.agg #[v3,v4]] w fun v w'=>v = .bool (decide (o.jk a b cX gk))∧Ext w w':=by
 obtain⟨cj,c1,rfl,_⟩:=h1.form;obtain⟨cq,c2,rfl,_⟩:=U.form;obtain⟨cr,bJ,rfl,_⟩:=ah.form;obtain⟨cC,bW,rfl,_⟩:=aJ.form;refine bP E.Aw ?_;refine bM ?_;refine ad ?_;intro aq cp dT aC aK;refine ad ?_;intro aU ch fE aA bB;replace aK:=aA.obj aK;have ba:=aC.trans aA;refine ad ?_;refine K.call (Mf _ _ b cX aU (U.ext Flat.ext ba) (ah.ext Flat.ext ba)) ?_;rintro _ aY ⟨rfl,ax⟩;have bz:=ba.trans ax;replace aK:=ax.obj aK;replace bB:=ax.obj bB;refine ad ?_;apply K.cond<;>intro g1
 ·have yes:decide (o.jk a b cX gk)=true:=decide_eq_true (.inr (.inl g1));refine ad ?_;exact⟨by rw[yes],bz⟩
 refine ad ?_;refine K.call (Mf _ _ b gk aY (U.ext Flat.ext bz) (aJ.ext Flat.ext bz)) ?_;rintro _ bo ⟨rfl,aF⟩;have bX:=bz.trans aF;replace aK:=aF.obj aK;replace bB:=aF.obj bB;refine ad ?_;apply K.cond<;>intro g2
 ·have yes:decide (o.jk a b cX gk)=true:=decide_eq_true (.inl g2);refine ad ?_;exact⟨by rw[yes],bX⟩
 refine ad ?_;refine K.call (Mf _ _ gk a bo (aJ.ext Flat.ext bX) (h1.ext Flat.ext bX)) ?_;rintro _ bD ⟨rfl,aM⟩;have ca:=bX.trans aM;have last:decide (o.jk a b cX gk)=decide (o.fX gk a):=decide_eq_decide.2 ⟨fun h=>h.elim (fun h=>absurd h g2) fun h=>h.elim (fun h=>absurd h g1) o.fX.comm.1,fun h=>.inr (.inr (o.fX.comm.1 h))⟩;refine ad ?_;exact⟨by rw[last],ca⟩
end Go.Proofs.R
end
section
namespace o
open Go
structure iZ(m:Model)(n:Nat)(L:List (List Int×List Int)):Prop where
 len:L.length=n
 is:∀i (h:i<L.length),iG m i L[i].1 L[i].2
theorem iZ.nil(m:Model):iZ m 0 []:=⟨rfl,fun i h=>absurd h (Nat.not_lt_zero _)⟩
theorem iZ.snoc{m:Model}{n:Nat}{L:List (List Int×List Int)}{a b:List Int}(h:iZ m n L)(bd:iG m n a b):iZ m (n+1) (L++[(a,b)]):=by
 refine⟨by rw[List.length_append,h.len];rfl,fun i af=>?_⟩;by_cases e:i<L.length
 ·rw[List.getElem_append_left e];exact h.is i e
 ·have ba:i=L.length:=by simp at af;omega
  subst ba;rw[List.getElem_append_right (Nat.le_refl _)];simp only[Nat.sub_self,List.getElem_cons_zero];rw[h.len];exact bd
theorem iZ.eq{m:Model}{n:Nat}{L lu:List (List Int×List Int)}(h:iZ m n L)(bK:iZ m n lu):L=lu:=by
 refine List.ext_getElem (h.len.trans bK.len.symm) fun i h1 U=>?_;obtain⟨b2,ba⟩:=(h.is i h1).eq (bK.is i U);exact Prod.ext b2 ba
end o
namespace Go.Proofs.R
open Go Go.RowKit bt
def wj(w:World)(cs:List Value)(x:List Int×List Int):Prop := ∃v1 v2,cs=[v1,v2]∧h0 w v1 x.1∧h0 w v2 x.2
def Bv(w:World)(a:Addr)(x:List Int×List Int):Prop := ∃v1 v2,eB w a [v1,v2]∧h0 w v1 x.1∧h0 w v2 x.2
theorem VL{w:World}{v:Value}{l:List Int}(h:h0 w v l):v.oneCell'=true:=by
 obtain⟨ak,c,rfl,_⟩:=h.form;rfl
instance:Rel Bv wj 2 where
 out:=fun⟨v1,v2,h,h1,U⟩=>⟨_,h,v1,v2,rfl,h1,U⟩
 nY:=fun h ⟨v1,v2,e,h1,U⟩=>⟨v1,v2,e ▸ h,h1,U⟩
 len:=fun⟨v1,v2,e,_⟩=>by rw[e];rfl
 one:=fun⟨v1,v2,e,h1,U⟩ u hu=>by
  rw[e] at hu;simp only[List.mem_cons,List.not_mem_nil,or_false] at hu;rcases hu with rfl | rfl
  ·exact VL h1
  ·exact VL U
 ext:=fun he ⟨v1,v2,e,h1,U⟩=>⟨v1,v2,e,h1.ext Flat.ext he,U.ext Flat.ext he⟩
theorem HE{w aq:World}{v:Value}{l:List Int}(h:bg c4 T.a 1 w.heap.size aq v l):e7 w (fun W=>h0 W v l) aq:=fun W m =>
 bg.fB (enc:=c4) (fun _=>rfl) (bg.mod h m fun k hk a=>by have:=(bg.lt h k hk).1;omega)
theorem Xu(cs:List Value)(m:o.Model)(w:World)(h:o.dM w cs m)(aV:m.cG)(aZ:gH w)(dg:o.sV m) :
  bw Tryz.prog F.qJ #[.agg cs.toArray] w fun v w'=>(∃L base,o.iZ m (o.refs m).length L∧w.heap.size≤base∧base≤w'.heap.size∧fM wj T.s4 2 base w' v L)∧Ext w w':=by
 have dk:=h;obtain⟨cz,bV,cj,c1,cq,c2,cr,bJ,cC,bW,rfl,_⟩:=h.form;have j6:=o.oV dg;refine bP E.qJ ?_;refine bM ?_;refine ad ?_;intro aq bE c8 aC ar;refine ad ?_;refine K.call (EB _ m aq (dk.ext aC) dg) ?_;rintro vr aU ⟨gN,aA⟩;obtain⟨ma,lS,rfl,_⟩:=gN.form;replace ar:=aA.obj ar;have ba:=aC.trans aA;have z2:=ba.size;clear gN;refine ad ?_;refine K.cR 10 (o.refs m).length [1,9] (fun u:Value=>[(3,u)]) (.slice none 0 0) (fun k u W => ∃L,o.iZ m k L∧fM wj T.s4 2 aU.heap.size W u L∧Ext aU W) bp bp ⟨[],o.iZ.nil m,fM.nil _ _ _ _ _,Ext.refl _⟩ ?_;rintro k u S aY hk ⟨L,eJ,er,ax⟩;have bz:=ba.trans ax;have hl:=ax.obj ar;refine ad ?_;apply K.cond<;>intro g1;rotate_left
 ·have h8:k=(o.refs m).length:=by omega
  rw[h8] at eJ;refine ad ?_;exact⟨⟨L,_,eJ,z2,ax.size,er⟩,bz⟩
 have cT:k<(o.refs m).length:=by omega
 have xm:=eJ.len;obtain⟨sH,qS,rfl,_⟩:=er.form;refine ad ?_;refine K.call (PJ _ m k aY (dk.ext bz) aV (aZ.ext bz)) ?_;rintro _ bo ⟨⟨va,ky,a,b,rfl,hM,xI,Kb⟩,aF⟩;have aH:=((HE hM).and (HE xI)).imp (q:=fun W=>wj W [va,ky] (a,b)) fun W h=>⟨va,ky,rfl,h.1,h.2⟩;obtain⟨bm,gJ,rfl,_⟩:=hM.form;obtain⟨rz,pW,rfl,_⟩:=xI.form;have z3:=ax.size;have z4:=aF.size;clear hM xI;refine ad ?_;intro bD YQ jf aM b3;have z5:=aM.size;have q2:=(er.ext aF).ext aM;refine ad ?_;refine K.BC q2 (h4 b3) ((e7.ext aH aM z4).own er z3) rfl (by simp[Value.oneCell']) (by omega) (by unfold maxLen;omega) (by omega) fun ck bQ zE jP=>?_;have aN:=q2.j2 ((ax.trans aF).trans aM) jP (Nat.le_refl _);refine ad ?_;exact⟨cT,bf,_,⟨rfl,trivial⟩,_,eJ.snoc Kb,zE,aN⟩
theorem WJ(cs:List Value)(m:o.Model)(w:World)(h:o.dM w cs m)(aV:m.cG)(dg:o.sV m) :
  bw Tryz.prog F.Ay #[.agg cs.toArray] w fun v w'=>(∃L base,o.iZ m (o.refs m).length L∧w.heap.size≤base∧base≤w'.heap.size∧fM wj T.Ax 2 base w' v L)∧Ext w w':=by
 have dk:=h;obtain⟨cz,bV,cj,c1,cq,c2,cr,bJ,cC,bW,rfl,_⟩:=h.form;have j6:=o.oV dg;refine bP E.Ay ?_;refine bM ?_;refine ad ?_;intro aq bE c8 aC ar;have fC:=aC.size;refine ad ?_;refine K.cR 4 (o.refs m).length [1] (fun u:Value=>[(3,u)]) (.slice none 0 0) (fun k u W => ∃L,o.iZ m k L∧fM wj T.Ax 2 aq.heap.size W u L∧Ext aq W) bp bp ⟨[],o.iZ.nil m,fM.nil _ _ _ _ _,Ext.refl _⟩ ?_;rintro k u S aU hk ⟨L,eJ,er,aA⟩;have ba:=aC.trans aA;have q3:=aA.obj ar;have xm:=eJ.len;obtain⟨sH,qS,rfl,_⟩:=er.form;refine ad ?_;refine K.call (EA _ m aU (dk.ext ba) aV dg) ?_;rintro vr aY ⟨gN,ax⟩;obtain⟨ma,lS,rfl,_⟩:=gN.form;replace q3:=ax.obj q3;have eT:=aA.trans ax;have bz:=ba.trans ax;have J8:=er.ext ax;clear gN;refine ad ?_;apply K.cond<;>intro g1;rotate_left
 ·have h8:k=(o.refs m).length:=by omega
  rw[h8] at eJ;refine ad ?_;exact⟨⟨L,_,eJ,fC,eT.size,J8⟩,bz⟩
 have cT:k<(o.refs m).length:=by omega
 refine ad ?_;refine K.call (Wc _ m k aY (dk.ext bz) aV) ?_;rintro _ bo ⟨⟨va,ky,a,b,rfl,hM,xI,Kb⟩,aF⟩;have aH:=((HE hM).and (HE xI)).imp (q:=fun W=>wj W [va,ky] (a,b)) fun W h=>⟨va,ky,rfl,h.1,h.2⟩;obtain⟨bm,gJ,rfl,_⟩:=hM.form;obtain⟨rz,pW,rfl,_⟩:=xI.form;have z3:=eT.size;have z4:=aF.size;clear hM xI;refine ad ?_;intro bD YQ jf aM b3;have z5:=aM.size;have q2:=(J8.ext aF).ext aM;refine ad ?_;refine K.BC q2 (h4 b3) ((e7.ext aH aM z4).own J8 z3) rfl (by simp[Value.oneCell']) (by omega) (by unfold maxLen;omega) (by omega) fun ck bQ zE jP=>?_;have aN:=q2.j2 ((eT.trans aF).trans aM) jP (Nat.le_refl _);refine ad ?_;exact⟨cT,bf,_,⟨rfl,trivial⟩,_,eJ.snoc Kb,zE,aN⟩
end Go.Proofs.R
end
section
namespace o
open Go
def IP(s:Scope)(x:Node):Prop:=x.op=3→∃v,s.vars[x.n.toNat]? = some v∧v.over≠0
theorem afD{s:Scope}{x:Node}{top:Int}(h:(ie x s top).2=0):IP s x:=by
 intro bz;unfold ie at h;rw[if_neg (by omega),if_pos (by omega)] at h;simp only at h;by_cases aR:(fw (if x.op=4 then s.locals else s.vars) x.n s).2.2=false
 ·rw[if_pos aR] at h;cases h
 rw[if_neg aR] at h;obtain⟨v,dc,cY,gW,ic,DI,Ag⟩:=Vc (by simpa using aR);obtain⟨cj,cq,cr⟩:=U4 Ag;rw[ic] at h;simp only at h;by_cases ah:(x.op=3∧((gE v.over s).1=0∨top≠(gE v.over s).1))∨(x.op≠3∧(gE v.over s).1≠0)
 ·rw[if_pos ah] at h;cases h
 ·refine⟨v,?_,fun ao=>ah (.inl ⟨bz,.inl ?_⟩)⟩
  ·rw[if_neg (by omega)] at cY;exact cY
  ·rw[cr,if_pos ao]
theorem afg{e:List Node}{s:Scope}(h:(kind e s).2=0):∀k (hk:k<e.length),IP s e[k]:=by
 unfold kind nt at h;by_cases h1:e.length > 24
 ·rw[if_pos h1] at h;cases h
 rw[if_neg h1] at h;by_cases U:e.length=0
 ·exact fun k hk=>by omega
 rw[if_neg U] at h;by_cases ah:(fP (eY s) e []).1≠0
 ·rw[if_pos ah] at h;exact absurd h ah
 have ah:(fP (eY s) e []).1=0:=by simpa using ah
 intro k hk;have qb:∀j,(fP (eY s) (e.take j) []).1=0:=fun j=>Classical.byContradiction fun aH=>by
  have:=M8 (f:=eY s) (e:=e) (k:=j) rfl aH
  rw[this] at ah;exact aH ah
 have kH:fP (eY s) (e.take k) []=(0,(fP (eY s) (e.take k) []).2):=Prod.ext (qb k) rfl;have aJ:=EC hk kH;have bk:=qb (k+1);rw[aJ] at bk;unfold stepG at bk;by_cases dQ:fH e[k].op<0
 ·rw[if_pos dQ] at bk;cases bk
 rw[if_neg dQ] at bk;by_cases ef:((fP (eY s) (e.take k) []).2.length:Int)<fH e[k].op
 ·rw[if_pos ef] at bk;cases bk
 rw[if_neg ef] at bk;by_cases ev:(eY s e[k] (fP (eY s) (e.take k) []).2).2≠0
 ·rw[if_pos ev] at bk;exact absurd bk ev
 have ev:(eY s e[k] (fP (eY s) (e.take k) []).2).2=0:=by simpa using ev
 by_cases aZ:vJ e[k].op=false
 ·unfold eY at ev;rw[Mu aZ] at ev;exact afD ev
 ·intro bz;simp only[vJ,decide_eq_false_iff_not] at aZ;omega
theorem ahg{m:Model}(h:(check m).cM=0){j:Nat}(aI:j<m.props.length):(kind m.props[j].expr (ez m)).2=0:=by
 obtain⟨_,_,ah⟩:=Jl h;have df:=HM ah j aI;rw[Ck aI] at df;refine Classical.byContradiction fun aH=>?_
 repeat' split at df
 all_goals first | omega | (exact absurd df aH) | skip
 all_goals contradiction
theorem Uy{m:Model}{q:Nat}(h:q<(insts m).length):fl m q+1≤fx m:=by
 obtain⟨p,aW⟩:=DB h
 have:=aW.room
 omega
theorem A1{m:Model}{v:Nat}(h:v<m.vars.length):iD m v+lb m v≤fx m:=by
 have:=EY h
 rw[uf h]
 have:=tc m
 omega
theorem Rb{m:Model}{c:Nat}(h:c<m.a7.length):h3 m c+(1+rV m c)≤fx m:=by
 have:=Ja h
 rw[zc h]
 have:=tc m
 omega
structure s0(m:Model)(x:Node):Prop where
 node:yK (ez m) x
 over:IP (ez m) x
theorem s0.var{m:Model}(bq:ff m){x:Node}(h:s0 m x)(e:x.op=2):∃aH:x.n.toNat<m.vars.length,0≤x.n∧lb m x.n.toNat=1:=by
 obtain⟨ao,v,aO,jg⟩:=h.node.var e;have dV:m.vars[x.n.toNat]? = some v:=aO;obtain⟨h1,U⟩:=List.getElem?_eq_some_iff.1 dV;refine⟨h1,ao,?_⟩;rw[uf h1,U];unfold cells;rw[if_pos jg];rfl
theorem s0.item{m:Model}(bq:ff m){x:Node}(h:s0 m x)(e:x.op=3):∃aH:x.n.toNat<m.vars.length,0≤x.n∧∃aZ:((m.vars[x.n.toNat]).over - 1).toNat<m.scalars.length,1≤(m.vars[x.n.toNat]).over∧(m.scalars[((m.vars[x.n.toNat]).over - 1).toNat]).size=(lb m x.n.toNat:Nat)∧lb m x.n.toNat≤4:=by
 obtain⟨ao,_⟩:=h.node.item e;obtain⟨v,aO,jg⟩:=h.over e;have dV:m.vars[x.n.toNat]? = some v:=aO;obtain⟨h1,U⟩:=List.getElem?_eq_some_iff.1 dV;have dA:=bq.var _ (List.getElem_mem h1);have aG:size (m.vars[x.n.toNat]).over m.scalars≠0:=by
  rcases dA.fz with q | q
  ·rw[U] at q;exact absurd q jg
  ·exact q
 have aw:cells (m.vars[x.n.toNat]) m.scalars=size (m.vars[x.n.toNat]).over m.scalars:=by
  unfold cells;rw[if_neg (by rw[U];exact jg)]
 refine⟨h1,ao,?_⟩;rw[uf h1,aw];unfold size at aG ⊢;cases hk:m.scalars[((m.vars[x.n.toNat]).over - 1).toNat]? with
 | none=>rw[hk] at aG;exact absurd rfl aG
 | some y =>
  rw[hk] at aG;simp only at aG ⊢;obtain⟨g1,g2⟩:=List.getElem?_eq_some_iff.1 hk;by_cases q:1≤(m.vars[x.n.toNat]).over∧1≤y.size∧y.size≤4
  ·rw[if_pos q];refine⟨g1,q.1,?_,?_⟩
   ·rw[g2];omega
   ·omega
  ·rw[if_neg q] at aG;exact absurd rfl aG
theorem V1{m:Model}(h:(check m).cM=0){j:Nat}(aI:j<m.props.length){x:Node}(av:x∈m.props[j].expr):s0 m x:=by
 obtain⟨k,hk,rfl⟩:=List.mem_iff_getElem.1 av;exact⟨((ME h aI).node k hk).1,afg (ahg h aI) k hk⟩
theorem s0.lt{m:Model}(bq:ff m){x:Node}(h:s0 m x):∀z∈dI m 0 false x,0≤z∧z<fx m:=by
 intro z bL;unfold dI at bL;by_cases U:x.op=2
 ·rw[if_pos U] at bL;obtain⟨aH,_,a1⟩:=h.var bq U
  have:=A1 aH
  have:=pD.1 bL
  omega
 rw[if_neg U] at bL;by_cases ah:x.op=3
 ·rw[if_pos ah] at bL;obtain⟨aH,_⟩:=h.item bq ah
  have:=A1 aH
  unfold k8 at bL;rw[if_neg (by simp)] at bL
  have:=pD.1 bL
  omega
 rw[if_neg ah] at bL;by_cases aJ:x.op=4
 ·obtain⟨_,bk⟩:=h.node.loc aJ
  have:(ez m).locals=[]:=rfl
  rw[this] at bk;cases bk
 rw[if_neg aJ] at bL;by_cases bY:x.op=6
 ·rw[if_pos bY] at bL;have aw:x.n.toNat<m.a7.length:=(h.node.len bY).2
  have:=Rb aw
  have:=pD.1 bL
  omega
 rw[if_neg bY] at bL;by_cases cO:x.op=7
 ·rw[if_pos cO] at bL;unfold lQ at bL;obtain⟨j,aI,bL⟩:=List.mem_flatMap.1 bL;split at bL
  ·have:=Uy (m:=m) (List.mem_range.1 aI)
   have:=pD.1 bL
   omega
  ·cases bL
 ·rw[if_neg cO] at bL;cases bL
def aaA(x:Nat×Nat):List Value:=[.slice (some ⟨x.1,0,none⟩) x.2 x.2]
def adu(m:Model)(b0:List Nat):List (Nat×Nat):=b0.zip (m.procs.map fun p=>p.cW.toNat)
end o
namespace Go.Proofs.R
open Go Go.RowKit bt
structure ake(m:o.Model)(base:Nat)(b0:List Nat)(Z3:Nat→List Int)(v:Value)(W:World):Prop where
 row:bg o.aaA T.c 1 base W v (o.adu m b0)
 low:∀b∈b0,base≤b
 nodup:b0.Nodup
 aQ:∀p (h:p<b0.length),W.heap[b0[p]]? = some (.cells (ae2 (Z3 p)).toArray T.a)
end Go.Proofs.R
end
section
namespace bt
open Go Go.RowKit
def XR(_:World)(cs:List Value)(x:Nat):Prop:=cs=r3 x
instance amj:Rel (Flat r3) XR 1 where
 out h:=⟨_,h,rfl⟩
 nY h k:=by cases k;exact h
 len h:=by cases h;rfl
 one h:=by cases h;exact aaz _
 ext _ h:=h
def im(ak:List Bool):List Value:=ak.map Value.bool
theorem aka(n:Nat):pL (Value.bool false).cells (n*1)=(im (List.replicate n false)).toArray:=by
 apply Array.ext_getElem?;intro i;by_cases h:i<n
 ·simp[pL,im,Value.cells,h,Nat.mod_one]
 ·simp[pL,im,h]
theorem K.Mg{di:Value→World→Prop}{w:World}{e:TypeId}{n:Int}{t}(N:Nat)(aH:n=N)(aB:N≤1000000)(hk:∀aq b,w.heap.size≤b→Ext w aq→aq.heap[b]? = some (.cells (im (List.replicate N false)).toArray e)→di (.slice (some ⟨b,0,none⟩) N N) aq) :
  yJ e 1 1 (.bool false) (.int .i64 n) (.int .i64 n) w di t:=by
 subst aH;refine K.pA ⟨by omega,by omega,by omega,by omega⟩ ?_;have h:=hk (w.alloc (.cells (im (List.replicate N false)).toArray e)) _ (Nat.le_refl _) ((Ext.refl w).alloc _) (heap_alloc_new w _);rw[Int.toNat_natCast,aka];exact h
theorem K.Xa{b c:Nat}{ak:List Bool}{w:World}{e:TypeId}{gq:World→Prop}{t}(h:w.heap[b]? = some (.cells (im ak).toArray e))(aw:c<ak.length)
  (hk:∀aq,dz b w aq→aq.heap[b]? = some (.cells (im (ak.set c true)).toArray e)→gq aq):qF (.pointer (some (Addr.add ⟨b,0,none⟩ (c*1)))) (.bool true) w gq t:=by
 have aG:c<(im ak).toArray.size:=by simp[im];exact aw
 rw[Nat.mul_one];refine K.st (eN h (Array.getElem?_eq_getElem aG)) (by rw[add_eq];simp[World.frozen?,h]) rfl (hk _ ?_ ?_)
 ·have:=dz.setCell w (Addr.add ⟨b,0,none⟩ c) (.bool true)
  rwa[uZ] at this
 ·rw[EH h aG];simp[im,List.map_set]
end bt
namespace Go.Proofs.R
open Go Go.RowKit bt
structure lv(w:World)(bR b N:Nat)(L:List Int):Prop where
 box:w.heap[bR]? = some (.cells #[.slice (some ⟨b,0,none⟩) N N] T.s)
 row:∃ak,w.heap[b]? = some (.cells (im ak).toArray T.l)∧o.mn N L ak
theorem lv.ne{w:World}{bR b N:Nat}{L:List Int}(h:lv w bR b N L):¬bR=b:=fun e=>by
 obtain⟨ak,h1,_⟩:=h.row;subst e;have U:=h.box;rw[h1] at U;injection U with U
 injection U with _ U
 revert U;decide
theorem lv.ext{w w':World}{bR b N:Nat}{L:List Int}(h:lv w bR b N L)(he:Ext w w'):lv w' bR b N L:=by
 obtain⟨ak,h1,U⟩:=h.row;exact⟨he.obj h.box,ak,he.obj h1,U⟩
theorem lv.other{w:World}{bR b N k:Nat}{L:List Int}{cs:Array Value}{t:TypeId}(h:lv w bR b N L)(hk:w.heap[k]? = some (.cells cs t))(aL:t≠T.l):¬k=b:=fun e=>by
 obtain⟨ak,h1,_⟩:=h.row;subst e;rw[h1] at hk;injection hk with hk
 injection hk with _ hk
 exact aL hk.symm
theorem lv.congr{w:World}{bR b N:Nat}{L lu:List Int}(h:lv w bR b N L)(e:∀x,x∈L↔x∈lu):lv w bR b N lu:=by
 obtain⟨ak,h1,U⟩:=h.row;exact⟨h.box,ak,h1,U.congr e⟩
theorem HX(c bR b N:Nat)(L:List Int)(x:Int)(w:World)(h:lv w bR b N L)(av:x=c)(aw:c<N)(fN:N≤1000000) :
  bw Tryz.prog F.bi #[.int .i64 x,.pointer (some ⟨bR,0,none⟩)] w fun _ w'=>lv w' bR b N (L++o.fO c 1)∧Mod (fun k=>k=b) w w':=by
 subst av;have cH:=h.ne;obtain⟨ak,h1,U⟩:=h.row;have mC:=h.box;have a1:=U.len;refine bP E.bi ?_;refine bM ?_;refine ad ?_;refine K.Xa h1 (by omega) fun aq mJ ar=>?_;refine ad ?_;refine⟨⟨mJ.obj mC cH,_,ar,?_⟩,mJ.mod rfl⟩;rw[o.lJ];exact U.put aw
theorem aas(x:o.Node)(cs ys:List Value)(cw:Value)(bR b:Nat)(L:List Int)(m:o.Model)(w0 w:World)(h:o.dM w0 cs m)(dg:o.kf w0 ys (o.layout m))(bs:jX w0 cw (o.insts m))(he:Ext w0 w)(p4:w0.heap.size≤b)
  (cm:lv w bR b (o.fx m) L)(bq:o.ff m)(av:o.s0 m x)(dA:x.ok) :
  bw Tryz.prog F.pZ #[.agg cs.toArray,.agg ys.toArray,cw,.agg x.enc.toArray,.func (.func F.bi) #[] #[.pointer (some ⟨bR,0,none⟩)]] w fun _ w'=>lv w' bR b (o.fx m) (L++o.dI m 0 false x)∧Mod (fun k=>k=b) w w':=by
 have xR:=dA.op;have xQ:=dA.n;unfold o.eM at xR xQ;obtain⟨jT,d0,gb,d1,hQ,d2,iT,d3,kL,d4,rfl,ao,h1,U,ah,aJ,eH,dB,dH,ee,ei⟩:=h.form;obtain⟨cz,bV,cj,c1,cq,c2,cr,bJ,cC,bW,rfl,gG,eO,fc,mb,sJ⟩:=dg.form;obtain⟨dd,ci,rfl,_⟩:=bs.form;obtain⟨f5,f6,f8⟩:=o.Ai m;have nS:o.fx m≤64:=o.sA bq;refine bP E.pZ ?_;refine bM ?_;refine ad ?_;intro aq dX jf aC b3;refine ad ?_;intro aU dY eK aA b5;replace b3:=aA.obj b3;refine ad ?_;intro aY kA oE ax c5;replace b3:=ax.obj b3;replace b5:=ax.obj b5;have eT:=(aC.trans aA).trans ax;have wv:=he.trans eT;have vo:=cm.ext eT;have n5:=vo.other b3 (by decide);have n6:=vo.other b5 (by decide);have n8:=vo.other c5 (by decide);unfold o.Node.enc at c5;refine ad ?_;apply K.cond<;>intro g2
 ·obtain⟨aH,fv,a1⟩:=av.var bq g2;obtain⟨a0,rfl⟩:=gG.addr (by omega);have ahu:=gG.ext Flat.ext wv;obtain⟨fq,lF⟩:=o.wg aH;have bd:=o.A1 aH;have fR:x.n=(x.n.toNat:Nat):=by omega
  rw[fR] at c5;have ba:o.dI m 0 false x=o.fO (o.iD m x.n.toNat) 1:=by unfold o.dI;rw[if_pos g2]
  rw[ba];refine ad ?_;refine K.mv (first:=[]) (cap:=[.pointer (some ⟨bR,0,none⟩)]) (by kernel_rfl) (HX (o.iD m x.n.toNat) bR b _ L _ aY vo (by rw[lF]) (by omega) (by omega)) ?_;rintro _ bo ⟨k5,j5⟩;refine ad ?_;exact⟨k5,eT.mod.trans j5⟩
 refine ad ?_;apply K.cond<;>intro g3
 ·obtain⟨aH,fv,aef,pw,dn,alI⟩:=av.item bq g3;obtain⟨a0,rfl⟩:=gG.addr (by omega);obtain⟨aku,rfl⟩:=ao.addr (by omega);obtain⟨Ym,rfl⟩:=h1.addr (by omega);obtain⟨fq,lF⟩:=o.wg aH;have bd:=o.A1 aH;have fR:x.n=(x.n.toNat:Nat):=by omega
  have bz:o.dI m 0 false x=o.fO (o.iD m x.n.toNat) (o.lb m x.n.toNat):=by
   unfold o.dI o.k8;rw[if_neg g2,if_pos g3,if_neg (by simp)]
  rw[fR] at c5;rw[bz];refine ad ?_;refine K.dx _ (by omega) aef ?_;refine ad ?_;intro bo aF;have eb:=wv.trans aF;have Cy:=vo.ext aF;have q5:=aF.obj b5;have Kx:=aF.obj c5;clear b5 c5 b3;refine ad ?_;refine K.cR 40 (o.lb m x.n.toNat) [4,6,8,39] (fun _:Unit=>[]) () (fun k _ W=>lv W bR b (o.fx m) (L++o.fO (o.iD m x.n.toNat) k)∧Mod (fun k=>k=b) bo W) bp bp ⟨by rw[o.Ww,List.append_nil];exact Cy,Mod.refl _ _⟩ ?_;rintro k _ S bD hk ⟨mB,k2⟩;have b5:=k2.obj n6 q5;have c5:=k2.obj n8 Kx;have HO:=gG.ext Flat.ext (k2.ext eb fun i af e=>by omega);refine ad ?_;apply K.cond<;>intro g4
  ·refine ad ?_;refine K.mv (first:=[]) (cap:=[.pointer (some ⟨bR,0,none⟩)]) (by kernel_rfl) (HX (o.iD m x.n.toNat+k) bR b _ _ _ bD mB (by rw[lF];omega) (by omega) (by omega)) ?_;rintro _ bQ ⟨z7,p9⟩;refine ad ?_;refine⟨by omega,bf,(),trivial,?_,k2.trans p9⟩;rw[o.lJ] at z7;rw[o.V5];exact z7
  ·have h8:k=o.lb m x.n.toNat:=by omega
   rw[h8] at mB;refine ad ?_;exact⟨mB,(eT.mod.trans aF.mod).trans k2⟩
 refine ad ?_;apply K.cond<;>intro g6
 ·obtain⟨fv,dV⟩:=av.node.len g6;have eA:x.n.toNat<m.a7.length:=dV;obtain⟨dG,rfl⟩:=eO.addr (by omega);have ahw:=eO.ext Flat.ext wv;obtain⟨p5,e9⟩:=o.u3 eA;have bd:=o.Rb eA;have fR:x.n=(x.n.toNat:Nat):=by omega
  rw[fR] at c5;have c7:o.dI m 0 false x=o.fO (o.h3 m x.n.toNat) 1:=by
   unfold o.dI;rw[if_neg g2,if_neg g3,if_neg (by omega),if_pos g6]
  rw[c7];refine ad ?_;refine K.mv (first:=[]) (cap:=[.pointer (some ⟨bR,0,none⟩)]) (by kernel_rfl) (HX (o.h3 m x.n.toNat) bR b _ L _ aY vo (by rw[e9]) (by omega) (by omega)) ?_;rintro _ bo ⟨k5,j5⟩;refine ad ?_;exact⟨k5,eT.mod.trans j5⟩
 refine ad ?_;apply K.cond<;>intro g7;rotate_left
 ·have eX:o.dI m 0 false x=[]:=by
   unfold o.dI;by_cases g4:x.op=4
   ·have:=(av.node.loc g4).2
    have e:(o.ez m).locals=[]:=rfl;rw[e] at this;cases this
   rw[if_neg g2,if_neg g3,if_neg g4,if_neg g6,if_neg g7]
  rw[eX,List.append_nil];refine ad ?_;exact⟨vo,eT.mod⟩
 have dw:o.dI m 0 false x=o.lQ m (x.n.tdiv 16) (o.insts m).length:=by unfold o.dI;rw[if_neg g2,if_neg g3,if_neg (by omega),if_neg g6,if_pos g7]
 rw[dw];obtain⟨fv,xK⟩:=av.node.at_ g7;have Lj:(x.n.tdiv 16).toNat<m.procs.length:=xK;have Lo:=Int.tdiv_nonneg fv (show(0:Int)≤16 by omega);have Ll:=bq.procs;have Ub : -9223372036854775808≤x.n.tdiv 16∧x.n.tdiv 16≤9223372036854775807:=by omega
 have jq:=o.DC bq;have nO:∀{W},Mod (fun k=>k=b) aY W→Ext w0 W:=fun hm=>hm.ext wv fun k hk e=>by omega
 have q5:=b5;have Kx:=c5;clear b5 c5 b3;refine ad ?_;refine K.cR 68 (o.insts m).length [2,4,6,8,66,67] (fun _:Unit=>[]) () (fun k _ W=>Mod (fun i=>i=b) aY W∧lv W bR b (o.fx m) (L++o.lQ m (x.n.tdiv 16) k)) bp bp ⟨Mod.refl _ _,by simpa[o.lQ] using vo⟩ ?_;rintro k _ S bo hk ⟨j5,Cy⟩;have b5:=j5.obj n6 q5;have c5:=j5.obj n8 Kx;have Gt:=bs.ext Flat.ext (nO j5);refine ad ?_;apply K.cond<;>intro g1
 ·have cT:k<(o.insts m).length:=by omega
  obtain⟨gB,rfl⟩:=bs.addr (by omega);obtain⟨xD,kl⟩:=o.xT cT;have zQ:=o.Uy cT;obtain⟨a2,rfl⟩:=fc.addr (by omega);have MQ:=fc.ext Flat.ext (nO j5);refine ad ?_;intro wn BF sb fF fT;refine ad ?_;intro bD eU q3;have aM:Ext bo bD:=eU.ext fF sb;replace b5:=aM.obj b5;replace c5:=aM.obj c5;replace MQ:=MQ.ext Flat.ext aM;have mB:=Cy.ext aM;have k2:=j5.trans aM.mod;clear Cy Gt;refine ad ?_;refine K.quo (by omega) ?_;refine ad ?_;apply K.cond<;>intro g2
  ·refine ad ?_;refine K.mv (first:=[]) (cap:=[.pointer (some ⟨bR,0,none⟩)]) (by kernel_rfl) (HX (o.fl m k) bR b _ _ _ bD mB (by rw[kl]) (by omega) (by omega)) ?_;rintro _ bQ ⟨z7,p9⟩;refine ad ?_;refine⟨cT,bf,(),trivial,k2.trans p9,?_⟩;rw[o.wR cT,if_pos g2,←List.append_assoc];exact z7
  ·refine ad ?_;refine⟨cT,bf,(),trivial,k2,?_⟩;rw[o.wR cT,if_neg g2,List.append_nil];exact mB
 ·have h8:(o.insts m).length=k:=by omega
  rw[h8];refine ad ?_;exact⟨Cy,eT.mod.trans j5⟩
end Go.Proofs.R
end