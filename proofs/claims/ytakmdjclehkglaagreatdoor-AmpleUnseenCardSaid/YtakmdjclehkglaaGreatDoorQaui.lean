/- Parts. -/
import Derived.Test.YtakmdjclehkglaaGreatDoorQauh
set_option linter.all false
set_option maxRecDepth 8000
set_option maxHeartbeats 4000000
section
namespace Go.Proofs.R
open Go Go.RowKit bb
theorem _u{P:D_}{x:B_}{args:C_ B_}{w:A_}{aC:B_->Prop}{t}(v:B_)(h:∀w',Ext w w'->uW P x args w' (fun u bK=>u=v/\Ext w' bK) ⟨⟩)(hk:aC v):CZ P x args w aC t:=by
 unfold CZ;refine⟨v,fun w' he=>?_,hk⟩
 have:=h w' he
 unfold uW at this;obtain⟨f,first,cap,e,ax,aL⟩:=this;exact⟨f,first,cap,e,ax,aL.mono fun _ _ ⟨h1,I⟩=>⟨h1,he.trans I⟩⟩
theorem wS.ext{w w':A_}{v:B_}{g:Int->Int->Int×Bool}(he:Ext w w')(h:wS w v g):wS w' v g:=by
 rcases h with h | ⟨c,f,p,h1,I,ab⟩
 .exact .inl h
 .exact .inr ⟨c,f,p,h1,he.obj I,ab⟩
def KS(f:o.Node->C_ Int->Int×Int)(two:o.oU->C_ Int->Int×Int)(leaf:o.Node->C_ Int->Int×Int):Prop :=
 ∀x st,f x st=match o.gQ x.op with | some ad=>two ad (st.drop (st.length - ad.parts.toNat)) | none=>leaf x st
theorem PV{x:Int}{ad:o.oU}(h:o.gQ x=some ad):1<=ad.parts/\ad.parts<=2:=by
 unfold o.gQ at h
 repeat' split at h
 all_goals first | (cases h;exact⟨by decide,by decide⟩) | cases h
theorem ap2(f:o.Node->C_ Int->Int×Int)(two:o.oU->C_ Int->Int×Int)(leaf:o.Node->C_ Int->Int×Int)(ax:KS f two leaf)
  (x:o.Node)(base b:Nat)(w:A_)(m pA v2:B_)(st:C_ Int)(hm:qn base b w m st)(aM:qo w m)(vw:st.length<=24)
  (Oe:0<=o.fc x.op->o.fc x.op<=st.length->o.gQ x.op=none->∀w' cW t,Ext w w'->(∀bK,Ext w' bK->cW (.tuple #[.int .i64 (leaf x st).1,.int .i64 (leaf x st).2]) bK)->yy Tryz.prog pA [.agg x.enc.toArray] w' cW t)
  (OS:∀ad e4 fH w' cW t,Ext w w'->o.gQ x.op=some ad->CW w' ad e4->ad.parts<=st.length->Ints w' fH (st.drop (st.length - ad.parts.toNat)) ->
   (∀bK,Ext w' bK->cW (.tuple #[.int .i64 (two ad (st.drop (st.length - ad.parts.toNat))).1,.int .i64 (two ad (st.drop (st.length - ad.parts.toNat))).2]) bK)->uW Tryz.prog v2 [e4,fH] w' cW t) :
  a7 Tryz.prog F.y7 #[.pointer (some ⟨b,0,none⟩),.agg x.enc.toArray,pA,v2] w fun v w' =>
   v = .int .i64 (o.stepG f x st).1/\Mod (fun k=>k=b\/base<=k) w w'/\((o.stepG f x st).1=0->qn base b w' m (o.stepG f x st).2):=by
 obtain⟨Ac,cU,fB⟩:=hm.ex;obtain⟨aQ,cap,rfl,Eg,iq⟩:=fB.form;have U:Ints w _ st:=aW.jH (enc:=encI) (sz:=1) (fun _=>rfl) fB;unfold maxLen at iq;refine bn E.y7 ?_;simp -dsimp only[cB];refine qv ?_;refine O_ fun w1 bo cT al ai=>?_;refine qv ?_;simp -dsimp only[cB];refine qv ?_;refine P_ _ (fun w' e=>anw x.op m w' (aM.ext (al.trans e))) ?_;refine qv ?_;intro aH ao;have fz:=al.trans ao;refine qv ?_;simp -dsimp only[cB];generalize ay:o.fc x.op=n;have l8 : -1<=n/\n<=2:=by rw[<-ay];unfold o.fc; (repeat' split)<;>omega
 refine az ?_;apply I_<;>intro g1
 .refine az ?_;have an:o.stepG f x st=(3,st):=by unfold o.stepG;rw[ay,if_pos g1]
  rw[an];exact⟨rfl,fz.mod,fun h=>by cases h⟩
 refine az ?_;apply I_<;>intro g2
 .refine az ?_;have an:o.stepG f x st=(4,st):=by unfold o.stepG;rw[ay,if_neg g1,if_pos g2]
  rw[an];exact⟨rfl,fz.mod,fun h=>by cases h⟩
 refine qv ?_;simp -dsimp only[cB];refine qv ?_;simp -dsimp only[cB];refine qv ?_;have eH:o.stepG f x st=if (f x st).2≠0 then ((f x st).2,st) else if (st.take (st.length - n.toNat)++[(f x st).1]).length > 12 then (12,st) else (0,st.take (st.length - n.toNat)++[(f x st).1]):=by
  unfold o.stepG;rw[ay,if_neg g1,if_neg g2]
 rw[eH];clear eH;have xL:=ax x st;generalize aL:f x st=r at xL ⊢;refine _s (fun aX w'=>aX 0 = .pointer (some ⟨b,0,none⟩)/\aX 9 = .int .i64 n/\aX 10 = .int .i64 r.1/\aX 11 = .int .i64 r.2/\Ext w w') ?_ ?_
 .refine az ?_;intro aP aj;obtain⟨es,q,qW,mI,zI⟩:=(aM.ext (fz.trans aj)).look x.op;refine az ?_;refine _l qW mI ?_;cases l9:o.gQ x.op with
  | none =>
   simp only[l9] at zI xL;subst zI;simp only[mK,Option.map_none,Option.getD_none,Option.isSome_none,if_true];refine az ?_;refine O_ fun aR cF fy aA bH=>?_;refine⟨aA,?_⟩;refine az ?_;refine T_ (cs:=#[.int .i64 0,.int .i64 0,.int .i64 0,.nilFunc]) bH rfl rfl (by simp[Value.oneCell']) fun bq fb cc=>?_;have aJ:Ext aP bq:=fb.ext aA fy;clear bH fb aA;refine az ?_;refine R_ (c:=[_,_]) (ao.obj ai) (fw) rfl ?_;refine az ?_;refine Oe (by omega) (by omega) l9 _ _ _ ((fz.trans aj).trans aJ) fun bB aT=>?_;refine az ?_;rw[xL];exact⟨trivial,trivial,rfl,rfl,((fz.trans aj).trans aJ).trans aT⟩
  | some ad =>
   simp only[l9] at zI xL;obtain⟨i,e4,rfl,u,rfl,a6⟩:=zI;obtain⟨bO,bV⟩:=PV l9;have on:=(o.Fk l9).1;simp only[mK,Option.map_some,Option.getD_some,Option.isSome_some,if_true];refine az ?_;refine O_ fun aR cF fy aA bH=>?_;refine⟨aA,?_⟩;refine az ?_;refine T_ (cs:=#[.int .i64 ad.parts,.int .i64 ad.jq,.int .i64 ad.makes,u]) bH rfl rfl (by rcases a6 with ⟨f,rfl,_⟩ | ⟨c,f,p,rfl,_⟩<;>simp[Value.oneCell']) fun bq fb cc=>?_;have aJ:Ext aP bq:=fb.ext aA fy;clear bH fb aA;have NT:=(fz.trans aj).trans aJ;have asC:CW aP ad (.agg #[.int .i64 ad.parts,.int .i64 ad.jq,.int .i64 ad.makes,u]):=⟨u,rfl,a6⟩;obtain⟨p,rfl⟩:=Int.eq_ofNat_of_zero_le (show 0<=n by omega);have ar:ad.parts.toNat=p:=by omega
   refine az ?_;refine R_ (c:=[_,_,_,_]) cc (Ext.refl _) rfl ?_;refine az ?_;refine _6 (st.length - p) (by refine aN ?_;rw[Int.ofNat_sub (by omega)]) ⟨by omega,by omega⟩ ?_;have aB:=U.tail (st.length - p) (by omega);rw[ar] at xL;refine az ?_;refine _u _ (fun w' e=>OS ad _ _ w' _ _ (NT.trans e) l9 ⟨u,rfl,a6.ext (aJ.trans e)⟩ (by omega) (by rw[ar];exact aB.ext Flat.ext (NT.trans e)) fun bK aI=>⟨rfl,aI⟩) ?_;refine az ?_;intro bB aT;refine az ?_;rw[xL,ar];exact⟨trivial,trivial,rfl,rfl,NT.trans aT⟩
 .clear ai al ao fz;rintro S aP bZ ⟨jZ,FC,FB,Cn,aj⟩;simp -dsimp only[cB];refine dm (i_ jZ (i_ FC (i_ FB Cn))) ?_;apply I_<;>intro g3;rotate_left
  .refine dm Cn ?_;rw[if_pos g3];exact⟨rfl,aj.mod,fun h=>absurd h g3⟩
  obtain⟨p,rfl⟩:=Int.eq_ofNat_of_zero_le (show 0<=n by omega);have qH:¬r.2≠0:=by simpa using g3
  rw[if_neg qH];have iq:(st.take (st.length - p)++[r.1]).length=st.length - p+1:=by simp[List.length_take]
  have iW:=hm.ext aj;have eu:mU base aP (.slice aQ st.length cap) st:=fB.ext aj;refine qv ?_;simp -dsimp only[cB];refine dm (i_ jZ (i_ FC (i_ FB Cn))) ?_;intro aR aA;have eR:mU base aR (.slice aQ st.length cap) st:=eu.ext aA;refine dm (i_ jZ (i_ FC (i_ FB Cn))) ?_;refine _M (st.length - p) (by refine aN ?_;rw[Int.ofNat_sub (by omega)]) (by omega) ?_;refine dm (i_ jZ (i_ FC (i_ FB Cn))) ?_;refine Y_ (cs:=[r.1].flatMap encI) (by simp[List.range,List.range.loop,eW,lay,dp,bL,Value.cells,encI]) fun bq dx k9 aJ cc=>?_;refine⟨aJ,?_⟩;refine az ?_;have dL:mU base bq (.slice aQ (st.length - p) cap) (st.take (st.length - p)):=aW.head (enc:=encI) (sz:=1) (xs:=st) (fun _=>rfl) (aW.ext aJ eR) (st.length - p) (Nat.sub_le _ _);have ch:(st.take (st.length - p)).length=st.length - p:=by simp[List.length_take]
  have Cc:((st.take (st.length - p)).length+[r.1].length)*8<=140737488355328:=by rw[ch];simp only[List.length_cons,List.length_nil];omega
  have an4:(st.take (st.length - p)).length+[r.1].length<=maxLen:=by rw[ch];simp only[List.length_cons,List.length_nil,maxLen];omega
  have cV:∀y,∀u∈encI y,u.oneCell'=true:=fun y u h=>by simp[encI] at h;subst h;rfl
  refine _U (xs:=st.take (st.length - p)) (ys:=[r.1]) dL (fun _=>rfl) (hA cc) rfl cV Cc an4 (by have:=hm.le;have:=aj.size;have:=aA.size;have:=aJ.size;omega) fun v6 bB dB jA=>?_;have D4:bq.heap[b]? = some (.cells #[.slice aQ st.length cap,m] T.mX):=aJ.obj (aA.obj (aj.obj cU));have fX:bB.heap[b]? = some (.cells #[.slice aQ st.length cap,m] T.mX):=by
   refine(jA.block b (cy D4) fun e=>?_).trans D4
   have:=(dL.lt b e.symm).1
   have:=hm.lt
   omega
  refine az ?_;refine _F fX (by simp) (by obtain⟨aQ,cap,e,_⟩:=dB.form;rw[e];rfl) fun bQ dT c9=>?_;have vO:Mod (fun k=>k=b\/base<=k) w bQ :=
   (((aj.trans aA).trans aJ).mod.trans (Mod.grown jA fun k hk=>.inr (dL.lt k hk).1)).trans (dT.mod (.inl rfl))
  have h8:qn base b bQ m (st.take (st.length - p)++[r.1]) :=
   ⟨⟨v6,c9,dB.wr dT hm.lt⟩,hm.lt,Nat.le_trans hm.le vO.size⟩
  obtain⟨tj,arQ,rfl,b4,_⟩:=dB.form;rw[iq];have asN:((st.take (st.length - p)++[r.1]).length:Int)=st.length - p+1:=by rw[iq];omega
  refine dm (i_ jZ (i_ FC (i_ FB Cn))) ?_;apply I_<;>intro g4
  .refine az ?_;simp only[Int.toNat_natCast,iq];rw[if_pos (by omega)];exact⟨rfl,vO,fun h=>by cases h⟩
  .refine az ?_;simp only[Int.toNat_natCast,iq];rw[if_neg (by omega)];exact⟨rfl,vO,fun _=>h8⟩
end Go.Proofs.R
end
section
namespace Go.Proofs.R
open Go Go.RowKit bb
theorem abe(f:o.Node->C_ Int->Int×Int)(two:o.oU->C_ Int->Int×Int)(leaf:o.Node->C_ Int->Int×Int)(ax:KS f two leaf)(cN:Int->Prop)
  (b:Nat)(w0 w:A_)(BU:Ext w0 w)(rH:w0.heap.size<=b)(gI pA v2:B_)(e:C_ o.Node)(he:o.eV w0 gI e)(ak:w.heap[b]? = some (.cells #[.slice none 0 0,.map none] T.mX))
  (Eo:∀x st,x.ok->(∀z∈st,cN z)->0<=o.fc x.op->o.fc x.op<=st.length->(f x st).2=0->cN (f x st).1)
  (Oe:∀x st base m w',x.ok->Mod (fun k=>k=b) w w'->qn base b w' m st->(∀z∈st,cN z)->0<=o.fc x.op->o.fc x.op<=st.length->o.gQ x.op=none->∀w1 cW t,Ext w' w1 ->
   (∀bK,Ext w1 bK->cW (.tuple #[.int .i64 (leaf x st).1,.int .i64 (leaf x st).2]) bK)->yy Tryz.prog pA [.agg x.enc.toArray] w1 cW t)
  (OS:∀ad e4 fH l w' cW t,Mod (fun k=>k=b) w w'->CW w' ad e4->(∃x,o.gQ x=some ad)->ad.parts=l.length->Ints w' fH l ->
   (∀bK,Ext w' bK->cW (.tuple #[.int .i64 (two ad l).1,.int .i64 (two ad l).2]) bK)->uW Tryz.prog v2 [e4,fH] w' cW t) :
  a7 Tryz.prog F.Hw #[.pointer (some ⟨b,0,none⟩),gI,pA,v2] w fun v w' =>
   v = .tuple #[.int .i64 (o.kV f e).1,.int .i64 (o.kV f e).2]/\Mod (fun k=>k=b) w w':=by
 obtain⟨aQ,cap,rfl,hlen⟩:=he.form;refine bn E.Hw ?_;refine az ?_;apply I_<;>intro g1
 .refine az ?_;rw[o.kV,if_pos (by omega)];exact⟨rfl,Mod.refl _ _⟩
 refine az ?_;apply I_<;>intro g2
 .refine az ?_;rw[o.kV,if_neg (by omega),if_pos (by omega)];exact⟨rfl,Mod.refl _ _⟩
 refine az ?_;refine J_ (am6 w) ?_;rintro m w1 ⟨Ex,al⟩;refine az ?_;refine _F (al.obj ak) (by decide) (by obtain⟨r,_,_,_,e,_⟩:=Ex;rw[e];rfl) fun aH po av=>?_;have D8:aH.heap[b]? = some (.cells #[.slice none 0 0,m] T.mX):=av;clear av;have ajN:qo aH m:=Ex.mod (A:=fun k=>k=b) (po.mod rfl) fun k ad h1 I hk=>by
  subst hk;rw[al.obj ak] at h1;injection h1 with h1
  rcases I with ⟨es,c,I⟩ | ⟨cs,I⟩
  .rw[I] at h1;cases h1
  .rw[I] at h1;injection h1 with _ h1
   cases h1
 have X6:Mod (fun k=>k=b) w aH:=al.mod.trans (po.mod rfl);have ch:b<aH.heap.size:=cy D8;refine az ?_;refine _i 27 e.length (fun k S w'=>Mod (fun k=>k=b) aH w'/\∃st,o.eZ f (e.take k) []=(0,st)/\qn aH.heap.size b w' m st/\(0<k->1<=st.length)/\st.length<=12/\∀z∈st,cN z)
  (by simp -dsimp only[c0,cB,Nat.reduceAdd,Nat.reduceEqDiff,reduceIte,reduceCtorEq,dd]) ⟨Mod.refl _ _,[],by simp[o.eZ],⟨⟨_,D8,aW.nil _ _ _ _ _⟩,ch,Nat.le_refl _⟩,by simp,by simp,by simp⟩ ?_
 rintro k S aP bZ hk oB ⟨vO,st,hS,zy,DO,rF,xN⟩;have af:=bZ 0 rfl;have h1:=bZ 1 rfl;have I:=bZ 2 rfl;have ab:=bZ 3 rfl;have tW:=bZ 25 rfl;have l3:=bZ 26 rfl;simp only[bL,Nat.reduceAdd,Nat.reduceEqDiff,reduceIte,jT,nf] at af h1 I ab tW l3;clear bZ;have IQ:Mod (fun k=>k=b) w aP:=X6.trans vO;refine dm (i_ af (i_ h1 (i_ I (i_ ab (i_ tW (i_ l3 oB)))))) ?_;apply I_<;>intro g3
 .have aZ:k<e.length:=by omega
  have ar1:Ext w0 aP:=IQ.ext BU fun q au e=>by omega
  obtain⟨a,rfl⟩:=he.addr;have um:=(he.at k aZ).ok;have ks:=fun af=>o.QD (f:=f) (e:=e) (by omega) aZ hS af;have ui:=o.yk aZ hS;have ajO:qo aP m:=ajN.mod (A:=fun k=>k=b) vO fun k ad h1 I hk=>by
   subst hk;rw[D8] at h1;injection h1 with h1
   rcases I with ⟨es,c,I⟩ | ⟨cs,I⟩
   .rw[I] at h1;cases h1
   .rw[I] at h1;injection h1 with _ h1
    cases h1
  refine dm (i_ af (i_ h1 (i_ I (i_ ab (i_ tW (i_ l3 oB)))))) ?_;generalize ag:e[k]=x at *;refine _L (vs:=x.enc) (fun _=>by simp -dsimp only[c0,cB,Nat.reduceAdd,Nat.reduceEqDiff,reduceIte,reduceCtorEq,dd]) rfl rfl (by simp[o.Node.enc,Value.oneCell']) fun aR cF fy aA bH=>?_;refine dm (i_ af (i_ h1 (i_ I (i_ ab (i_ tW (i_ l3 oB)))))) ?_;refine R_ (c:=x.enc) bH (Ext.refl _) rfl ?_;refine dm (i_ af (i_ h1 (i_ I (i_ ab (i_ tW (i_ l3 oB)))))) ?_;have Oh:Mod (fun k=>k=b) w aR:=IQ.trans aA.mod;refine J_ (ap2 f two leaf ax x aH.heap.size b aR m pA v2 st (zy.ext aA) (ajO.ext aA) (by omega)
   (fun cV dq dU w' cW t EL hk=>Oe x st _ m aR um Oh (zy.ext aA) xN cV dq dU w' cW t EL hk)
   (fun ad e4 fH w' cW t EL cV dq dU hy hk=>OS ad e4 fH _ w' cW t (Oh.trans EL.mod) dq ⟨_,cV⟩ (by have:=PV cV;simp[List.length_drop];omega) hy hk)) ?_
  rintro _ bq ⟨rfl,lh,Yx⟩;have ajo:Mod (fun k=>k=b) w bq:=Oh.then lh fun i U h=>by
   rcases h with h | h
   .exact h
   .have:=X6.size;omega
  refine dm (i_ af (i_ h1 (i_ I (i_ ab (i_ tW (i_ l3 oB)))))) ?_;apply I_<;>intro g4;rotate_left
  .refine dm (i_ af (i_ h1 (i_ I (i_ ab (i_ tW (i_ l3 oB)))))) ?_;rw[ks g4];exact⟨aU,ajo⟩
  have Eu:=o.ap1 g4;have ai0:∀z∈(o.stepG f x st).2,cN z:=by
   have aK:=Eo x st um xN;clear ks ui Eu Yx;unfold o.stepG at g4 ⊢;by_cases cV:o.fc x.op<0
   .rw[if_pos cV] at g4;cases g4
   by_cases dq:(st.length:Int)<o.fc x.op
   .rw[if_neg cV,if_pos dq] at g4;cases g4
   by_cases dU:(f x st).2≠0
   .rw[if_neg cV,if_neg dq,if_pos dU] at g4;exact absurd g4 dU
   by_cases hy:(st.take (st.length - (o.fc x.op).toNat)++[(f x st).1]).length > 12
   .rw[if_neg cV,if_neg dq,if_neg dU,if_pos hy] at g4;cases g4
   rw[if_neg cV,if_neg dq,if_neg dU,if_neg hy];intro z bA;rcases List.mem_append.1 bA with bA | bA
   .exact xN z (List.mem_of_mem_take bA)
   .simp at bA;subst bA;exact aK (by omega) (by omega) (by simpa using dU)
  refine dm (i_ af (i_ h1 (i_ I (i_ ab (i_ tW (i_ l3 oB)))))) ?_;refine⟨aZ,aU,?_,(o.stepG f x st).2,?_,Yx g4,fun _=>Eu.1,Eu.2,ai0⟩
  .refine(vO.trans aA.mod).then lh fun i U h=>?_;rcases h with h | h
   .exact h
   .omega
  .rw[ui];exact Prod.ext g4 rfl
 .have aZ:k=e.length:=by omega
  subst aZ;rw[List.take_length] at hS;obtain⟨Ac,cU,fB⟩:=zy.ex;obtain⟨kv,pN,rfl,Eg,iq⟩:=fB.form;have U:Ints aP _ st:=aW.jH (enc:=encI) (sz:=1) (fun _=>rfl) fB;have h1:=DO (by omega);obtain⟨a,rfl⟩:=U.addr h1;have dK:o.kV f e=if st.length > 1 then (0,5) else (st.headD 0,0):=by
   rw[o.kV,if_neg (by omega),if_neg (by omega),hS,if_neg (by simp)]
  rw[dK];clear dK;refine dm (i_ af (i_ h1 (i_ I (i_ ab (i_ tW (i_ l3 oB)))))) ?_;apply I_<;>intro g4
  .refine az ?_;rw[if_pos (by omega)];exact⟨rfl,IQ⟩
  .refine dm (i_ af (i_ h1 (i_ I (i_ ab (i_ tW (i_ l3 oB)))))) ?_;refine K_ 0 rfl (by omega) ?_;refine az ?_;rw[if_neg (by omega)]
   have:st.headD 0=st[0]:=by
    cases st with
    | nil=>simp at h1
    | cons z st=>rfl
   rw[this];exact⟨aU,IQ⟩
theorem alm(ad:o.oU)(u fH:B_)(l:C_ Int)(w:A_)(aF:Ints w fH l) :
  a7 Tryz.prog F.rA #[.agg #[.int .i64 ad.parts,.int .i64 ad.jq,.int .i64 ad.makes,u],fH] w fun v w'=>v = .tuple #[.int .i64 (o.n3 ad l).1,.int .i64 (o.n3 ad l).2]/\Ext w w':=by
 obtain⟨aQ,cap,rfl,hlen⟩:=aF.form;refine bn E.rA ?_;refine az ?_;refine O_ fun w1 b ak al ai=>?_;refine az ?_;refine _i 10 l.length (fun k S w'=>w'=w1/\(l.take k).all (fun k=>(decide (ad.jq = -1)||decide (k=ad.jq))&&decide (k=l.headD 0))=true) (by simp -dsimp only[c0,cB,Nat.reduceAdd,Nat.reduceEqDiff,reduceIte,reduceCtorEq,dd]) ⟨rfl,by simp⟩ ?_;rintro k S aH bZ hk kl ⟨rfl,dA⟩;have h1:=bZ 1 rfl;have I:=bZ 2 rfl;have dC:=bZ 8 rfl;have jj:=bZ 9 rfl;simp only[bL,Nat.reduceAdd,Nat.reduceEqDiff,reduceIte,jT,nf] at h1 I dC jj;clear bZ;refine dm (i_ h1 (i_ I (i_ dC (i_ jj kl)))) ?_;apply I_<;>intro g1;rotate_left
 .rw[List.take_of_length_le (by omega)] at dA;refine dm (i_ h1 (i_ I (i_ dC (i_ jj kl)))) ?_;rw[o.n3,if_pos dA];exact ca
 have aZ:k<l.length:=by omega
 obtain⟨a,rfl⟩:=aF.addr;have xZ:l.take (k+1)=l.take k++[l[k]]:=List.take_succ_eq_append_getElem aZ;have Bs:=List.all_append (xs:=l.take (k+1)) (ys:=l.drop (k+1)) (f:=fun k=>(decide (ad.jq = -1)||decide (k=ad.jq))&&decide (k=l.headD 0));rw[List.take_append_drop,xZ,List.all_append] at Bs;have af:l.headD 0=l[0]:=by
  cases l with
  | nil=>simp at aZ
  | cons z l=>rfl
 have Xa:((decide (ad.jq = -1)||decide (l[k]=ad.jq))&&decide (l[k]=l.headD 0))=false->o.n3 ad l=(0,9):=by
  intro h;rw[o.n3,if_neg (by rw[Bs];simp only[List.all_cons,List.all_nil,h];simp)]
 have Eo:((decide (ad.jq = -1)||decide (l[k]=ad.jq))&&decide (l[k]=l.headD 0))=true->(l.take (k+1)).all (fun k=>(decide (ad.jq = -1)||decide (k=ad.jq))&&decide (k=l.headD 0))=true:=by
  intro h;rw[xZ,List.all_append,dA];simp only[List.all_cons,List.all_nil,h];rfl
 rw[af] at Xa;clear Bs;have ar:0<l.length:=by omega
 have ph:Ints aH (.slice (some a) l.length cap) l:=aF.ext al;have BE:=Eo;rw[af] at Eo dA
 (repeat' first
 | (refine I_ (fun _=>?_) (fun _=>?_)<;>try (exfalso;omega))
 | (refine N_ (fun _=>?_) (fun _=>?_))
 | assumption
 | exact Ext.refl _
 | refine Ext.trans ?_ (by assumption)
 | refine Q_ (by omega) ?_
 | refine _K (by assumption) ?_ rfl ?_
 | refine _D (by assumption) ?_ rfl ?_
 | refine _O (by assumption) ?_ (by omega) rfl ?_
 | refine _P (by assumption) ?_ (by omega) rfl ?_
 | refine _Q (by assumption) ?_ (by omega) rfl ?_
 | refine _T (by omega) ?_
 | refine _R (by first | assumption | omega) ?_
 | refine _S (by first | assumption | omega) ?_
 | refine _G (by assumption) ?_
 | refine _H (by assumption) ?_
 | simp -dsimp only[c0,cB,Nat.reduceAdd,Nat.reduceEqDiff,reduceIte,reduceCtorEq,dd,h1,I,dC,jj,kl])
 all_goals first
  | (have cU:=Xa (by simp;omega);rw[cU];refine⟨aU,al⟩)
  | (refine⟨by omega,aU,trivial,?_⟩;rw[af];exact Eo (by simp;omega))
theorem alb(x:o.Node)(cs:C_ B_)(s:o.Scope)(base b pm da:Nat)(w:A_)(m:B_)(st:C_ Int)(Q7:F_)(ag:x.ok)(h:o.fJ w cs s)(hm:qn base b w m st)(ab:x.op=3->0<st.length)
  (vS:w.heap[pm]? = some (.cells #[.pointer (some ⟨b,0,none⟩)] Q7))(sY:w.heap[da]? = some (.cells cs.toArray T.w)) :
  a7 Tryz.prog F.Hx #[.agg x.enc.toArray,.pointer (some ⟨pm,0,none⟩),.pointer (some ⟨da,0,none⟩)] w fun v w' =>
   v = .tuple #[.int .i64 (o.iY x s (st.getLastD 0)).1,.int .i64 (o.iY x s (st.getLastD 0)).2]/\Ext w w':=by
 obtain⟨v0,v1,v2,v3,v4,rfl,_⟩:=h.ex;refine bn E.Hx ?_;refine az ?_;refine O_ fun w1 bo cT al ai=>?_;have cC:w1.heap[bo]? = some (.cells x.enc.toArray T.f):=ai;refine az ?_;refine R_ (c:=x.enc) cC (Ext.refl _) rfl ?_;refine az ?_;refine R_ sY al rfl ?_;refine az ?_;refine J_ (ale x _ s base b w1 m st ag (h.ext al) (hm.ext al) ab) ?_;rintro _ aH ⟨rfl,ao⟩;refine az ?_;exact ca
theorem agq(s:o.Scope):KS (o.fk s) o.n3 fun x st=>o.iY x s (st.getLastD 0):=fun _ _=>rfl
theorem Zl(gI:B_)(e:C_ o.Node)(cs:C_ B_)(s:o.Scope)(w:A_)(he:o.eV w gI e)(h:o.fJ w cs s) :
  a7 Tryz.prog F.Hd #[gI,.agg cs.toArray] w fun v w'=>v = .tuple #[.int .i64 (o.kind e s).1,.int .i64 (o.kind e s).2]/\Ext w w':=by
 obtain⟨v0,v1,v2,v3,v4,rfl,_⟩:=h.ex;refine bn E.Hd ?_;refine az ?_;refine O_ fun w1 da sY al ai=>?_;refine az ?_;refine W_ (cs:=[.slice none 0 0,.map none]) (by simp[eW]) ?_;refine az ?_;refine O_ fun aH b ak ao av=>?_;refine az ?_;refine O_ fun aP pm vS aj bu=>?_;refine az ?_;refine _V bu (by decide) rfl fun aR du bH=>?_;have Nu:aR.heap[pm]? = some (.cells #[.pointer (some ⟨b,0,none⟩)] T.a2):=bH;have aA:Ext aH aR:=du.ext aj vS;have OA:=cy av;have Yq:=cy ai;have zr:Ext w aR:=(al.trans ao).trans aA;clear bH du aj bu;have fy:=aA.obj av;have lL:=aA.obj (ao.obj ai);have gj:=al.size;refine az ?_;refine J_ (abe (o.fk s) o.n3 (fun x st=>o.iY x s (st.getLastD 0)) (agq s) (fun _=>True) b w aR zr (by omega) gI _ _ e he fy (fun _ _ _ _ _ _ _=>trivial) ?_ ?_) ?_
 .intro x st base m w' ag hm zy _ cV dq dU Rl cW t ht hk;refine U_ (first:=[]) (cap:=[.pointer (some ⟨pm,0,none⟩),.pointer (some ⟨da,0,none⟩)]) (by kernel_rfl)
   (alb x _ s base b pm da Rl m st _ ag (h.ext ((hm.ext zr (by intro k hk e;omega)).trans ht)) (zy.ext ht) ?_ (ht.obj (hm.obj (by omega) Nu)) (ht.obj (hm.obj (by omega) lL))) fun v bK ⟨h1,I⟩=>by subst h1;exact hk bK I
  intro ab
  have:o.fc x.op=1:=by rw[ab];rfl
  omega
 .rintro ad e4 fH l w' cW t hm ⟨u,rfl,a6⟩ _ aF U hk;exact _e (first:=[]) (cap:=[]) (by kernel_rfl) (alm ad u fH l w' U) fun v bK ⟨h1,I⟩=>by subst h1;exact hk bK I
 rintro _ bq ⟨rfl,lh⟩;have aJ:Ext w bq:=lh.ext zr (by intro k hk e;omega);refine az ?_;exact ca
end Go.Proofs.R
end
section
namespace o
open Go Go.RowKit bb
def Sg(v:B_):H_ (Var×Int)->Prop
 | some q=>v = .tuple #[.agg q.1.enc.toArray,.int .i64 q.2,.bool true]
 | none => ∃(x:Var) (k:Int),v = .tuple #[.agg x.enc.toArray,.int .i64 k,.bool false]
end o
namespace Go.Proofs.R
open Go Go.RowKit bb
theorem Vq(a b:Int)(cs:C_ B_)(s:o.Scope)(w:A_)(h:o.fJ w cs s) :
  a7 Tryz.prog F.HZ #[.int .i64 a,.int .i64 b,.agg cs.toArray] w fun v w'=>v = .tuple #[.int .i64 (o.lx a b s).1,.bool (o.lx a b s).2]/\Ext w w':=by
 obtain⟨a0,bw,df,c1,a2,c2,a3,br,a4,bF,rfl,af,h1,I,ab,aD,eU,ek,ev,ef,ew⟩:=h.form;refine bn E.HZ ?_;refine J ?_;intro w1 b ak al ai;refine J ?_
 (repeat' (refine az ?_;first | (refine I_ (fun _=>?_) (fun _=>?_)<;>try (exfalso;omega)) | refine N_ (fun _=>?_) (fun _=>?_)))<;>try refine az ?_
 all_goals
  refine⟨?_,fw⟩;unfold o.lx
  (repeat' split)<;>first | rfl | (exfalso;omega)
theorem Vw(v:B_)(l:C_ o.Var)(n:Int)(cs:C_ B_)(s:o.Scope)(w:A_)(aF:o.hP w v l)(h:o.fJ w cs s) :
  a7 Tryz.prog F.Dn #[v,.int .i64 n,.agg cs.toArray] w fun v w'=>o.Sg v (o.declared l n s)/\Ext w w':=by
 obtain⟨v0,v1,v2,v3,v4,rfl,_⟩:=h.ex;obtain⟨aQ,cap,rfl,hlen⟩:=aF.form;refine bn E.Dn ?_;refine J ?_;intro w1 bo cT al ai;refine J ?_;intro aH bR dt ao av;have he:=al.trans ao;refine J ?_;apply I_<;>intro g1
 .refine J ?_;intro aP gd bu;refine J ?_;rw[o.declared,o.gX (.inl g1)];exact⟨⟨(⟨⟨#[]⟩,0,0,0,0,0⟩:o.Var),0,rfl⟩,gd.ext he (by have:=al.size;omega)⟩
 refine J ?_;apply I_<;>intro g2
 .refine J ?_;intro aP gd bu;refine J ?_;rw[o.declared,o.gX (.inr (by omega))];exact⟨⟨(⟨⟨#[]⟩,0,0,0,0,0⟩:o.Var),0,rfl⟩,gd.ext he (by have:=al.size;omega)⟩
 obtain⟨i,rfl⟩:=Int.eq_ofNat_of_zero_le (show 0<=n by omega);have U:i<l.length:=by omega
 rw[o.declared,o.ja (by omega) (by omega)];simp only[Int.toNat_natCast];obtain⟨a,rfl⟩:=aF.addr;refine J ?_;refine P_ _ (fun w' e=>Vq _ _ _ s w' (h.ext (he.trans e))) ?_;refine J ?_;intro aP aj;have av:=aj.obj av;refine J ?_;intro aR du bH;refine J ?_;refine⟨?_,du.ext (he.trans aj) (by have:=al.size;omega)⟩;by_cases ak:(o.lx l[i].scalar l[i].over s).2=true
 .rw[if_pos ak,ak];rfl
 .rw[if_neg ak,Bool.eq_false_iff.2 ak];exact⟨_,_,rfl⟩
theorem aez(n:Int)(cs:C_ B_)(s:o.Scope)(w:A_)(h:o.fJ w cs s) :
  a7 Tryz.prog F.bv #[.int .i64 n,.agg cs.toArray] w fun v w'=>v = .tuple #[.int .i64 ((o.channel n s).getD 0),.bool (o.channel n s).isSome]/\Ext w w':=by
 obtain⟨a0,bw,df,c1,a2,c2,a3,br,a4,bF,rfl,af,h1,I,ab,aD,eU,ek,ev,ef,ew⟩:=h.form;refine bn E.bv ?_;refine J ?_;intro w1 bo cT al ai;refine J ?_;apply I_<;>intro g1
 .refine J ?_;rw[o.channel,o.gX (.inl g1)];exact ca
 refine J ?_;apply I_<;>intro g2
 .refine J ?_;rw[o.channel,o.gX (.inr (by omega))];exact ca
 obtain⟨i,rfl⟩:=Int.eq_ofNat_of_zero_le (show 0<=n by omega);have U:i<s.aw.length:=by omega
 rw[o.channel,o.ja (by omega) (by omega)];simp only[Int.toNat_natCast];obtain⟨a,rfl⟩:=I.addr;refine J ?_;refine P_ _ (fun w' e=>Vq _ _ _ s w' (h.ext (al.trans e))) ?_;refine J ?_;intro aH ao;refine J ?_;refine⟨?_,fw⟩;by_cases ak:(o.lx s.aw[i].scalar 0 s).2=true
 .rw[if_pos ak,ak];rfl
 .rw[if_neg ak,Bool.eq_false_iff.2 ak];rw[o.aqd (Bool.eq_false_iff.2 ak)];rfl
theorem LS(gI:B_)(e:C_ o.Node)(k:Int)(cs:C_ B_)(s:o.Scope)(w:A_)(ay:o.eV w gI e)(h:o.fJ w cs s) :
  a7 Tryz.prog F.ba #[gI,.int .i64 k,.agg cs.toArray] w fun v w'=>v = .int .i64 (o.asked e k s)/\Ext w w':=by
 obtain⟨v0,v1,v2,v3,v4,rfl,_⟩:=h.ex;refine bn E.ba ?_;refine J ?_;intro w1 bo cT al ai;refine J ?_;refine J_ (Zl gI e _ s w1 (ay.ext al) (h.ext al)) ?_;rintro _ aH ⟨rfl,ao⟩;refine J ?_;rw[o.asked];apply I_<;>intro g1
 .rw[if_neg (by simpa using g1)];refine J ?_;apply I_<;>intro g2
  .refine J ?_;rw[if_neg (by simpa using g2)];exact ca
  refine J ?_;rw[if_pos g2];exact ca
 refine J ?_;rw[if_pos g1];exact ca
theorem Q3(a:o.Act)(bM b7:B_)(w:A_):a7 Tryz.prog F.bG #[.agg (a.enc bM b7).toArray] w fun v w'=>v = .bool (o.hX a)/\Ext w w':=by
 refine bn E.bG ?_;refine J ?_;intro w1 bo cT al ai;refine J ?_;rw[o.hX];apply I_<;>intro g1
 .refine J ?_;refine⟨?_,fw⟩;congr 1;simp[g1]
 refine J ?_;refine⟨?_,fw⟩;congr 1;simp[g1]
theorem aor(a:o.Act)(bM b7:B_)(k:Int)(cs:C_ B_)(s:o.Scope)(w:A_)(h:o.fJ w cs s) :
  a7 Tryz.prog F.HP #[.agg (a.enc bM b7).toArray,.int .i64 k,.agg cs.toArray] w fun v w'=>v = .int .i64 (o.Fx a k s)/\Ext w w':=by
 obtain⟨v0,v1,v2,v3,v4,rfl,af,h1,I,ab,aD,_⟩:=h.ex;refine bn E.HP ?_;refine J ?_;intro w1 bo cT al ai;refine J ?_;intro aH bR dt ao av;have he:=al.trans ao;refine J ?_;refine J_ (Vw v4 s.locals a.loc _ s aH (aD.ext he) (h.ext he)) ?_;rintro q aP ⟨au,aj⟩;rw[o.Fx];cases a6:o.declared s.locals a.loc s with
 | none =>
  rw[a6] at au;obtain⟨x,k',rfl⟩:=au;refine J ?_;intro aR cF fy aA bH;refine J ?_;exact ca
 | some q =>
  obtain⟨x,k'⟩:=q;rw[a6] at au;subst au;refine J ?_;intro aR cF fy aA bH;refine J ?_;apply I_<;>intro g1
  .refine J ?_;apply I_<;>intro g2
   .refine J ?_;simp only[g1,g2,ne_eq,not_true_eq_false,or_self,if_false];exact ca
   refine J ?_;simp only[g2,ne_eq,not_false_eq_true,or_true,if_true];exact ca
  refine J ?_;simp only[g1,ne_eq,not_false_eq_true,true_or,if_true];exact ca
end Go.Proofs.R
end
section
namespace o
open Go Go.RowKit bb
theorem LL{s:Scope}{l:C_ Act}{k:Nat}{t:Bool}(h:k<l.length) :
  kC s (l.drop k) k t=if hX l[k]&&t then (2+(k:Int),7) else if kg l[k] s≠0 then (2+(k:Int),kg l[k] s) else kC s (l.drop (k+1)) (k+1) (t||hX l[k]):=by
 rw[List.drop_eq_getElem_cons h];rfl
end o
namespace Go.Proofs.R
open Go Go.RowKit bb
theorem LJ(k:Int)(a:o.Act)(bM b7:B_)(cs:C_ B_)(s:o.Scope)(w:A_)(bo bR:Nat)(cT:w.heap[bo]? = some (.cells (a.enc bM b7).toArray T.y))(dt:w.heap[bR]? = some (.cells cs.toArray T.w))
  (aG:o.eV w b7 a.value)(h:o.fJ w cs s) :
  a7 Tryz.prog F.fn #[.int .i64 k,.pointer (some ⟨bo,0,none⟩),.pointer (some ⟨bR,0,none⟩)] w fun v w'=>v = .int .i64 (o.asked a.value k s)/\Ext w w':=by
 obtain⟨v0,v1,v2,v3,v4,rfl,_⟩:=h.ex;refine bn E.fn ?_;refine J ?_;refine J_ (LS b7 a.value k _ s w aG h) ?_;rintro _ aH ⟨rfl,ao⟩;refine J ?_;exact ca
theorem ac8(a:o.Act)(bM b7:B_)(cs:C_ B_)(s:o.Scope)(w:A_)(U:o.eV w bM a.index)(aG:o.eV w b7 a.value)(h:o.fJ w cs s) :
  a7 Tryz.prog F.bU #[.agg (a.enc bM b7).toArray,.agg cs.toArray] w fun v w'=>v = .int .i64 (o.kg a s)/\Ext w w':=by
 obtain⟨v0,v1,v2,v3,v4,rfl,af,h1,I,ab,aD,eU⟩:=h.ex;refine bn E.bU ?_;refine J ?_;intro w1 bo cT al ai;refine J ?_;intro aH bR dt ao av;have he:=al.trans ao;have ai:=ao.obj ai;by_cases q:a.kind=1\/a.kind=2\/a.kind=3
 .rw[o.kg,if_pos q];generalize cI:(if a.kind=3 then s.locals else s.vars)=L;have pT:∀pA n,pA=(if a.kind=3 then v4 else v1)->a7 Tryz.prog F.Dn #[pA,.int .i64 n,.agg #[v0,v1,v2,v3,v4,.int .i64 s.self]] aH fun v w'=>o.Sg v (o.declared L n s)/\Ext aH w':=by
   rintro pA n rfl;refine Vw _ L n _ s aH ?_ (h.ext he);rw[<-cI];split
   .exact aD.ext he
   .exact h1.ext he
  by_cases r6:a.kind=2
  .refine J ?_;refine J_ (pT _ _ (by simp[r6])) ?_;rintro u aP ⟨au,aj⟩;have ai:=aj.obj ai;have av:=aj.obj av;have vG:=he.trans aj;cases a6:o.declared L a.to s with
   | none =>
    rw[a6] at au;obtain⟨x,k',rfl⟩:=au;refine J ?_;intro aR cF fy aA bH;refine J ?_;exact ca
   | some u =>
    obtain⟨x,k'⟩:=u;rw[a6] at au;subst au;have ajR:=o.ae6 a6;simp only at ajR;refine J ?_;intro aR cF fy aA bH;have ai:=aA.obj ai;have av:=aA.obj av;have pU:=vG.trans aA;refine J ?_;refine _5 (by kernel_rfl) ?_;refine J ?_;by_cases dq:x.over=0
    .refine _G (by simp[r6,dq]) ?_;refine J ?_;exact⟨by simp[r6,dq],fw⟩
    refine _H (by simp[r6,dq]) ?_;refine J ?_;refine J_ (LS bM a.index _ _ s aR (U.ext pU) (h.ext pU)) ?_;rintro _ bq ⟨rfl,aJ⟩;have ai:=aJ.obj ai;have av:=aJ.obj av;have Iy:=pU.trans aJ;refine J ?_;refine I_ (fun dU=>?_) (fun dU=>?_)
    .refine J ?_;refine U_ (first:=[]) (cap:=[_,_]) (by kernel_rfl) (LJ k' a bM b7 _ s bq bo bR ai av (aG.ext Iy) (h.ext Iy)) ?_;rintro _ bB ⟨rfl,aT⟩;refine J ?_;exact⟨by simp[r6,dq,dU],fw⟩
    .refine J ?_;exact⟨by simp[r6,dq,dU],fw⟩
  have uG:a.kind=1\/a.kind=3:=by omega
  clear q;rcases uG with q | q
  all_goals
   refine J ?_;refine J_ (pT _ _ (by simp[q])) ?_;rintro u aP ⟨au,aj⟩;have ai:=aj.obj ai;have av:=aj.obj av;have vG:=he.trans aj;cases a6:o.declared L a.to s with
   | none =>
    rw[a6] at au;obtain⟨x,k',rfl⟩:=au;refine J ?_;intro aR cF fy aA bH;refine J ?_;exact ca
   | some u =>
    obtain⟨x,k'⟩:=u;rw[a6] at au;subst au;refine J ?_;intro aR cF fy aA bH;have ai:=aA.obj ai;have av:=aA.obj av;have pU:=vG.trans aA;refine J ?_;refine _5 (by kernel_rfl) ?_;refine J ?_;by_cases dq:x.over=0
    .refine _H (by simp[q,dq]) ?_;refine J ?_;refine U_ (first:=[]) (cap:=[_,_]) (by kernel_rfl) (LJ k' a bM b7 _ s aR bo bR ai av (aG.ext pU) (h.ext pU)) ?_;rintro _ bB ⟨rfl,aT⟩;refine J ?_;exact⟨by simp[q,dq],fw⟩
    .refine _G (by simp[q,dq]) ?_;refine J ?_;exact⟨by simp[q,dq],fw⟩
 by_cases hy:a.kind=4\/a.kind=5
 .rw[o.kg,if_neg q,if_pos hy];have Qf:a.kind≠3:=by omega
  have Cc:a.kind≠1:=by omega
  have Qg:a.kind≠2:=by omega
  have step:∀(w':A_),Ext aH w'->a7 Tryz.prog F.bv #[.int .i64 a.to,.agg #[v0,v1,v2,v3,v4,.int .i64 s.self]] w' fun v bK=>v = .tuple #[.int .i64 ((o.channel a.to s).getD 0),.bool (o.channel a.to s).isSome]/\Ext w' bK :=
   fun w' e=>aez a.to _ s w' (h.ext (he.trans e))
  rcases hy with hy | hy
  .refine J ?_;refine J_ (step aH (Ext.refl _)) ?_;rintro _ aP ⟨rfl,aj⟩;have ai:=aj.obj ai;have av:=aj.obj av;have vG:=he.trans aj;cases a6:o.channel a.to s with
   | none =>
    simp only[Option.isSome_none,Option.getD_none];refine J ?_;exact ca
   | some k =>
    simp only[Option.isSome_some,Option.getD_some];refine J ?_;refine U_ (first:=[]) (cap:=[_,_]) (by kernel_rfl) (LJ k a bM b7 _ s aP bo bR ai av (aG.ext vG) (h.ext vG)) ?_;rintro _ bB ⟨rfl,aT⟩;refine J ?_;exact⟨by simp[hy],fw⟩
  .refine J ?_;refine J_ (step aH (Ext.refl _)) ?_;rintro _ aP ⟨rfl,aj⟩;have ai:=aj.obj ai;have av:=aj.obj av;have vG:=he.trans aj;cases a6:o.channel a.to s with
   | none =>
    simp only[Option.isSome_none,Option.getD_none];refine J ?_;exact ca
   | some k =>
    simp only[Option.isSome_some,Option.getD_some];refine J ?_;refine J_ (aor a bM b7 k _ s aP (h.ext vG)) ?_;rintro _ bB ⟨rfl,aT⟩;refine J ?_;exact⟨by simp[hy],fw⟩
 rw[o.kg,if_neg q,if_neg hy];have Qf:a.kind≠3:=by omega
 have Cc:a.kind≠1:=by omega
 have Qg:a.kind≠2:=by omega
 have aaB:a.kind≠4:=by omega
 have atQ:a.kind≠5:=by omega
 refine J ?_;exact ca
end Go.Proofs.R
end
section
namespace o
open Go
theorem aiO{c:dI}{n:Int}(h:head c n=0):isName c.name=true/\0<=c.from_/\c.from_<n/\0<=c.to/\c.to<n/\c.bY.length<=6:=by
 unfold head at h;by_cases h1:isName c.name=false
 .rw[if_pos h1] at h;cases h
 rw[if_neg h1] at h;by_cases I:c.from_<0\/n<=c.from_\/c.to<0\/n<=c.to
 .rw[if_pos I] at h;cases h
 rw[if_neg I] at h;by_cases ab:c.bY.length > 6
 .rw[if_pos ab] at h;cases h
 exact⟨by simpa using h1,by omega,by omega,by omega,by omega,by omega⟩
end o
end
section
namespace o
open Go Go.RowKit bb
theorem aeW{l:C_ Act}{k:Nat}(h:k<l.length):comm (l.drop k)=if hX l[k] then (l[k].kind,l[k].to) else comm (l.drop (k+1)):=by
 rw[List.drop_eq_getElem_cons h];rfl
end o
namespace Go.Proofs.R
open Go Go.RowKit bb
theorem XG(n:Int)(p:o.dz)(ps q0:B_)(w:A_)(b:Nat)(ak:w.heap[b]? = some (.cells (p.enc ps q0).toArray T.l)) :
  a7 Tryz.prog F.HO #[.int .i64 n,.pointer (some ⟨b,0,none⟩)] w fun v w'=>v = .bool (decide (n<0\/p.b8<=n))/\w'=w:=by
 refine bn E.HO ?_;refine J ?_;apply I_<;>intro g1
 .refine J ?_;exact⟨by simp[g1],aU⟩
 refine J ?_;exact⟨by simp[g1],aU⟩
theorem aiP(c:o.dI)(gu ea:B_)(p:o.dz)(ps q0:B_)(w:A_)(aM:gB w)(ay:o.jo c.name)(aV:o.mQ w ea c.bY) :
  a7 Tryz.prog F.aI #[.agg (c.enc gu ea).toArray,.agg (p.enc ps q0).toArray] w fun v w'=>v = .int .i64 (o.head c p.b8)/\Ext w w':=by
 obtain⟨aQ,cap,rfl,hlen⟩:=aV.form;refine bn E.aI ?_;refine J ?_;intro w1 bo cT al ai;refine J ?_;intro aH bR dt ao av;have he:=al.trans ao;have ai:=ao.obj ai;refine J ?_;refine J_ (Kf c.name aH (aM.ext he) ay) ?_;rintro _ aP ⟨rfl,aj⟩;have ai:=aj.obj ai;have av:=aj.obj av;have vG:=he.trans aj;rw[o.head];refine J ?_;refine N_ (fun g1=>?_) (fun g1=>?_);rotate_left
 .refine J ?_;exact⟨by simp[g1],fw⟩
 refine J ?_;refine U_ (first:=[]) (cap:=[_]) (by kernel_rfl) (XG c.from_ p ps q0 aP bR av) ?_;rintro _ _ ⟨rfl,rfl⟩;refine J ?_;apply I_<;>intro g2
 .refine J ?_;refine⟨?_,fw⟩;rw[if_neg (by simp[g1]),if_pos (by omega)]
 refine J ?_;refine U_ (first:=[]) (cap:=[_]) (by kernel_rfl) (XG c.to p ps q0 _ bR av) ?_;rintro _ _ ⟨rfl,rfl⟩;refine J ?_;apply I_<;>intro g3
 .refine J ?_;refine⟨?_,fw⟩;rw[if_neg (by simp[g1]),if_pos (by omega)]
 refine J ?_;apply I_<;>intro g4
 .refine J ?_;refine⟨?_,fw⟩;rw[if_neg (by simp[g1]),if_neg (by omega),if_pos (by omega)]
 .refine J ?_;refine⟨?_,fw⟩;rw[if_neg (by simp[g1]),if_neg (by omega),if_neg (by omega)]
theorem Vh(c:o.dI)(gu ea:B_)(w:A_)(aV:o.mQ w ea c.bY) :
  a7 Tryz.prog F.eq #[.agg (c.enc gu ea).toArray] w fun v w'=>v = .tuple #[.int .i64 (o.comm c.bY).1,.int .i64 (o.comm c.bY).2]/\Ext w w':=by
 obtain⟨aQ,cap,rfl,hlen⟩:=aV.form;refine bn E.eq ?_;refine J ?_;intro w1 bo cT al ai;refine J ?_;refine L_ 9 c.bY.length [7,8] (fun _=>[]) () (fun k _ w'=>Ext w w'/\o.comm c.bY=o.comm (c.bY.drop k)) bc bc ⟨al,by simp⟩ ?_;rintro k _ S aH hk ⟨ao,a8⟩;refine J ?_;apply I_<;>intro g1
 .have aZ:k<c.bY.length:=by omega
  obtain⟨a,rfl⟩:=aV.addr;obtain⟨bM,b7,gC,fp,qV⟩:=aV.at k aZ;obtain⟨_,_,rfl,_⟩:=fp.form;obtain⟨_,_,rfl,_⟩:=qV.form;rw[o.aeW aZ] at a8;refine J ?_
  try (refine _B (gC.ext ao) rfl ?_;refine J ?_)
  intro aP b0 fW aj bu;refine J ?_;refine J_ (Q3 c.bY[k] _ _ aP) ?_;rintro _ aR ⟨rfl,aA⟩;refine J ?_;refine N_ (fun g2=>?_) (fun g2=>?_)
  .refine J ?_;intro bq aJ;refine J ?_;rw[a8,if_pos g2];exact ca
  refine J ?_;rw[if_neg (by simp[g2])] at a8;exact⟨aZ,aU,(),by trivial,fw,a8⟩
 .refine J ?_;rw[a8,List.drop_eq_nil_of_le (by omega)];exact ca
theorem aeK(c:o.dI)(gu ea:B_)(p:o.dz)(ps q0:B_)(cs:C_ B_)(s:o.Scope)(w:A_)(aM:gB w)(ay:o.jo c.name)(aK:o.eV w gu c.guard)(aV:o.mQ w ea c.bY)
  (aG:o.hP w ps p.vars)(ah:o.rk w q0 p.cL)(h:o.fJ w cs s) :
  a7 Tryz.prog F.Hu #[.agg (c.enc gu ea).toArray,.agg (p.enc ps q0).toArray,.agg cs.toArray] w fun v w' =>
   v = .tuple #[.int .i64 (o.jg c p.b8 s).1,.int .i64 (o.jg c p.b8 s).2]/\Ext w w':=by
 obtain⟨a0,bw,df,c1,a2,c2,a3,br,a4,bF,rfl,_⟩:=h.form;obtain⟨aQ,cap,rfl,hlen⟩:=aV.form;obtain⟨gy,ad7,rfl,ajj⟩:=aK.form;obtain⟨_,_,rfl,_⟩:=aG.form;obtain⟨_,_,rfl,_⟩:=ah.form;refine bn E.Hu ?_;refine J ?_;intro w1 bo cT al ai;refine J ?_;intro aH bR dt ao av;refine J ?_;intro aP b0 fW aj bu;have he:=(al.trans ao).trans aj;have ai:=(ao.trans aj).obj ai;have av:=aj.obj av;refine J ?_;refine J_ (aiP c _ _ p _ _ aP (aM.ext he) ay (aV.ext he)) ?_;rintro _ aR ⟨rfl,aA⟩;have ai:=aA.obj ai;have bu:=aA.obj bu;have pU:=he.trans aA;rw[o.jg];refine J ?_;apply I_<;>intro g1;rotate_left
 .refine J ?_;exact⟨by simp[g1],fw⟩
 rw[if_neg (by simpa using g1)];have bx:=(o.aiO g1).2.2.2.2.2;refine eh ?_;refine S_ [3,4,5] (fun _=>[]) (fun(_:Unit) w'=>Ext aR w'/\¬(c.guard.length > 0/\o.asked c.guard 1 s≠0)) ?_ ?_
 .refine J ?_;apply I_<;>intro g2
  .refine J ?_;refine J_ (LS _ c.guard 1 _ s aR (aK.ext pU) (h.ext pU)) ?_;rintro _ bq ⟨rfl,aJ⟩;refine J ?_;apply I_<;>intro g3
   .refine J ?_;exact⟨(),trivial,fw,fun cU=>cU.2 g3⟩
   .refine J ?_;rw[if_pos ⟨by omega,g3⟩];exact ca
  .refine J ?_;exact⟨(),trivial,fw,fun cU=>g2 (by omega)⟩
 rintro _ S bq ⟨aJ,xN⟩;have ai:=aJ.obj ai;have bu:=aJ.obj bu;have Iy:=pU.trans aJ;rw[if_neg xN];refine J ?_;refine L_ 34 c.bY.length [3,4,5,32,33] (fun b=>[(10,.bool b)]) false (fun k b w'=>Ext bq w'/\o.kC s c.bY 0 false=o.kC s (c.bY.drop k) k b) bc bc ⟨Ext.refl _,by simp⟩ ?_;rintro k b S bB hk ⟨aT,a8⟩;have BA:=Iy.trans aT;refine J ?_;apply I_<;>intro g1
 .have aZ:k<c.bY.length:=by omega
  obtain⟨a,rfl⟩:=aV.addr;obtain⟨bM,b7,gC,fp,qV⟩:=aV.at k aZ;obtain⟨_,_,rfl,_⟩:=fp.form;obtain⟨_,_,rfl,_⟩:=qV.form;rw[o.LL aZ] at a8;refine J ?_;intro bQ ho h6 bz c9;refine eh ?_;intro de iH c4;have vI:=iH.ext bz h6;have IA:=BA.trans vI;have bu:=(aT.trans vI).obj bu;refine eh ?_;refine S_ [3,5,10,11,12,32,33,34] (fun _=>[]) (fun(_:Unit) w'=>Ext de w'/\¬(o.hX c.bY[k]&&b)=true) ?_ ?_
  .refine J ?_;refine J_ (Q3 c.bY[k] _ _ de) ?_;rintro _ dc ⟨rfl,ck⟩;refine J ?_;refine N_ (fun g2=>?_) (fun g2=>?_)
   .refine J ?_;refine N_ (fun g3=>?_) (fun g3=>?_)
    .refine J ?_;rw[a8,if_pos (by simp[g2,g3])];exact ca
    .refine J ?_;exact⟨(),trivial,fw,by simp[g3]⟩
   .refine J ?_;exact⟨(),trivial,fw,by simp[g2]⟩
  rintro _ S dc ⟨ck,g2⟩;rw[if_neg g2] at a8;have c4:=ck.obj c4;have bu:=ck.obj bu;refine eh ?_;refine S_ [3,5,11,12,32,33,34] (fun u=>[(10,.bool u)]) (fun u w'=>Ext dc w'/\u=(b||o.hX c.bY[k])) ?_ ?_
  .refine J ?_;refine N_ (fun g3=>?_) (fun g3=>?_)
   .refine J ?_;exact⟨true,bc,fw,by simp[g3]⟩
   .refine J ?_;refine J_ (Q3 c.bY[k] _ _ dc) ?_;rintro _ eY ⟨rfl,cG⟩;refine J ?_;exact⟨o.hX c.bY[k],bc,fw,by simp[g3]⟩
  rintro _ S eY ⟨cG,rfl⟩;have c4:=cG.obj c4;have bu:=cG.obj bu;have NS:=(IA.trans ck).trans cG;have asD:=((aT.trans vI).trans ck).trans cG;refine J ?_;refine J_ (ac8 c.bY[k] _ _ _ s eY (fp.ext NS) (qV.ext NS) (h.ext NS)) ?_;rintro _ gw ⟨rfl,e8⟩;refine J ?_;apply I_<;>intro g3
  .refine J ?_;rw[if_neg (by simpa using g3)] at a8;exact⟨aZ,aU,_,bc,fw,a8⟩
  .refine J ?_;rw[a8,if_pos g3];exact ca
 .refine J ?_;rw[a8,List.drop_eq_nil_of_le (by omega)];exact ca
theorem aqX(c:o.dI)(gu ea ec:B_)(l:C_ o.dv)(w:A_)(aV:o.mQ w ea c.bY)(aF:o.mS w ec l) :
  a7 Tryz.prog F.be #[.agg (c.enc gu ea).toArray,ec] w fun v w'=>v = .int .i64 (o.ways c l)/\Ext w w':=by
 obtain⟨aQ,cap,rfl,hlen⟩:=aF.form;obtain⟨atK,A5,rfl,IN⟩:=aV.form;refine bn E.be ?_;refine J ?_;intro w1 bo cT al ai;refine J ?_;refine J_ (Vh c gu _ w1 (aV.ext al)) ?_;rintro _ aH ⟨rfl,ao⟩;rw[o.ways];refine J ?_;apply I_<;>intro g1;rotate_left
 .refine J ?_;exact⟨by simp[g1],fw⟩
 rw[if_pos g1];refine J ?_;apply I_<;>intro g2;rotate_left
 .refine J ?_;rw[o.gX (.inl (by omega))];exact ca
 refine J ?_;apply I_<;>intro g3;rotate_left
 .refine J ?_;rw[o.gX (.inr (by omega))];exact ca
 rw[o.ja (by omega) (by omega)];obtain⟨a,rfl⟩:=aF.addr;have U:(o.comm c.bY).2.toNat<l.length:=by omega
 refine J ?_;refine K_ (o.comm c.bY).2.toNat (by omega) U ?_;refine J ?_;refine N_ (fun g4=>?_) (fun g4=>?_)
 .refine J ?_;exact⟨by simp[g4],fw⟩
 .refine J ?_;exact⟨by simp[g4],fw⟩
end Go.Proofs.R
end
section
namespace o
theorem ZJ{s:Scope}{l:C_ Var}{k:Nat}(h:k<l.length):qb s (l.drop k) k=if l[k].over≠0 then ((k:Int),9) else if s.vars.any (fun x=>decide (x.name=l[k].name)) then ((k:Int),7) else qb s (l.drop (k+1)) (k+1):=by
 rw[List.drop_eq_getElem_cons h];rfl
theorem Vf{own:Scope}{b8:Int}{all l:C_ dI}{k:Nat}(h:k<l.length):lC own b8 all (l.drop k) k=if (jg l[k] b8 own).2≠0 then (2+(k:Int),(jg l[k] b8 own).1,(jg l[k] b8 own).2)
  else if (all.take k).any (fun x=>decide (x.name=l[k].name)) then (2+(k:Int),0,7) else lC own b8 all (l.drop (k+1)) (k+1):=by
 rw[List.drop_eq_getElem_cons h];rfl
end o
namespace Go.Proofs.R
open Go Go.RowKit bb
theorem aq0(p:o.dz)(b2 cj:H_ Addr)(qd br bF:Nat)(cs:C_ B_)(s:o.Scope)(w:A_)(aM:gB w)(ay:o.jo p.name)(h:o.fJ w cs s) :
  a7 Tryz.prog F.Hs #[.agg (p.enc (.slice b2 qd br) (.slice cj p.cL.length bF)).toArray,.agg cs.toArray] w fun v w'=>v = .int .i64 (o.whole p s)/\Ext w w':=by
 obtain⟨a0,bw,df,c1,a2,c2,a3,d3,a4,d4,rfl,af,h1,I,ab,aD,eU,ek,ev,ef,ew⟩:=h.form;refine bn E.Hs ?_;refine J ?_;intro w1 bo cT al ai;refine J ?_;intro aH bR dt ao av;have c7:∀{w'},Ext aH w'->Ext w w':=fun e=>(al.trans ao).trans e;have ai:=ao.obj ai;refine J ?_;refine J_ (Kf p.name aH (aM.ext (c7 (Ext.refl _))) ay) ?_;rintro _ aP ⟨rfl,aj⟩;have ai:=aj.obj ai;have av:=aj.obj av;rw[o.whole];refine J ?_;refine N_ (fun g1=>?_) (fun g1=>?_);rotate_left
 .refine J ?_;exact⟨by rw[if_pos g1],c7 aj⟩
 rw[if_neg (by simp[g1])];refine J ?_;apply I_<;>intro g2
 .refine J ?_;exact⟨by rw[if_pos (.inl g2)],c7 aj⟩
 refine J ?_;apply I_<;>intro g3
 .refine J ?_;exact⟨by rw[if_pos (.inr (by omega))],c7 aj⟩
 rw[if_neg (by omega)];refine J ?_;apply I_<;>intro g4
 .refine J ?_;exact⟨by rw[if_pos (.inl g4)],c7 aj⟩
 refine J ?_;apply I_<;>intro g5
 .refine J ?_;exact⟨by rw[if_pos (.inr (by omega))],c7 aj⟩
 rw[if_neg (by omega)];refine J ?_;apply I_<;>intro g6
 .refine J ?_;exact⟨by rw[if_pos (by omega)],c7 aj⟩
 refine J ?_;exact⟨by rw[if_neg (by omega)],c7 aj⟩
theorem alV(x v:o.Var)(b:Nat)(w:A_)(ah:w.heap[b]? = some (.cells v.enc.toArray T.m)) :
  a7 Tryz.prog F.cn #[.agg x.enc.toArray,.pointer (some ⟨b,0,none⟩)] w fun u w'=>u = .bool (decide (x.name=v.name))/\Ext w w':=by
 refine bn E.cn ?_;refine J ?_;intro w1 bo cT al ai;refine J ?_;exact ca
theorem aeJ(x c:o.dI)(bO bV b2 cj:H_ Addr)(lq ku qd tf c1 c2 br bF:Nat)(b:Nat)(w:A_)(ah:w.heap[b]? = some (.cells (c.enc (.slice b2 qd br) (.slice cj tf bF)).toArray T.k)) :
  a7 Tryz.prog F.vf #[.agg (x.enc (.slice bO lq c1) (.slice bV ku c2)).toArray,.pointer (some ⟨b,0,none⟩)] w fun u w'=>u = .bool (decide (x.name=c.name))/\Ext w w':=by
 refine bn E.vf ?_;refine J ?_;intro w1 bo cT al ai;refine J ?_;exact ca
theorem alW(p:o.dz)(b2 cj:H_ Addr)(br tf bF:Nat)(cs:C_ B_)(s:o.Scope)(w:A_)(aM:gB w)(aG:o.hP w (.slice b2 p.vars.length br) p.vars)(h:o.fJ w cs s) :
  a7 Tryz.prog F.Ht #[.agg (p.enc (.slice b2 p.vars.length br) (.slice cj tf bF)).toArray,.agg cs.toArray] w fun v w'=>v = .tuple #[.int .i64 (o.lu p s).1,.int .i64 (o.lu p s).2]/\Ext w w':=by
 obtain⟨a0,bw,df,c1,a2,c2,a3,d3,a4,d4,rfl,af,h1,I,ab,aD,eU,ek,ev,ef,ew⟩:=h.form;have fH:p.vars.length<=9223372036854775807:=by have:=(bh.len aG).2;unfold maxLen at this;omega
 refine bn E.Ht ?_;refine J ?_;intro w1 bo cT al ai;refine J ?_;intro aH bR dt ao av;have c7:∀{w'},Ext aH w'->Ext w w':=fun e=>(al.trans ao).trans e;have ai:=ao.obj ai;refine J ?_;refine J_ (ab4 _ _ p.vars s.scalars 4 aH (aM.ext (c7 (Ext.refl _))) (aG.ext (c7 (Ext.refl _))) (af.ext (c7 (Ext.refl _)))) ?_;rintro _ aP ⟨rfl,aj⟩;have ai:=aj.obj ai;have av:=aj.obj av;rw[o.lu];refine J ?_;apply I_<;>intro g1;rotate_left
 .refine J ?_;exact⟨by rw[if_pos g1],c7 aj⟩
 rw[if_neg (by simpa using g1)];have fv:∀{w'},Ext aP w'->Ext w w':=fun e=>c7 (aj.trans e);refine J ?_;refine L_ 25 p.vars.length [3,23,24] (fun _=>[]) () (fun k _ w'=>Ext aP w'/\o.qb s p.vars 0=o.qb s (p.vars.drop k) k) bc bc ⟨Ext.refl _,by simp⟩ ?_;rintro k _ S aR hk ⟨aA,a8⟩;refine J ?_;apply I_<;>intro g2
 .have aZ:k<p.vars.length:=by omega
  obtain⟨a,rfl⟩:=aG.addr;replace aG:=aG.ext (fv (Ext.refl _));rw[o.ZJ aZ] at a8;refine J ?_;intro CA j7 l4 nk qK;refine J ?_;intro bq fb cc;have aJ:=fb.ext nk l4;refine J ?_;apply I_<;>intro g3;rotate_left
  .refine J ?_;exact⟨by rw[a8,if_pos g3],fv (aA.trans aJ)⟩
  rw[if_neg (by simpa using g3)] at a8;refine J ?_;refine J_ (Vp lj E.MX E.f8 _ s.vars bq (h1.ext (fv (aA.trans aJ))) F.cn (by kernel_rfl) [] [_] (fun x=>decide (x.name=p.vars[k].name)) ?_) ?_
  .rintro i U iS w' e ⟨rfl,_⟩;exact alV _ _ j7 w' (e.obj cc)
  rintro _ bB ⟨rfl,aT⟩;refine J ?_;refine N_ (fun g4=>?_) (fun g4=>?_)
  .refine J ?_;exact⟨by rw[a8,if_pos g4],fv ((aA.trans aJ).trans aT)⟩
  .refine J ?_;exact⟨aZ,aU,(),trivial,(aA.trans aJ).trans aT,by rw[a8,if_neg (by simp[g4])]⟩
 .refine J ?_;exact⟨by rw[a8,List.drop_eq_nil_of_le (by omega)];rfl,fv aA⟩
theorem anx(p:o.dz)(Fl cs:C_ B_)(s:o.Scope)(w:A_)(aM:gB w)(ar:o.w6 w Fl p)(h:o.fJ w cs s)(aK:s.cN)(oH:p.cN) :
  a7 Tryz.prog F.gl #[.agg Fl.toArray,.agg cs.toArray] w fun v w'=>v = .tuple #[.int .i64 (o.hU p s).1,.int .i64 (o.hU p s).2.1,.int .i64 (o.hU p s).2.2]/\Ext w w':=by
 obtain⟨a0,bw,df,c1,a2,c2,a3,d3,a4,d4,rfl,af,h1,I,ab,aD,eU,ek,ev,ef,ew⟩:=h.form;obtain⟨ay,ps,q0,rfl,aG,ni⟩:=ar;obtain⟨b2,br,rfl,fH⟩:=aG.form;obtain⟨cj,bF,rfl,lc⟩:=ni.form;have oE:p.cL.length<=140737488351232:=by have:=oH.cL;unfold o.ei at this;omega
 refine bn E.gl ?_;refine J ?_;intro w1 bo cT al ai;refine J ?_;intro aH bR dt ao av;have c7:∀{w'},Ext aH w'->Ext w w':=fun e=>(al.trans ao).trans e;replace ai:=ao.obj ai;refine J ?_;refine J_ (aq0 p _ _ _ _ _ _ s aH (aM.ext (c7 (Ext.refl _))) ay (h.ext (c7 (Ext.refl _)))) ?_;rintro _ aP ⟨rfl,aj⟩;replace ai:=aj.obj ai;replace av:=aj.obj av;have fv:∀{w'},Ext aP w'->Ext w w':=fun e=>c7 (aj.trans e);rw[o.hU];refine J ?_;apply I_<;>intro g1;rotate_left
 .refine J ?_;exact⟨by rw[if_pos g1],fv (Ext.refl _)⟩
 rw[if_neg (by simpa using g1)];refine J ?_;refine J_ (alW p _ _ _ _ _ _ s aP (aM.ext (fv (Ext.refl _))) (aG.ext (fv (Ext.refl _))) (h.ext (fv (Ext.refl _)))) ?_;rintro _ aR ⟨rfl,aA⟩;replace ai:=aA.obj ai;replace av:=aA.obj av;have eA:∀{w'},Ext aR w'->Ext w w':=fun e=>fv (aA.trans e);refine J ?_;apply I_<;>intro g2;rotate_left
 .refine J ?_;exact⟨by rw[if_pos g2],eA (Ext.refl _)⟩
 rw[if_neg (by simpa using g2)];refine J ?_;refine J_ (YN p _ _ _ _ _ _ _ _ _ _ _ _ _ _ _ _ _ _ _ _ _ _ aR) ?_;rintro _ bq ⟨rfl,aJ⟩;replace ai:=aJ.obj ai;have jM:∀{w'},Ext bq w'->Ext w w':=fun e=>eA (aJ.trans e);refine J ?_;intro bB tJ Bv aT b4;replace ai:=aT.obj ai;have iM:∀{w'},Ext bB w'->Ext w w':=fun e=>jM (aT.trans e);have e9:∀w',Ext w w'->o.fJ w' [.slice a0 s.scalars.length bw,.slice df s.vars.length c1,.slice a2 s.aw.length c2,.slice a3 s.procs.length d3,.slice b2 p.vars.length br,.int .i64 p.over] (o.inner p s):=fun w' e =>
  ⟨(aK.inner oH).q7.1,_,_,_,_,_,rfl,af.ext e,h1.ext e,I.ext e,ab.ext e,aG.ext e,(aK.inner oH).q7.2⟩
 refine J ?_;refine L_ 37 p.cL.length [2,10,35,36] (fun _=>[]) () (fun k _ w'=>Ext bB w'/\o.lC (o.inner p s) p.b8 p.cL p.cL 0=o.lC (o.inner p s) p.b8 p.cL (p.cL.drop k) k) bc bc ⟨Ext.refl _,by simp⟩ ?_;rintro k _ S bQ hk ⟨bz,a8⟩;replace ai:=bz.obj ai;replace b4:=bz.obj b4;refine J ?_;apply I_<;>intro g3
 .have aZ:k<p.cL.length:=by omega
  obtain⟨a,rfl⟩:=ni.addr;obtain⟨an,gu,ea,hf,x1,vW⟩:=ni.at k aZ;obtain⟨gy,ga,rfl,alN⟩:=x1.form;obtain⟨aQ,fD,rfl,p9⟩:=vW.form;rw[o.Vf aZ] at a8;replace hf:=hf.ext (iM (Ext.refl _));refine J ?_;intro CA AV sR nk qK;refine J ?_;intro de iH c4;have bP:=iH.ext nk sR;replace ai:=bP.obj ai;replace b4:=bP.obj b4;have ih:∀{w'},Ext de w'->Ext w w':=fun e=>iM ((bz.trans bP).trans e);clear qK nk;refine J ?_;refine J_ (aeK p.cL[k] _ _ p _ _ _ (o.inner p s) de (aM.ext (ih (Ext.refl _))) an (x1.ext (ih (Ext.refl _))) (vW.ext (ih (Ext.refl _))) (aG.ext (ih (Ext.refl _))) (ni.ext (ih (Ext.refl _))) (e9 _ (ih (Ext.refl _)))) ?_;rintro _ dc ⟨rfl,ck⟩;replace ai:=ck.obj ai;replace c4:=ck.obj c4;have gS:∀{w'},Ext dc w'->Ext w w':=fun e=>ih (ck.trans e);refine J ?_;apply I_<;>intro g4;rotate_left
  .refine J ?_;exact⟨by rw[a8,if_pos g4],gS (Ext.refl _)⟩
  rw[if_neg (by simpa using g4)] at a8;have h7:=(bh.len ni).2.1;refine J ?_;refine _M (k:=.i64) k (by rfl) (by omega) ?_;refine J ?_;refine J_ (Vp lj E.f9 E.f7 _ (p.cL.take k) dc ((ni.head k (by omega)).ext o.yK.ext (gS (Ext.refl _))) F.vf (by kernel_rfl) [] [_] (fun x=>decide (x.name=p.cL[k].name)) ?_) ?_
  .rintro i U iS w' e ⟨_,aul,oi,rfl,akE,O8⟩;obtain⟨_,_,rfl,_⟩:=akE.form;obtain⟨_,_,rfl,_⟩:=O8.form;exact aeJ _ _ _ _ _ _ _ _ _ _ _ _ _ _ AV w' (e.obj c4)
  rintro _ eY ⟨rfl,cG⟩;refine J ?_;refine N_ (fun g5=>?_) (fun g5=>?_)
  .refine J ?_;exact⟨by rw[a8,if_pos g5],gS cG⟩
  .refine J ?_;exact⟨aZ,aU,(),trivial,((bz.trans bP).trans ck).trans cG,by rw[a8,if_neg (by simp[g5])]⟩
 .refine J ?_;exact⟨by rw[a8,List.drop_eq_nil_of_le (by omega)];rfl,iM bz⟩
end Go.Proofs.R
end
section
namespace bb
open Go Go.RowKit
theorem bh.LY{α:Type}{R:A_->Addr->α->Prop}{C:A_->C_ B_->α->Prop}{sz:Nat}[Rel R C sz]{w:A_}{b n:Nat}{e:F_}{cells:C_ B_}{xs:C_ α}(cm:C_ (e1 sz))(ak:w.heap[b]? = some (.cells cells.toArray e))(ait:cells=cm.flatMap jR)
  (aF:cm.length=xs.length)(ay:n=xs.length)(hm:xs.length<=maxLen)(ah:∀i (h1:i<cm.length) (I:i<xs.length),C w cm[i].1 xs[i]):bh sz R w (.slice (some ⟨b,0,none⟩) n n) xs:=by
 subst ait;exact bh.Fj aF (bh.cu (enc:=jR) jS ak (by omega) (by omega) fun _ _ _ h=>h) ah
end bb
namespace o
open Go
theorem oJ{n:Int}(h : -1000<=n/\n<=1000):dH n:=by unfold dH;omega
theorem Cw(a b:Int)(s:Scope):(lx a b s).2=((hv a s).2&&(hv b s).2)/\((lx a b s).2=true->(lx a b s).1=(if a=0 then 0 else 1+a)):=by
 unfold lx hv;constructor
 ·(repeat' split)<;>first | rfl | (exfalso;omega)
 .intro h
  (repeat' split)<;>first | rfl | (exfalso;omega) | simp_all
theorem Vv{l:C_ Var}{n:Int}{s:Scope}(h:(fY l n s).2.2=false):declared l n s=none:=by
 unfold declared;unfold fY at h;cases ay:nth l n with
 | none=>rfl
 | some v =>
  rw[ay] at h;simp only at h ⊢;rw[if_neg];rw[(Cw _ _ _).1,h];simp
theorem Vx{l:C_ Var}{n:Int}{s:Scope}{x:Var}(h:(fY l n s).2.2=true)(ag:nth l n=some x):declared l n s=some (x,if x.scalar=0 then 0 else 1+x.scalar)/\0<=x.scalar/\x.scalar<=s.scalars.length/\0<=x.over/\x.over<=s.scalars.length:=by
 unfold fY at h;rw[ag] at h;simp only at h;have aB:(lx x.scalar x.over s).2=true:=by rw[(Cw _ _ _).1];exact h
 refine⟨?_,?_⟩
 .unfold declared;rw[ag];simp only;rw[if_pos aB,(Cw _ _ _).2 aB]
 .unfold lx at aB;split at aB
  .cases aB
  .omega
theorem aey{n:Int}{s:Scope}(h:¬(j8 n s).2=0):channel n s=none:=by
 unfold channel;unfold j8 at h;cases ay:nth s.aw n with
 | none=>rfl
 | some c =>
  rw[ay] at h;simp only at h ⊢;rw[if_neg];intro aB;rw[(Cw _ _ _).1] at aB;simp only[Bool.and_eq_true] at aB;rw[if_pos aB.1] at h;exact h rfl
theorem aeA{n:Int}{s:Scope}{c:dv}(h:(j8 n s).2=0)(ag:nth s.aw n=some c):channel n s=some (if c.scalar=0 then 0 else 1+c.scalar)/\0<=c.scalar/\c.scalar<=s.scalars.length:=by
 unfold j8 at h;rw[ag] at h;simp only at h;have h1:(hv c.scalar s).2=true:=by
  cases hk:(hv c.scalar s).2 with
  | true=>rfl
  | false=>rw[hk] at h;simp at h
 have aB:(lx c.scalar 0 s).2=true:=by rw[(Cw _ _ _).1,h1];simp[hv]
 refine⟨?_,?_⟩
 .unfold channel;rw[ag];simp only;rw[if_pos aB,(Cw _ _ _).2 aB]
 .unfold lx at aB;split at aB
  .cases aB
  .omega
def lr(l:C_ Var)(n:Int)(s:Scope):Int×Int:=match declared l n s with | none=>(0,8) | some (v,k)=>if v.over≠0 then (0,9) else (k,0)
def zH(a:Act)(s:Scope):Int:=match declared s.vars a.to s with | none=>8 | some (v,k)=>if v.over=0 then 9 else if asked a.index (1+v.over) s≠0 then asked a.index (1+v.over) s else asked a.value k s
def lv(a:Act)(s:Scope)(comm:Bool):Int :=
 if a.kind<1\/5<a.kind then 3
 else if a.kind=2 then zH a s
 else if a.kind=1\/a.kind=3 then (if (lr (if a.kind=3 then s.locals else s.vars) a.to s).2≠0 then (lr (if a.kind=3 then s.locals else s.vars) a.to s).2 else asked a.value (lr (if a.kind=3 then s.locals else s.vars) a.to s).1 s)
 else if comm=true then 7
 else match channel a.to s with
  | none=>8
  | some k=>if a.kind=4 then asked a.value k s else if (lr s.locals a.loc s).2≠0 then (lr s.locals a.loc s).2 else if (lr s.locals a.loc s).1≠k then 9 else 0
theorem aoh(a:Act)(s:Scope)(comm:Bool):lv a s comm=if hX a&&comm then 7 else kg a s:=by
 by_cases af:a.kind<1\/5<a.kind
 .have aB:hX a=false:=by unfold hX;rw[decide_eq_false_iff_not];omega
  unfold lv kg;rw[if_pos af,aB,if_neg (by omega:¬(a.kind=1\/a.kind=2\/a.kind=3)),if_neg (by omega:¬(a.kind=4\/a.kind=5))];simp
 by_cases I:a.kind=2
 .have aB:hX a=false:=by unfold hX;rw[decide_eq_false_iff_not];omega
  unfold lv kg;rw[if_neg af,if_pos I,aB,if_pos (by omega:a.kind=1\/a.kind=2\/a.kind=3)];simp only[Bool.false_and,Bool.false_eq_true,if_false];rw[if_neg (by omega:¬a.kind=3)];unfold zH;cases a6:declared s.vars a.to s with
  | none=>rfl
  | some q =>
   obtain⟨v,k⟩:=q;simp only[I,true_and];by_cases aG:v.over=0
   .simp[aG]
   .simp[aG]
 by_cases h1:a.kind=1\/a.kind=3
 .have aB:hX a=false:=by unfold hX;rw[decide_eq_false_iff_not];omega
  unfold lv kg;rw[if_neg af,if_neg I,if_pos h1,aB,if_pos (by omega:a.kind=1\/a.kind=2\/a.kind=3)];simp only[Bool.false_and,Bool.false_eq_true,if_false];unfold lr;cases a6:declared (if a.kind=3 then s.locals else s.vars) a.to s with
  | none=>simp
  | some q =>
   obtain⟨v,k⟩:=q;simp only[I,false_and,if_false];by_cases aG:v.over=0
   .simp[aG]
   .simp[aG]
 .have ahn:a.kind=4\/a.kind=5:=by omega
  have aB:hX a=true:=by unfold hX;rw[decide_eq_true_eq];omega
  unfold lv kg;rw[if_neg af,if_neg I,if_neg h1,aB,if_neg (by omega:¬(a.kind=1\/a.kind=2\/a.kind=3)),if_pos ahn];simp only[Bool.true_and];cases comm with
  | true=>simp
  | false =>
   simp only[Bool.false_eq_true,if_false];cases ah:channel a.to s with
   | none=>rfl
   | some k =>
    simp only;by_cases aD:a.kind=4
    .rw[if_pos aD,if_neg (by omega:¬a.kind=5)]
    .rw[if_neg aD,if_pos (by omega:a.kind=5)];unfold lr Fx;cases a6:declared s.locals a.loc s with
     | none=>simp
     | some q =>
      obtain⟨v,k'⟩:=q;simp only;by_cases aG:v.over=0
      .simp[aG]
      .simp[aG]
end o
end
section
namespace Go.Proofs.R
open Go Go.RowKit bb
theorem abL(op:Int)(w:A_):a7 Tryz.prog F.Jz #[.int .i64 op] w fun v w'=>v = .int .i64 (o.fc op)/\w'=w:=by
 have key:∀n:Int,(if op=3 then (1:Int) else if 1<=op/\op<=8 then 0 else if op=9\/op=10 then 1 else if 11<=op/\op<=19 then 2 else -1)=n->o.fc op=n:=fun _ h=>h;refine bn E.Jz ?_
 (repeat' (refine az ?_;first | (refine I_ (fun _=>?_) (fun _=>?_)<;>try (exfalso;omega)) | refine N_ (fun _=>?_) (fun _=>?_)))<;>try refine az ?_
 all_goals
  refine⟨?_,aU⟩;congr 1;refine(key _ ?_).symm
  (repeat' split)<;>first | rfl | (exfalso;omega)
theorem Kj{x:Int}(h:o.fc x=0):1<=x/\x<=8/\x≠3/\o.gQ x=none:=by
 have h1:1<=x/\x<=8/\x≠3:=by unfold o.fc at h; (repeat' split at h)<;>omega
 exact⟨h1.1,h1.2.1,h1.2.2,o.PZ (by simp[o.x4];omega)⟩
theorem Z8{x:Int}(h:o.fc x=1):x=3\/x=9\/x=10:=by unfold o.fc at h; (repeat' split at h)<;>omega
theorem Kk{x:Int}(h:o.fc x=2):11<=x/\x<=19:=by unfold o.fc at h; (repeat' split at h)<;>omega
theorem aae{x:Int}(h:9<=x/\x<=19):∃ad,o.gQ x=some ad/\ad.parts=o.fc x:=by
 cases aM:o.gQ x with
 | some ad=>exact⟨ad,rfl,(o.Fk aM).1⟩
 | none =>
  exfalso;unfold o.gQ at aM
  (repeat' split at aM)
  all_goals first | (cases aM;done) | omega
theorem Mw{st:C_ Int}(h:1<=st.length):st.drop (st.length - 1)=[st[st.length - 1]]:=by
 rw[List.drop_eq_getElem_cons (by omega),List.drop_eq_nil_of_le (by omega)]
theorem Vz{st:C_ Int}(h:2<=st.length):st.drop (st.length - 2)=[st[st.length - 2],st[st.length - 1]]:=by
 rw[List.drop_eq_getElem_cons (by omega)];have e:st.length - 2+1=st.length - 1:=by omega
 congr 1;rw[e];exact Mw (by omega)
theorem rB:∀y,∀u∈encI y,u.oneCell'=true:=fun y u h=>by simp[encI] at h;subst h;rfl
end Go.Proofs.R
end
section
namespace Go.Proofs.R
open Go Go.RowKit bb
theorem QC(n:Int)(cs:C_ B_)(s:o.Scope)(w:A_)(h:o.fJ w cs s) :
  a7 Tryz.prog F.JH #[.int .i64 n,.agg cs.toArray] w fun v w'=>v = .bool (o.hv n s).2/\Ext w w':=by
 obtain⟨a0,bw,df,c1,a2,c2,a3,br,a4,bF,rfl,af,h1,I,ab,aD,eU,ek,ev,ef,ew⟩:=h.form;refine bn E.JH ?_;refine az ?_;refine O_ fun w1 b ak al ai=>?_
 (repeat' (refine az ?_;first | (refine I_ (fun _=>?_) (fun _=>?_)<;>try (exfalso;omega)) | refine N_ (fun _=>?_) (fun _=>?_)))<;>try refine az ?_
 all_goals
  refine⟨?_,fw⟩;congr 1;unfold o.hv
  (repeat' split)<;>first | rfl | (exfalso;omega) | (simp;omega)
def kindOf(n:Int):Int:=if n=0 then 0 else 1+n
theorem Jg(n:Int)(w:A_)(h:0<=n/\n<=4611686018427387904):a7 Tryz.prog F.E1 #[.int .i64 n] w fun v w'=>v = .int .i64 (kindOf n)/\w'=w:=by
 refine bn E.E1 ?_
 (repeat' (refine az ?_;first | (refine I_ (fun _=>?_) (fun _=>?_)<;>try (exfalso;omega)) | refine N_ (fun _=>?_) (fun _=>?_)))<;>try refine az ?_
 all_goals
  refine⟨?_,aU⟩;congr 1;unfold kindOf;split<;>first | rfl | (exfalso;omega)
theorem Zn{n:Int}{s:o.Scope}(h:(o.hv n s).2=true):0<=n/\n<=s.scalars.length/\(o.hv n s).1=kindOf n:=by
 unfold o.hv kindOf at *
 (repeat' split at h) <;> (repeat' split)<;>first | (cases h;done) | (refine⟨by omega,by omega,?_⟩;first | rfl | omega) | (exfalso;omega)
theorem FA(v:B_)(l:C_ o.Var)(n:Int)(cs:C_ B_)(s:o.Scope)(w:A_)(aF:o.hP w v l)(h:o.fJ w cs s) :
  a7 Tryz.prog F.JB #[v,.int .i64 n,.agg cs.toArray] w fun v w' =>
   (∃x:o.Var,v = .tuple #[.agg x.enc.toArray,.bool (o.fY l n s).2.2]/\((o.fY l n s).2.2=true->o.nth l n=some x))/\Ext w w':=by
 obtain⟨a0,bw,df,c1,a2,c2,a3,br,a4,bF,rfl,_⟩:=h.form;obtain⟨aQ,cap,rfl,hlen⟩:=aF.form;refine bn E.JB ?_;refine az ?_;refine O_ fun w1 b ak al ai=>?_;refine az ?_;refine O_ fun aH bR dt ao av=>?_;have he:=al.trans ao;have eE:=ao.obj ai;refine az ?_;apply I_<;>intro g1
 .have hk:(o.fY l n s).2.2=false:=by rw[o.fY,o.gX (.inl g1)]
  refine az ?_;intro aP aj;refine az ?_;refine W_ (cs:=(⟨⟨#[]⟩,0,0,0,0,0⟩:o.Var).enc) (by simp[eW,o.Var.enc]) ?_;refine az ?_;refine T_ (cs:=(⟨⟨#[]⟩,0,0,0,0,0⟩:o.Var).enc.toArray) (aj.obj av) rfl rfl (by simp[o.Var.enc,Value.oneCell']) fun aR du bH=>?_;refine az ?_;refine R_ (c:=o.Var.enc _) bH (Ext.refl _) rfl ?_;refine az ?_;exact⟨⟨_,by rw[hk],by rw[hk];intro h;cases h⟩,du.ext (he.trans aj) (by have:=al.size;omega)⟩
 refine az ?_;apply I_<;>intro g2
 .have hk:(o.fY l n s).2.2=false:=by rw[o.fY,o.gX (.inr (by omega))]
  refine az ?_;intro aP aj;refine az ?_;refine W_ (cs:=(⟨⟨#[]⟩,0,0,0,0,0⟩:o.Var).enc) (by simp[eW,o.Var.enc]) ?_;refine az ?_;refine T_ (cs:=(⟨⟨#[]⟩,0,0,0,0,0⟩:o.Var).enc.toArray) (aj.obj av) rfl rfl (by simp[o.Var.enc,Value.oneCell']) fun aR du bH=>?_;refine az ?_;refine R_ (c:=o.Var.enc _) bH (Ext.refl _) rfl ?_;refine az ?_;exact⟨⟨_,by rw[hk],by rw[hk];intro h;cases h⟩,du.ext (he.trans aj) (by have:=al.size;omega)⟩
 obtain⟨i,rfl⟩:=Int.eq_ofNat_of_zero_le (show 0<=n by omega);have U:i<l.length:=by omega
 have ay:o.nth l (i:Int)=some l[i]:=by rw[o.ja (by omega) (by omega)];simp only[Int.toNat_natCast]
 obtain⟨a,rfl⟩:=aF.addr;refine az ?_;refine R_ (c:=[_,_,_,_,_,_]) eE (Ext.refl _) rfl ?_;refine az ?_;refine P_ _ (fun w' e=>QC _ _ s w' (h.ext (he.trans e))) ?_;refine az ?_;refine N_ (fun g3=>?_) (fun g3=>?_);rotate_left
 .have hk:(o.fY l i s).2.2=false:=by rw[o.fY,ay];simp only[g3,Bool.false_and]
  refine az ?_;intro aP aj;refine az ?_;refine W_ (cs:=(⟨⟨#[]⟩,0,0,0,0,0⟩:o.Var).enc) (by simp[eW,o.Var.enc]) ?_;refine az ?_;refine T_ (cs:=(⟨⟨#[]⟩,0,0,0,0,0⟩:o.Var).enc.toArray) (aj.obj av) rfl rfl (by simp[o.Var.enc,Value.oneCell']) fun aR du bH=>?_;refine az ?_;refine R_ (c:=o.Var.enc _) bH (Ext.refl _) rfl ?_;refine az ?_;exact⟨⟨_,by rw[hk],by rw[hk];intro h;cases h⟩,du.ext (he.trans aj) (by have:=al.size;omega)⟩
 refine az ?_;refine R_ (c:=[_,_,_,_,_,_]) eE (Ext.refl _) rfl ?_;refine az ?_;refine P_ _ (fun w' e=>QC _ _ s w' (h.ext (he.trans e))) ?_;refine az ?_;cases g4:(o.hv l[i].over s).2 with
 | false =>
  have hk:(o.fY l i s).2.2=false:=by rw[o.fY,ay];simp only[g4,Bool.and_false]
  refine az ?_;intro aP aj;refine az ?_;refine W_ (cs:=(⟨⟨#[]⟩,0,0,0,0,0⟩:o.Var).enc) (by simp[eW,o.Var.enc]) ?_;refine az ?_;refine T_ (cs:=(⟨⟨#[]⟩,0,0,0,0,0⟩:o.Var).enc.toArray) (aj.obj av) rfl rfl (by simp[o.Var.enc,Value.oneCell']) fun aR du bH=>?_;refine az ?_;refine R_ (c:=o.Var.enc _) bH (Ext.refl _) rfl ?_;refine az ?_;exact⟨⟨_,by rw[hk],by rw[hk];intro h;cases h⟩,du.ext (he.trans aj) (by have:=al.size;omega)⟩
 | true =>
  have hk:(o.fY l i s).2.2=true:=by rw[o.fY,ay];simp only[g3,g4,Bool.and_true]
  refine az ?_;intro aP aj;refine az ?_;refine T_ (cs:=l[i].enc.toArray) (aj.obj av) rfl rfl (by simp[o.Var.enc,Value.oneCell']) fun aR du bH=>?_;refine az ?_;refine R_ (c:=o.Var.enc _) bH (Ext.refl _) rfl ?_;refine az ?_;exact⟨⟨_,by rw[hk],fun _=>ay⟩,du.ext (he.trans aj) (by have:=al.size;omega)⟩
theorem aaO(n:Int)(cs:C_ B_)(s:o.Scope)(w:A_)(h:o.fJ w cs s) :
  a7 Tryz.prog F.Jw #[.int .i64 n,.agg cs.toArray] w fun v w' =>
   (∃x:o.dv,v = .tuple #[.agg x.enc.toArray,.bool (decide ((o.j8 n s).2=0))]/\((o.j8 n s).2=0->o.nth s.aw n=some x))/\Ext w w':=by
 obtain⟨a0,bw,df,c1,a2,c2,a3,br,a4,bF,rfl,af,h1,I,ab,aD,eU,ek,ev,ef,ew⟩:=h.form;refine bn E.Jw ?_;refine az ?_;refine O_ fun w1 b ak al ai=>?_;refine az ?_;refine O_ fun aH bR dt ao av=>?_;have he:=al.trans ao;have eE:=ao.obj ai;refine az ?_;apply I_<;>intro g1
 .have hk:(o.j8 n s).2=8:=by rw[o.j8,o.gX (.inl g1)]
  refine az ?_;intro aP aj;refine az ?_;refine W_ (cs:=(⟨⟨#[]⟩,0,0,0,0,false⟩:o.dv).enc) (by simp[eW,o.dv.enc]) ?_;refine az ?_;refine T_ (cs:=(⟨⟨#[]⟩,0,0,0,0,false⟩:o.dv).enc.toArray) (aj.obj av) rfl rfl (by simp[o.dv.enc,Value.oneCell']) fun aR du bH=>?_;refine az ?_;refine R_ (c:=o.dv.enc _) bH (Ext.refl _) rfl ?_;refine az ?_;exact⟨⟨_,by rw[hk];rfl,by rw[hk];intro h;cases h⟩,du.ext (he.trans aj) (by have:=al.size;omega)⟩
 refine az ?_;apply I_<;>intro g2
 .have hk:(o.j8 n s).2=8:=by rw[o.j8,o.gX (.inr (by omega))]
  refine az ?_;intro aP aj;refine az ?_;refine W_ (cs:=(⟨⟨#[]⟩,0,0,0,0,false⟩:o.dv).enc) (by simp[eW,o.dv.enc]) ?_;refine az ?_;refine T_ (cs:=(⟨⟨#[]⟩,0,0,0,0,false⟩:o.dv).enc.toArray) (aj.obj av) rfl rfl (by simp[o.dv.enc,Value.oneCell']) fun aR du bH=>?_;refine az ?_;refine R_ (c:=o.dv.enc _) bH (Ext.refl _) rfl ?_;refine az ?_;exact⟨⟨_,by rw[hk];rfl,by rw[hk];intro h;cases h⟩,du.ext (he.trans aj) (by have:=al.size;omega)⟩
 obtain⟨i,rfl⟩:=Int.eq_ofNat_of_zero_le (show 0<=n by omega);have U:i<s.aw.length:=by omega
 have ay:o.nth s.aw (i:Int)=some s.aw[i]:=by rw[o.ja (by omega) (by omega)];simp only[Int.toNat_natCast]
 obtain⟨a,rfl⟩:=I.addr;refine az ?_;refine R_ (c:=[_,_,_,_,_,_]) eE (Ext.refl _) rfl ?_;refine az ?_;refine P_ _ (fun w' e=>QC _ _ s w' (h.ext (he.trans e))) ?_;refine az ?_;cases g4:(o.hv s.aw[i].scalar s).2 with
 | false =>
  have hk:(o.j8 i s).2=8:=by rw[o.j8,ay];simp only[g4,Bool.false_eq_true,if_false]
  refine az ?_;intro aP aj;refine az ?_;refine W_ (cs:=(⟨⟨#[]⟩,0,0,0,0,false⟩:o.dv).enc) (by simp[eW,o.dv.enc]) ?_;refine az ?_;refine T_ (cs:=(⟨⟨#[]⟩,0,0,0,0,false⟩:o.dv).enc.toArray) (aj.obj av) rfl rfl (by simp[o.dv.enc,Value.oneCell']) fun aR du bH=>?_;refine az ?_;refine R_ (c:=o.dv.enc _) bH (Ext.refl _) rfl ?_;refine az ?_;exact⟨⟨_,by rw[hk];rfl,by rw[hk];intro h;cases h⟩,du.ext (he.trans aj) (by have:=al.size;omega)⟩
 | true =>
  have hk:(o.j8 i s).2=0:=by rw[o.j8,ay];simp only[g4,if_true]
  refine az ?_;intro aP aj;refine az ?_;refine T_ (cs:=s.aw[i].enc.toArray) (aj.obj av) rfl rfl (by simp[o.dv.enc,Value.oneCell']) fun aR du bH=>?_;refine az ?_;refine R_ (c:=o.dv.enc _) bH (Ext.refl _) rfl ?_;refine az ?_;exact⟨⟨_,by rw[hk];rfl,fun _=>ay⟩,du.ext (he.trans aj) (by have:=al.size;omega)⟩
end Go.Proofs.R
end
section
namespace Go.Proofs.R
open Go Go.RowKit bb
theorem Ps{l:C_ o.Var}{n:Int}{s:o.Scope}{x:o.Var}(h:(o.fY l n s).2.2=true)(ag:o.nth l n=some x) :
  (o.fY l n s).1=kindOf x.scalar/\(o.fY l n s).2.1=kindOf x.over/\0<=x.scalar/\x.scalar<=s.scalars.length/\0<=x.over/\x.over<=s.scalars.length:=by
 unfold o.fY at h ⊢;rw[ag] at h ⊢;simp only[Bool.and_eq_true] at h ⊢;obtain⟨df,a2,a3⟩:=Zn h.1;obtain⟨bo,bR,b0⟩:=Zn h.2;exact⟨a3,b0,df,a2,bo,bR⟩
theorem aoN(x:o.Node)(cs:C_ B_)(s:o.Scope)(w:A_)(ag:x.ok)(h:o.fJ w cs s)(l9:1<=x.op/\x.op<=8)(ab:x.op≠3)(t:Int) :
  a7 Tryz.prog F.JF #[.agg x.enc.toArray,.agg cs.toArray] w fun v w'=>v = .tuple #[.int .i64 (o.iY x s t).1,.int .i64 (o.iY x s t).2]/\Ext w w':=by
 obtain⟨a0,bw,df,c1,a2,c2,a3,br,a4,bF,rfl,q2,cV,dq,dU,hy,eU,ek,ev,ef,ew⟩:=h.form;refine bn E.JF ?_;refine az ?_;refine O_ fun w1 bo cT al ai=>?_;refine az ?_;refine O_ fun aH bR dt ao av=>?_;have he:=al.trans ao;have cC:aH.heap[bo]? = some (.cells #[.int .i64 x.op,.int .i64 x.n] T.f):=ao.obj ai;clear ai;refine az ?_;apply I_<;>intro g1
 .have hk:o.iY x s t=if o.within x.n then (0,0) else (0,10):=by rw[o.iY,if_pos g1]
  (repeat' (refine az ?_;first | (refine I_ (fun _=>?_) (fun _=>?_)<;>try (exfalso;omega)) | refine N_ (fun _=>?_) (fun _=>?_)))<;>try refine az ?_
  all_goals
   refine⟨?_,fw⟩;rw[hk];unfold o.within;split<;>first | rfl | (rename_i cU;simp at cU;exfalso;omega)
 by_cases aG:x.op=2\/x.op=4
 .have hk:o.iY x s t=(let q:=o.fY (if x.op=4 then s.locals else s.vars) x.n s;if q.2.2=false then (0,8) else if (x.op=3/\(q.2.1=0\/t≠q.2.1))\/(x.op≠3/\q.2.1≠0) then (0,9) else (q.1,0)):=by
   rw[o.iY,if_neg g1,if_pos (by omega)]
  by_cases g4:x.op=4
  .rw[if_pos g4] at hk;rw[hk];refine az ?_;refine R_ (c:=[_,_,_,_,_,_]) av (Ext.refl _) rfl ?_;refine az ?_;refine J_ (FA _ s.locals x.n _ s aH (hy.ext he) (h.ext he)) ?_;rintro _ aP ⟨⟨y,rfl,bS⟩,aj⟩;have di:(o.fY s.locals x.n s).2.2=true->_:=fun g=>Ps g (bS g);clear bS hk;generalize o.fY s.locals x.n s=q at di ⊢;obtain⟨yg,zY,Qh⟩:=q;refine az ?_;refine _L (vs:=y.enc) (fun _=>by simp -dsimp only[c0,cB,Nat.reduceAdd,Nat.reduceEqDiff,reduceIte,reduceCtorEq,dd]) rfl rfl (by simp[o.Var.enc,Value.oneCell']) fun aR cF fy aA bH=>?_;have hI:aR.heap[cF]? = some (.cells #[.string y.name,.int .i64 y.scalar,.int .i64 y.over,.int .i64 y.aO,.int .i64 y.U,.int .i64 y.init] T.m):=bH;clear bH;refine az ?_;refine N_ (fun g5=>?_) (fun g5=>?_);rotate_left
   .refine az ?_;simp only[g5,if_true];exact ca
   obtain⟨gj,z2,z3,z4,z5,Aq⟩:=di g5;have xQ:kindOf y.over=0↔y.over=0:=by unfold kindOf;split<;>omega
   have An:yg=kindOf y.scalar:=gj;have Ao:zY=kindOf y.over:=z2;refine az ?_;apply I_<;>intro g6
   .refine az ?_;refine J_ (Jg y.scalar aR (by omega)) ?_;rintro _ _ ⟨rfl,rfl⟩;refine az ?_;simp only[g5,Bool.true_eq_false,if_false,An,Ao];rw[if_neg (by rw[ne_eq,xQ];omega)];exact ca
   .refine az ?_;simp only[g5,Bool.true_eq_false,if_false,An,Ao];rw[if_pos (.inr ⟨ab,by rw[ne_eq,xQ];exact g6⟩)];exact ca
  .rw[if_neg g4] at hk;rw[hk];refine az ?_;refine R_ (c:=[_,_,_,_,_,_]) av (Ext.refl _) rfl ?_;refine az ?_;refine J_ (FA _ s.vars x.n _ s aH (cV.ext he) (h.ext he)) ?_;rintro _ aP ⟨⟨y,rfl,bS⟩,aj⟩;have di:(o.fY s.vars x.n s).2.2=true->_:=fun g=>Ps g (bS g);clear bS hk;generalize o.fY s.vars x.n s=q at di ⊢;obtain⟨yg,zY,Qh⟩:=q;refine az ?_;refine _L (vs:=y.enc) (fun _=>by simp -dsimp only[c0,cB,Nat.reduceAdd,Nat.reduceEqDiff,reduceIte,reduceCtorEq,dd]) rfl rfl (by simp[o.Var.enc,Value.oneCell']) fun aR cF fy aA bH=>?_;have hI:aR.heap[cF]? = some (.cells #[.string y.name,.int .i64 y.scalar,.int .i64 y.over,.int .i64 y.aO,.int .i64 y.U,.int .i64 y.init] T.m):=bH;clear bH;refine az ?_;refine N_ (fun g5=>?_) (fun g5=>?_);rotate_left
   .refine az ?_;simp only[g5,if_true];exact ca
   obtain⟨gj,z2,z3,z4,z5,Aq⟩:=di g5;have xQ:kindOf y.over=0↔y.over=0:=by unfold kindOf;split<;>omega
   have An:yg=kindOf y.scalar:=gj;have Ao:zY=kindOf y.over:=z2;refine az ?_;apply I_<;>intro g6
   .refine az ?_;refine J_ (Jg y.scalar aR (by omega)) ?_;rintro _ _ ⟨rfl,rfl⟩;refine az ?_;simp only[g5,Bool.true_eq_false,if_false,An,Ao];rw[if_neg (by rw[ne_eq,xQ];omega)];exact ca
   .refine az ?_;simp only[g5,Bool.true_eq_false,if_false,An,Ao];rw[if_pos (.inr ⟨ab,by rw[ne_eq,xQ];exact g6⟩)];exact ca
 have hk:o.iY x s t=o.mc x s:=by rw[o.iY,if_neg g1,if_neg (by omega)]
 rw[hk];clear hk;refine az ?_;apply I_<;>intro g5
 ·(repeat' (refine az ?_;first | (refine I_ (fun _=>?_) (fun _=>?_)<;>try (exfalso;omega)) | refine N_ (fun _=>?_) (fun _=>?_)))<;>try refine az ?_
  all_goals
   refine⟨?_,fw⟩;rw[o.mc,if_pos g5];split<;>first | rfl | (exfalso;omega)
 refine az ?_;apply I_<;>intro g6
 .have hk:o.mc x s=o.j8 x.n s:=by rw[o.mc,if_neg g5,if_pos g6]
  rw[hk];have zu:(o.j8 x.n s).1=0/\((o.j8 x.n s).2=0\/(o.j8 x.n s).2=8):=by
   unfold o.j8; (repeat' split)<;>simp
  refine az ?_;refine R_ (c:=[_,_,_,_,_,_]) av (Ext.refl _) rfl ?_;refine az ?_;refine J_ (aaO x.n _ s aH (h.ext he)) ?_;rintro _ aP ⟨⟨y,rfl,bS⟩,aj⟩;generalize o.j8 x.n s=q at *;obtain⟨cV,dq⟩:=q;obtain⟨rfl,au⟩:=zu;refine az ?_;refine _L (vs:=y.enc) (fun _=>by simp -dsimp only[c0,cB,Nat.reduceAdd,Nat.reduceEqDiff,reduceIte,reduceCtorEq,dd]) rfl rfl (by simp[o.dv.enc,Value.oneCell']) fun aR cF fy aA bH=>?_;refine az ?_;apply I_<;>intro g7
  .refine az ?_;have g8:dq=0:=g7;rw[g8];exact ca
  .refine az ?_
   have:dq=8:=au.resolve_left g7
   rw[this];exact ca
 refine az ?_;apply I_<;>intro g7
 .have hk:o.mc x s=o.B2 x.n s:=by rw[o.mc,if_neg g5,if_neg g6,if_pos g7]
  rw[hk,o.B2];refine az ?_;apply I_<;>intro g1
  .refine az ?_;intro aP aj;refine az ?_;rw[if_neg (by omega)];exact ca
  rw[if_pos (by omega)];obtain⟨i,U⟩:=Int.eq_ofNat_of_zero_le (show 0<=x.n by omega);obtain⟨_,gp⟩:=ag.n;rw[U] at gp;have au:x.n.tdiv 16=((i / 16:Nat):Int):=by rw[U];rfl
  have hm:x.n.tmod 16=((i % 16:Nat):Int):=by rw[U];rfl
  refine az ?_;refine _J (by omega) ?_;rw[au];refine az ?_;apply I_<;>intro g2
  .refine az ?_;intro aP aj;refine az ?_;rw[o.gX (.inr (by omega))];exact ca
  have aE:i / 16<s.procs.length:=by omega
  rw[o.ja (by omega) (by omega)];simp only[Int.toNat_natCast];refine az ?_;refine _p (by omega) ?_;refine az ?_;refine _J (by omega) ?_;rw[au];obtain⟨a,rfl⟩:=dU.addr;obtain⟨_,b7,ec,Eg,_⟩:=dU.at (i / 16) aE;have NK:w.cell? ((a.add (i / 16*5)).add 2)=some (.int .i64 s.procs[i / 16].b8):=Eg 2 _ rfl;refine az ?_;refine M_ ((al.trans ao).cell NK) ?_;refine az ?_;rw[hm];intro aP aj;refine az ?_;apply I_<;>intro g3
  all_goals
   refine az ?_;refine⟨?_,fw⟩
   first | rw[if_pos (by omega)] | rw[if_neg (by omega)]
 (repeat' (refine az ?_;first | (refine I_ (fun _=>?_) (fun _=>?_)<;>try (exfalso;omega)) | refine N_ (fun _=>?_) (fun _=>?_)))<;>try refine az ?_
 all_goals
  refine⟨?_,fw⟩;rw[o.mc,if_neg g5,if_neg g6,if_neg g7,if_pos (by omega)];split<;>first | rfl | (exfalso;omega)
end Go.Proofs.R
end
section
namespace Go.Proofs.R
open Go Go.RowKit bb
theorem Zt(ad:o.oU)(k:Int):o.n3 ad [k]=if ad.jq = -1\/k=ad.jq then (ad.makes,0) else (0,9):=by
 simp[o.n3]
theorem alk(ad:o.oU)(a b:Int):o.n3 ad [a,b]=if (ad.jq = -1\/a=ad.jq)/\a=b then (ad.makes,0) else (0,9):=by
 simp only[o.n3,List.all_cons,List.all_nil,List.headD_cons,Bool.and_true,decide_true];by_cases h:a=b
 .subst h;simp
 .have bd:¬b=a:=fun e=>h e.symm;simp[h,bd]
def uC(x:o.Node)(k:Int)(s:o.Scope):Int×Int:=match o.gQ x.op with | some ad=>o.n3 ad [k] | none=>o.iY x s k
theorem aoT(x:o.Node)(k:Int)(cs:C_ B_)(s:o.Scope)(w:A_)(h:o.fJ w cs s)(l9:x.op=3\/x.op=9\/x.op=10) :
  a7 Tryz.prog F.JG #[.agg x.enc.toArray,.int .i64 k,.agg cs.toArray] w fun v w'=>v = .tuple #[.int .i64 (uC x k s).1,.int .i64 (uC x k s).2]/\Ext w w':=by
 obtain⟨a0,bw,df,c1,a2,c2,a3,br,a4,bF,rfl,q2,cV,dq,dU,hy,eU,ek,ev,ef,ew⟩:=h.form;refine bn E.JG ?_;refine az ?_;refine O_ fun w1 bo cT al ai=>?_;refine az ?_;refine O_ fun aH bR dt ao av=>?_;have he:=al.trans ao;have cC:aH.heap[bo]? = some (.cells #[.int .i64 x.op,.int .i64 x.n] T.f):=ao.obj ai;clear ai;refine az ?_;apply I_<;>intro g1
 .have aM:o.gQ x.op=none:=by rw[g1];rfl
  have hk:uC x k s=(let q:=o.fY s.vars x.n s;if q.2.2=false then (0,8) else if (x.op=3/\(q.2.1=0\/k≠q.2.1))\/(x.op≠3/\q.2.1≠0) then (0,9) else (q.1,0)):=by
   rw[uC,aM];simp only;rw[o.iY,if_neg (by omega),if_pos (by omega)];simp only[show ¬x.op=4 from by omega,if_false]
  rw[hk];refine az ?_;refine R_ (c:=[_,_,_,_,_,_]) av (Ext.refl _) rfl ?_;refine az ?_;refine J_ (FA _ s.vars x.n _ s aH (cV.ext he) (h.ext he)) ?_;rintro _ aP ⟨⟨y,rfl,bS⟩,aj⟩;have di:(o.fY s.vars x.n s).2.2=true->_:=fun g=>Ps g (bS g);clear bS hk;generalize o.fY s.vars x.n s=q at di ⊢;obtain⟨yg,zY,Qh⟩:=q;refine az ?_;refine _L (vs:=y.enc) (fun _=>by simp -dsimp only[c0,cB,Nat.reduceAdd,Nat.reduceEqDiff,reduceIte,reduceCtorEq,dd]) rfl rfl (by simp[o.Var.enc,Value.oneCell']) fun aR cF fy aA bH=>?_;have hI:aR.heap[cF]? = some (.cells #[.string y.name,.int .i64 y.scalar,.int .i64 y.over,.int .i64 y.aO,.int .i64 y.U,.int .i64 y.init] T.m):=bH;clear bH;refine az ?_;refine N_ (fun g5=>?_) (fun g5=>?_);rotate_left
  .refine az ?_;simp only[g5,if_true];exact ca
  obtain⟨gj,z2,z3,z4,z5,Aq⟩:=di g5;have An:yg=kindOf y.scalar:=gj;have Ao:zY=kindOf y.over:=z2;have xQ:zY=if y.over=0 then 0 else 1+y.over:=Ao
  refine az ?_;apply I_<;>intro g6
  .refine az ?_;simp only[g5,Bool.true_eq_false,if_false];rw[if_pos (.inl ⟨g1,.inl (by rw[xQ,if_pos g6])⟩)];exact ca
  rw[if_neg g6] at xQ;refine az ?_;apply I_<;>intro g7;rotate_left
  .refine az ?_;simp only[g5,Bool.true_eq_false,if_false];rw[if_pos (.inl ⟨g1,.inr (by omega)⟩)];exact ca
  refine az ?_;refine J_ (Jg y.scalar aR (by omega)) ?_;rintro _ _ ⟨rfl,rfl⟩;refine az ?_;simp only[g5,Bool.true_eq_false,if_false,An];rw[if_neg (by omega)];exact ca
 have jj:x.op=9->uC x k s=if k=1 then (1,0) else (0,9):=by
  intro e;rw[uC,e];show o.n3 _ [k]=_;rw[Zt];simp
 have kl:x.op=10->uC x k s=if k=0 then (0,0) else (0,9):=by
  intro e;rw[uC,e];show o.n3 _ [k]=_;rw[Zt];simp
 (repeat' (refine az ?_;first | (refine I_ (fun _=>?_) (fun _=>?_)<;>try (exfalso;omega)) | refine N_ (fun _=>?_) (fun _=>?_)))<;>try refine az ?_
 all_goals
  refine⟨?_,fw⟩;rcases l9 with e | e | e
  .exact absurd e g1
  .rw[jj e];split<;>first | rfl | (exfalso;omega)
  .rw[kl e];split<;>first | rfl | (exfalso;omega)
def FR(op a b:Int):Int×Int:=match o.gQ op with | some ad=>o.n3 ad [a,b] | none=>(0,9)
theorem aoZ(op a b:Int)(w:A_)(l9:11<=op/\op<=19) :
  a7 Tryz.prog F.JI #[.int .i64 op,.int .i64 a,.int .i64 b] w fun v w'=>v = .tuple #[.int .i64 (FR op a b).1,.int .i64 (FR op a b).2]/\w'=w:=by
 have key:FR op a b=if a≠b then (0,9) else if op=14\/op=15 then (1,0) else if op=18\/op=19 then (if a=1 then (1,0) else (0,9)) else if op=16\/op=17 then (if a=0 then (1,0) else (0,9)) else (if a=0 then (0,0) else (0,9)):=by
  have ah:op=11\/op=12\/op=13\/op=14\/op=15\/op=16\/op=17\/op=18\/op=19:=by omega
  rcases ah with e | e | e | e | e | e | e | e | e<;>subst e <;> (show o.n3 _ [a,b]=_)<;>rw[alk]<;>by_cases D0:a=b<;>simp[D0,o.z1]
 refine bn E.JI ?_
 (repeat' (refine az ?_;first | (refine I_ (fun _=>?_) (fun _=>?_)<;>try (exfalso;omega)) | refine N_ (fun _=>?_) (fun _=>?_)))<;>try refine az ?_
 all_goals
  refine⟨?_,aU⟩;rw[key]
  (repeat' split)<;>first | rfl | (exfalso;omega)
end Go.Proofs.R
end