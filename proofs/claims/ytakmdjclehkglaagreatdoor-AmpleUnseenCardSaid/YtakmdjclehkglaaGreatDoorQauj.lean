/- Parts. -/
import Derived.Test.YtakmdjclehkglaaGreatDoorQaui
import Derived.Maps.RangeRun
set_option linter.all false
set_option maxRecDepth 8000
set_option maxHeartbeats 16000000
section
namespace Go.Proofs.R
open Go Go.RowKit bb
theorem agn{s:o.Scope}{x:o.Node}{st:C_ Int}(h:o.fc x.op=0):o.fk s x st=o.iY x s (st.getLastD 0):=by
 unfold o.fk;rw[(Kj h).2.2.2]
theorem ago{s:o.Scope}{x:o.Node}{st:C_ Int}(h:o.fc x.op=1)(aF:1<=st.length):o.fk s x st=uC x st[st.length - 1] s:=by
 unfold o.fk uC;cases aM:o.gQ x.op with
 | none=>simp only;rw[DK st (by omega)]
 | some ad =>
  have:=(o.Fk aM).1
  simp only;rw[show ad.parts.toNat=1 from by omega,Mw aF]
theorem agp{s:o.Scope}{x:o.Node}{st:C_ Int}(h:o.fc x.op=2)(aF:2<=st.length):o.fk s x st=FR x.op st[st.length - 2] st[st.length - 1]:=by
 unfold o.fk FR;obtain⟨ad,aM,ar⟩:=aae (show 9<=x.op/\x.op<=19 by have:=Kk h;omega);rw[aM];simp only;rw[show ad.parts.toNat=2 from by omega,Vz aF]
theorem aaR(gI:B_)(e:C_ o.Node)(cs:C_ B_)(s:o.Scope)(w:A_)(he:o.eV w gI e)(h:o.fJ w cs s) :
  a7 Tryz.prog F.Jy #[gI,.agg cs.toArray] w fun v w'=>v = .tuple #[.int .i64 (o.kind e s).1,.int .i64 (o.kind e s).2]/\Ext w w':=by
 obtain⟨v0,v1,v2,v3,v4,rfl,_⟩:=h.ex;obtain⟨aQ,cap,rfl,hlen⟩:=he.form;refine bn E.Jy ?_;refine az ?_;refine O_ fun w1 da sY al ai=>?_;refine az ?_;apply I_<;>intro g1
 .refine az ?_;rw[o.kind,o.kV,if_pos (by omega)];exact ca
 refine az ?_;apply I_<;>intro g2
 .refine az ?_;rw[o.kind,o.kV,if_neg (by omega),if_pos (by omega)];exact ca
 refine az ?_;refine _i 7 e.length (fun k S w' => ∃v st,S 6=v/\mU w1.heap.size w' v st/\o.eZ (o.fk s) (e.take k) []=(0,st)/\(0<k->1<=st.length)/\st.length<=12/\Ext w1 w')
  (by simp -dsimp only[c0,cB,Nat.reduceAdd,Nat.reduceEqDiff,reduceIte,reduceCtorEq,dd]) ⟨.slice none 0 0,[],by simp -dsimp only[c0,cB,Nat.reduceAdd,Nat.reduceEqDiff,reduceIte,reduceCtorEq,dd],aW.nil _ _ _ _ _,by simp[o.eZ],by simp,by simp,Ext.refl _⟩ ?_
 rintro k S aH bZ hk b1 ⟨v6,st,bx,fB,hS,DO,rF,ao⟩;have af:=bZ 0 rfl;have ab:=bZ 3 rfl;simp only[bL,Nat.reduceAdd,Nat.reduceEqDiff,reduceIte,jT,nf] at af ab;clear bZ;obtain⟨tj,sG,rfl,b4,jC⟩:=fB.form;have U:Ints aH _ st:=aW.jH (enc:=encI) (sz:=1) (fun _=>rfl) fB;unfold maxLen at jC;refine dm (i_ af (i_ ab (i_ bx b1))) ?_;apply I_<;>intro g3;rotate_left
 .have aZ:k=e.length:=by omega
  subst aZ;rw[List.take_length] at hS;have h1:=DO (by omega);obtain⟨a,rfl⟩:=U.addr h1;have dK:o.kind e s=if st.length > 1 then (0,5) else (st.headD 0,0):=by
   rw[o.kind,o.kV,if_neg (by omega),if_neg (by omega),hS,if_neg (by simp)]
  rw[dK];clear dK;refine dm (i_ af (i_ ab (i_ bx b1))) ?_;apply I_<;>intro g4
  .refine az ?_;rw[if_pos (by omega)];exact ca
  .refine dm (i_ af (i_ ab (i_ bx b1))) ?_;refine K_ 0 rfl (by omega) ?_;refine az ?_;rw[if_neg (by omega)]
   have:st.headD 0=st[0]:=by
    cases st with
    | nil=>simp at h1
    | cons z st=>rfl
   rw[this];exact ca
 have aZ:k<e.length:=by omega
 obtain⟨a,rfl⟩:=he.addr;have um:=(he.at k aZ).ok;have ks:=fun af=>o.QD (f:=o.fk s) (e:=e) (by omega) aZ hS af;have ui:=o.yk aZ hS;have DM:=al.trans ao;have eE:=ao.obj ai;refine dm (i_ af (i_ ab (i_ bx b1))) ?_;refine J_ (abL e[k].op aH) ?_;rintro _ _ ⟨rfl,rfl⟩;generalize ay:o.fc e[k].op=n at *;have l8 : -1<=n/\n<=2:=by rw[<-ay];unfold o.fc; (repeat' split)<;>omega
 refine dm (i_ af (i_ ab (i_ bx b1))) ?_;apply I_<;>intro g4
 .have an:o.stepG (o.fk s) e[k] st=(3,st):=by unfold o.stepG;rw[ay,if_pos g4]
  rw[an] at ks;refine az ?_;rw[o.kind,ks (by simp)];exact ca
 refine dm (i_ af (i_ ab (i_ bx b1))) ?_;apply I_<;>intro g5
 .have an:o.stepG (o.fk s) e[k] st=(4,st):=by unfold o.stepG;rw[ay,if_neg g4,if_pos g5]
  rw[an] at ks;refine az ?_;rw[o.kind,ks (by simp)];exact ca
 obtain⟨p,rfl⟩:=Int.eq_ofNat_of_zero_le (show 0<=n by omega);have eH:o.stepG (o.fk s) e[k] st=if (o.fk s e[k] st).2≠0 then ((o.fk s e[k] st).2,st) else if (st.take (st.length - p)++[(o.fk s e[k] st).1]).length > 12 then (12,st) else (0,st.take (st.length - p)++[(o.fk s e[k] st).1]):=by
  unfold o.stepG;rw[ay,if_neg g4,if_neg g5];simp only[Int.toNat_natCast]
 have iq:(st.take (st.length - p)++[(o.fk s e[k] st).1]).length=st.length - p+1:=by simp[List.length_take]
 rw[iq] at eH;have fin:p=0\/p=1\/p=2:=by omega
 rcases fin with zz | zz | zz
 .have ax:=agn (s:=s) (st:=st) (x:=e[k]) (by omega);obtain⟨gj,z2,z3,z4⟩:=Kj (x:=e[k].op) (by omega);refine dm (i_ af (i_ ab (i_ bx b1))) ?_;refine R_ (c:=[_,_,_,_,_,_]) eE (Ext.refl _) rfl ?_;refine dm (i_ af (i_ ab (i_ bx b1))) ?_;refine P_ _ (fun w' e'=>aoN e[k] _ s w' um (h.ext (DM.trans e')) ⟨gj,z2⟩ z3 (st.getLastD 0)) ?_;rw[<-ax];refine dm (i_ af (i_ ab (i_ bx b1))) ?_;intro aP aj;refine dm (i_ af (i_ ab (i_ bx b1))) ?_;apply I_<;>intro g6;rotate_left
  .rw[if_pos g6] at eH;refine az ?_;rw[o.kind,ks (by rw[eH];exact g6),eH];exact ca
  rw[if_neg (by simpa using g6)] at eH;have eu:=fB.ext aj;refine dm (i_ af (i_ ab (i_ bx b1))) ?_;refine Y_ (cs:=[]) (by simp[List.range,List.range.loop,eW]) fun aR cF fy aA bH=>?_;have z12:=ao.size;have z23:=aj.size;have CF:=aA.size;have qI:mU w1.heap.size aR (.slice (some ⟨cF,0,none⟩) 0 0) []:=aW.empty (by omega) bH;have eR:=eu.ext aA;have dL:mU w1.heap.size aR (.slice _ (st.length - p) _) (st.take (st.length - p)):=aW.head (enc:=encI) (sz:=1) (xs:=st) (fun _=>rfl) eR (st.length - p) (Nat.sub_le _ _);have ch:(st.take (st.length - p)).length=st.length - p:=by simp[List.length_take]
  refine dm (i_ af (i_ ab (i_ bx b1))) ?_;refine _M (st.length - p) (by refine cg bx ?_;first | rfl | (congr 1;omega)) (by omega) ?_;refine az ?_;refine _j (xs:=[]) (ys:=st.take (st.length - p)) qI dL (fun _=>rfl) rB (by rw[ch];simp only[List.length_nil];omega) (by rw[ch];simp only[List.length_nil,maxLen];omega) (by omega) fun v5 bq mD iE=>?_;have nX:Ext aP bq:=aA.grown iE fun q au=>by simp[Value.ownBlock] at au;omega
  rw[List.nil_append] at mD;have z35:=nX.size;refine az ?_;refine Y_ (cs:=[(o.fk s e[k] st).1].flatMap encI) (by simp[List.range,List.range.loop,eW,lay,dp,bL,Value.cells,encI]) fun bB dP fX aT b4=>?_;have Ap:=aT.size;have dB:=mD.ext aT;refine az ?_;refine _U (xs:=st.take (st.length - p)) (ys:=[(o.fk s e[k] st).1]) dB (fun _=>rfl) (hA b4) rfl rB (by rw[ch];simp only[List.length_cons,List.length_nil];omega) (by rw[ch];simp only[List.length_cons,List.length_nil,maxLen];omega) (by omega) fun Cx bQ dS lb=>?_;have bz:Ext w1 bQ:=Ext.grown (((ao.trans aj).trans nX).trans aT) lb fun q au=>(dB.lt q au).1;obtain⟨Fh,mZ,rfl,_⟩:=dS.form;rw[iq] at dS ⊢;by_cases g7:12<st.length - p+1
  .rw[if_pos (by omega)] at eH
   first
    | (exfalso;omega)
    | (refine az ?_
       rw[o.kind,ks (by rw[eH];simp),eH];exact⟨aU,al.trans bz⟩)
  rw[if_neg (by omega)] at eH;refine dm b1 ?_;refine⟨aZ,aU,_,_,rfl,dS,by rw[ui,eH],fun _=>by rw[iq];omega,by rw[iq];omega,bz⟩
 .have ax:=ago (s:=s) (st:=st) (x:=e[k]) (by omega) (by omega);obtain⟨mW,rfl⟩:=U.addr;refine dm (i_ af (i_ ab (i_ bx b1))) ?_;refine K_ (st.length - 1) (by omega) (by omega) ?_;refine dm (i_ af (i_ ab (i_ bx b1))) ?_;refine R_ (c:=[_,_,_,_,_,_]) eE (Ext.refl _) rfl ?_;refine dm (i_ af (i_ ab (i_ bx b1))) ?_;refine P_ _ (fun w' e'=>aoT e[k] _ _ s w' (h.ext (DM.trans e')) (Z8 (by omega))) ?_;rw[<-ax];refine dm (i_ af (i_ ab (i_ bx b1))) ?_;intro aP aj;refine dm (i_ af (i_ ab (i_ bx b1))) ?_;apply I_<;>intro g6;rotate_left
  .rw[if_pos g6] at eH;refine az ?_;rw[o.kind,ks (by rw[eH];exact g6),eH];exact ca
  rw[if_neg (by simpa using g6)] at eH;have eu:=fB.ext aj;refine dm (i_ af (i_ ab (i_ bx b1))) ?_;refine Y_ (cs:=[]) (by simp[List.range,List.range.loop,eW]) fun aR cF fy aA bH=>?_;have z12:=ao.size;have z23:=aj.size;have CF:=aA.size;have qI:mU w1.heap.size aR (.slice (some ⟨cF,0,none⟩) 0 0) []:=aW.empty (by omega) bH;have eR:=eu.ext aA;have dL:mU w1.heap.size aR (.slice _ (st.length - p) _) (st.take (st.length - p)):=aW.head (enc:=encI) (sz:=1) (xs:=st) (fun _=>rfl) eR (st.length - p) (Nat.sub_le _ _);have ch:(st.take (st.length - p)).length=st.length - p:=by simp[List.length_take]
  refine dm (i_ af (i_ ab (i_ bx b1))) ?_;refine _M (st.length - p) (by refine cg bx ?_;first | rfl | (congr 1;omega)) (by omega) ?_;refine az ?_;refine _j (xs:=[]) (ys:=st.take (st.length - p)) qI dL (fun _=>rfl) rB (by rw[ch];simp only[List.length_nil];omega) (by rw[ch];simp only[List.length_nil,maxLen];omega) (by omega) fun v5 bq mD iE=>?_;have nX:Ext aP bq:=aA.grown iE fun q au=>by simp[Value.ownBlock] at au;omega
  rw[List.nil_append] at mD;have z35:=nX.size;refine az ?_;refine Y_ (cs:=[(o.fk s e[k] st).1].flatMap encI) (by simp[List.range,List.range.loop,eW,lay,dp,bL,Value.cells,encI]) fun bB dP fX aT b4=>?_;have Ap:=aT.size;have dB:=mD.ext aT;refine az ?_;refine _U (xs:=st.take (st.length - p)) (ys:=[(o.fk s e[k] st).1]) dB (fun _=>rfl) (hA b4) rfl rB (by rw[ch];simp only[List.length_cons,List.length_nil];omega) (by rw[ch];simp only[List.length_cons,List.length_nil,maxLen];omega) (by omega) fun Cx bQ dS lb=>?_;have bz:Ext w1 bQ:=Ext.grown (((ao.trans aj).trans nX).trans aT) lb fun q au=>(dB.lt q au).1;obtain⟨Fh,mZ,rfl,_⟩:=dS.form;rw[iq] at dS ⊢;by_cases g7:12<st.length - p+1
  .rw[if_pos (by omega)] at eH
   first
    | (exfalso;omega)
    | (refine az ?_
       rw[o.kind,ks (by rw[eH];simp),eH];exact⟨aU,al.trans bz⟩)
  rw[if_neg (by omega)] at eH;refine dm b1 ?_;refine⟨aZ,aU,_,_,rfl,dS,by rw[ui,eH],fun _=>by rw[iq];omega,by rw[iq];omega,bz⟩
 .have ax:=agp (s:=s) (st:=st) (x:=e[k]) (by omega) (by omega);obtain⟨mW,rfl⟩:=U.addr;refine dm (i_ af (i_ ab (i_ bx b1))) ?_;refine K_ (st.length - 2) (by omega) (by omega) ?_;refine dm (i_ af (i_ ab (i_ bx b1))) ?_;refine K_ (st.length - 1) (by omega) (by omega) ?_;refine dm (i_ af (i_ ab (i_ bx b1))) ?_;refine P_ _ (fun w' e'=>(aoZ e[k].op _ _ w' (Kk (by omega))).mono fun v bK h=>⟨h.1,h.2 ▸ Ext.refl _⟩) ?_;rw[<-ax];refine dm (i_ af (i_ ab (i_ bx b1))) ?_;intro aP aj;refine dm (i_ af (i_ ab (i_ bx b1))) ?_;apply I_<;>intro g6;rotate_left
  .rw[if_pos g6] at eH;refine az ?_;rw[o.kind,ks (by rw[eH];exact g6),eH];exact ca
  rw[if_neg (by simpa using g6)] at eH;have eu:=fB.ext aj;refine dm (i_ af (i_ ab (i_ bx b1))) ?_;refine Y_ (cs:=[]) (by simp[List.range,List.range.loop,eW]) fun aR cF fy aA bH=>?_;have z12:=ao.size;have z23:=aj.size;have CF:=aA.size;have qI:mU w1.heap.size aR (.slice (some ⟨cF,0,none⟩) 0 0) []:=aW.empty (by omega) bH;have eR:=eu.ext aA;have dL:mU w1.heap.size aR (.slice _ (st.length - p) _) (st.take (st.length - p)):=aW.head (enc:=encI) (sz:=1) (xs:=st) (fun _=>rfl) eR (st.length - p) (Nat.sub_le _ _);have ch:(st.take (st.length - p)).length=st.length - p:=by simp[List.length_take]
  refine dm (i_ af (i_ ab (i_ bx b1))) ?_;refine _M (st.length - p) (by refine cg bx ?_;first | rfl | (congr 1;omega)) (by omega) ?_;refine az ?_;refine _j (xs:=[]) (ys:=st.take (st.length - p)) qI dL (fun _=>rfl) rB (by rw[ch];simp only[List.length_nil];omega) (by rw[ch];simp only[List.length_nil,maxLen];omega) (by omega) fun v5 bq mD iE=>?_;have nX:Ext aP bq:=aA.grown iE fun q au=>by simp[Value.ownBlock] at au;omega
  rw[List.nil_append] at mD;have z35:=nX.size;refine az ?_;refine Y_ (cs:=[(o.fk s e[k] st).1].flatMap encI) (by simp[List.range,List.range.loop,eW,lay,dp,bL,Value.cells,encI]) fun bB dP fX aT b4=>?_;have Ap:=aT.size;have dB:=mD.ext aT;refine az ?_;refine _U (xs:=st.take (st.length - p)) (ys:=[(o.fk s e[k] st).1]) dB (fun _=>rfl) (hA b4) rfl rB (by rw[ch];simp only[List.length_cons,List.length_nil];omega) (by rw[ch];simp only[List.length_cons,List.length_nil,maxLen];omega) (by omega) fun Cx bQ dS lb=>?_;have bz:Ext w1 bQ:=Ext.grown (((ao.trans aj).trans nX).trans aT) lb fun q au=>(dB.lt q au).1;obtain⟨Fh,mZ,rfl,_⟩:=dS.form;rw[iq] at dS ⊢;by_cases g7:12<st.length - p+1
  .rw[if_pos (by omega)] at eH
   first
    | (exfalso;omega)
    | (refine az ?_
       rw[o.kind,ks (by rw[eH];simp),eH];exact⟨aU,al.trans bz⟩)
  rw[if_neg (by omega)] at eH;refine dm b1 ?_;refine⟨aZ,aU,_,_,rfl,dS,by rw[ui,eH],fun _=>by rw[iq];omega,by rw[iq];omega,bz⟩
theorem Cg(gI:B_)(e:C_ o.Node)(k:Int)(cs:C_ B_)(s:o.Scope)(w:A_)(ay:o.eV w gI e)(h:o.fJ w cs s) :
  a7 Tryz.prog F.JS #[gI,.int .i64 k,.agg cs.toArray] w fun v w'=>v = .int .i64 (o.asked e k s)/\Ext w w':=by
 obtain⟨a0,bw,df,c1,a2,c2,a3,br,a4,bF,rfl,_⟩:=h.form;obtain⟨aQ,cap,rfl,_⟩:=ay.form;refine bn E.JS ?_;refine J ?_;intro w1 bo cT al ai;refine J ?_;refine J_ (aaR _ e _ s w1 (ay.ext al) (h.ext al)) ?_;rintro _ aH ⟨rfl,ao⟩;rw[o.asked];refine J ?_;apply I_<;>intro g1;rotate_left
 .refine J ?_;exact⟨by rw[if_pos g1],al.trans ao⟩
 rw[if_neg (by simpa using g1)];refine J ?_;apply I_<;>intro g2;rotate_left
 .refine J ?_;exact⟨by rw[if_pos g2],al.trans ao⟩
 .refine J ?_;exact⟨by rw[if_neg (by simpa using g2)],al.trans ao⟩
theorem Jh(n:Int)(w:A_)(h:0<=n/\n<=4611686018427387904):a7 Tryz.prog F.E1 #[.int .i64 n] w fun v w'=>v = .int .i64 (if n=0 then 0 else 1+n)/\w'=w:=Jg n w h
theorem P6(v:B_)(l:C_ o.Var)(n:Int)(cs:C_ B_)(s:o.Scope)(w:A_)(aF:o.hP w v l)(h:o.fJ w cs s) :
  a7 Tryz.prog F.JU #[v,.int .i64 n,.agg cs.toArray] w fun v w'=>v = .tuple #[.int .i64 (o.lr l n s).1,.int .i64 (o.lr l n s).2]/\Ext w w':=by
 obtain⟨a0,bw,df,c1,a2,c2,a3,br,a4,bF,rfl,_,_,_,_,_,eU,ek,ev,ef,ew⟩:=h.form;obtain⟨aQ,cap,rfl,_⟩:=aF.form;refine bn E.JU ?_;refine J ?_;intro w1 bo cT al ai;refine J ?_;refine J_ (FA _ l n _ s w1 (aF.ext al) (h.ext al)) ?_;rintro u aH ⟨⟨x,hu,ag⟩,ao⟩;cases hk:(o.fY l n s).2.2 with
 | false =>
  rw[hk] at hu;subst hu;refine J ?_;intro aP b0 fW aj bu;refine J ?_;exact⟨by rw[o.lr,o.Vv hk],(al.trans ao).trans aj⟩
 | true =>
  rw[hk] at hu;subst hu;obtain⟨a6,dZ,eK,e5,fu⟩:=o.Vx hk (ag hk);have hh:o.lr l n s=if x.over≠0 then (0,9) else ((if x.scalar=0 then 0 else 1+x.scalar),0):=by unfold o.lr;rw[a6]
  refine J ?_;intro aP b0 fW aj bu;refine J ?_;apply I_<;>intro g1
  .rw[if_neg (by simpa using g1)] at hh;refine J ?_;refine J_ (Jh _ aP ⟨dZ,by omega⟩) ?_;rintro _ _ ⟨rfl,rfl⟩;refine J ?_;exact⟨by rw[hh],(al.trans ao).trans aj⟩
  .rw[if_pos g1] at hh;refine J ?_;exact⟨by rw[hh],(al.trans ao).trans aj⟩
theorem ak3(a:o.Act)(bM b7:B_)(cs:C_ B_)(s:o.Scope)(w:A_)(U:o.eV w bM a.index)(aG:o.eV w b7 a.value)(h:o.fJ w cs s) :
  a7 Tryz.prog F.JT #[.agg (a.enc bM b7).toArray,.agg cs.toArray] w fun v w'=>v = .int .i64 (o.zH a s)/\Ext w w':=by
 obtain⟨a0,bw,df,c1,a2,c2,a3,br,a4,bF,rfl,_,OP,_,_,_,eU,ek,ev,ef,ew⟩:=h.form;obtain⟨_,_,rfl,_⟩:=U.form;obtain⟨_,_,rfl,_⟩:=aG.form;refine bn E.JT ?_;refine J ?_;intro w1 bo cT al ai;refine J ?_;intro aH bR dt ao av;replace ai:=ao.obj ai;have c7:∀{w'},Ext aH w'->Ext w w':=fun e=>(al.trans ao).trans e;refine J ?_;refine J_ (FA _ s.vars a.to _ s aH (OP.ext (c7 (Ext.refl _))) (h.ext (c7 (Ext.refl _)))) ?_;rintro u aP ⟨⟨x,hu,ag⟩,aj⟩;replace ai:=aj.obj ai;replace av:=aj.obj av;cases hk:(o.fY s.vars a.to s).2.2 with
 | false =>
  rw[hk] at hu;subst hu;refine J ?_;intro aR cF fy aA bH;refine J ?_;exact⟨by rw[o.zH,o.Vv hk],c7 (aj.trans aA)⟩
 | true =>
  rw[hk] at hu;subst hu;obtain⟨a6,dZ,eK,e5,fu⟩:=o.Vx hk (ag hk);have hh:o.zH a s=if x.over=0 then 9 else if o.asked a.index (1+x.over) s≠0 then o.asked a.index (1+x.over) s else o.asked a.value (if x.scalar=0 then 0 else 1+x.scalar) s:=by unfold o.zH;rw[a6]
  refine J ?_;intro aR cF fy aA bH;replace ai:=aA.obj ai;replace av:=aA.obj av;have eA:∀{w'},Ext aR w'->Ext w w':=fun e=>c7 ((aj.trans aA).trans e);refine J ?_;apply I_<;>intro g1
  .rw[if_pos g1] at hh;refine J ?_;exact⟨by rw[hh],eA (Ext.refl _)⟩
  rw[if_neg g1] at hh;refine J ?_;refine J_ (Cg _ a.index (1+x.over) _ s aR (U.ext (eA (Ext.refl _))) (h.ext (eA (Ext.refl _)))) ?_;rintro _ bq ⟨rfl,aJ⟩;replace ai:=aJ.obj ai;replace av:=aJ.obj av;replace bH:=aJ.obj bH;have jM:∀{w'},Ext bq w'->Ext w w':=fun e=>eA (aJ.trans e);refine J ?_;apply I_<;>intro g2;rotate_left
  .rw[if_pos g2] at hh;refine J ?_;exact⟨by rw[hh],jM (Ext.refl _)⟩
  rw[if_neg (by simpa using g2)] at hh;refine J ?_;refine P_ (.int .i64 (if x.scalar=0 then 0 else 1+x.scalar)) (fun w' e=>(Jh _ w' ⟨dZ,by omega⟩).mono fun v bK cU=>⟨cU.1,by rw[cU.2];exact Ext.refl _⟩) ?_;refine J ?_;refine P_ (.int .i64 (o.zH a s)) (fun w' e=>by rw[hh];exact Cg _ a.value _ _ s w' (aG.ext (jM e)) (h.ext (jM e))) ?_;refine J ?_;intro bB aT;refine J ?_;exact⟨aU,jM aT⟩
theorem aaN(a:o.Act)(comm:Bool)(bM b7:B_)(cs:C_ B_)(s:o.Scope)(w:A_)(U:o.eV w bM a.index)(aG:o.eV w b7 a.value)(h:o.fJ w cs s) :
  a7 Tryz.prog F.JR #[.agg (a.enc bM b7).toArray,.agg cs.toArray,.bool comm] w fun v w'=>v = .int .i64 (o.lv a s comm)/\Ext w w':=by
 obtain⟨a0,bw,df,c1,a2,c2,a3,br,a4,bF,rfl,_,OP,_,_,kQ,eU,ek,ev,ef,ew⟩:=h.form;obtain⟨_,_,rfl,_⟩:=U.form;obtain⟨_,_,rfl,_⟩:=aG.form;refine bn E.JR ?_;refine J ?_;intro w1 bo cT al ai;refine J ?_;intro aH bR dt ao av;replace ai:=ao.obj ai;have c7:∀{w'},Ext aH w'->Ext w w':=fun e=>(al.trans ao).trans e;refine J ?_;apply I_<;>intro g1
 .refine J ?_;exact⟨by rw[o.lv,if_pos (.inl g1)],c7 (Ext.refl _)⟩
 refine J ?_;apply I_<;>intro g2
 .refine J ?_;exact⟨by rw[o.lv,if_pos (.inr g2)],c7 (Ext.refl _)⟩
 have rF:¬(a.kind<1\/5<a.kind):=by omega
 refine J ?_;apply I_<;>intro g3
 .refine J ?_;refine J_ (ak3 a _ _ _ s aH (U.ext (c7 (Ext.refl _))) (aG.ext (c7 (Ext.refl _))) (h.ext (c7 (Ext.refl _)))) ?_;rintro _ aP ⟨rfl,aj⟩;refine J ?_;exact⟨by rw[o.lv,if_neg rF,if_pos g3],c7 aj⟩
 refine J ?_;apply I_<;>intro g4
 .have aL:o.lv a s comm=if (o.lr s.vars a.to s).2≠0 then (o.lr s.vars a.to s).2 else o.asked a.value (o.lr s.vars a.to s).1 s:=by
   rw[o.lv,if_neg rF,if_neg g3,if_pos (.inl g4)];simp only[if_neg (by omega:¬a.kind=3)]
  refine J ?_;refine J_ (P6 _ s.vars a.to _ s aH (OP.ext (c7 (Ext.refl _))) (h.ext (c7 (Ext.refl _)))) ?_;rintro _ aP ⟨rfl,aj⟩;replace ai:=aj.obj ai;replace av:=aj.obj av;refine J ?_;apply I_<;>intro g5;rotate_left
  .rw[if_pos g5] at aL;refine J ?_;exact⟨by rw[aL],c7 aj⟩
  rw[if_neg (by simpa using g5)] at aL;refine J ?_;refine J_ (Cg _ a.value _ _ s aP (aG.ext (c7 aj)) (h.ext (c7 aj))) ?_;rintro _ aR ⟨rfl,aA⟩;refine J ?_;exact⟨by rw[aL],c7 (aj.trans aA)⟩
 refine J ?_;apply I_<;>intro g5
 .have aL:o.lv a s comm=if (o.lr s.locals a.to s).2≠0 then (o.lr s.locals a.to s).2 else o.asked a.value (o.lr s.locals a.to s).1 s:=by
   rw[o.lv,if_neg rF,if_neg g3,if_pos (.inr g5)];simp only[if_pos g5]
  refine J ?_;refine J_ (P6 _ s.locals a.to _ s aH (kQ.ext (c7 (Ext.refl _))) (h.ext (c7 (Ext.refl _)))) ?_;rintro _ aP ⟨rfl,aj⟩;replace ai:=aj.obj ai;replace av:=aj.obj av;refine J ?_;apply I_<;>intro g5;rotate_left
  .rw[if_pos g5] at aL;refine J ?_;exact⟨by rw[aL],c7 aj⟩
  rw[if_neg (by simpa using g5)] at aL;refine J ?_;refine J_ (Cg _ a.value _ _ s aP (aG.ext (c7 aj)) (h.ext (c7 aj))) ?_;rintro _ aR ⟨rfl,aA⟩;refine J ?_;exact⟨by rw[aL],c7 (aj.trans aA)⟩
 have DN:¬(a.kind=1\/a.kind=3):=by omega
 refine J ?_;refine N_ (fun g6=>?_) (fun g6=>?_)
 .refine J ?_;exact⟨by rw[o.lv,if_neg rF,if_neg g3,if_neg DN,if_pos g6],c7 (Ext.refl _)⟩
 refine J ?_;refine J_ (aaO a.to _ s aH (h.ext (c7 (Ext.refl _)))) ?_;rintro u aP ⟨⟨x,hu,ag⟩,aj⟩;replace ai:=aj.obj ai;replace av:=aj.obj av;by_cases hk:(o.j8 a.to s).2=0;rotate_left
 .rw[decide_eq_false hk] at hu;subst hu;refine J ?_;intro aR cF fy aA bH;refine J ?_;exact⟨by rw[o.lv,if_neg rF,if_neg g3,if_neg DN,if_neg (by simp[g6]),o.aey hk],c7 (aj.trans aA)⟩
 rw[decide_eq_true hk] at hu;subst hu;obtain⟨a6,dZ,eK⟩:=o.aeA hk (ag hk);have aL:o.lv a s comm=if a.kind=4 then o.asked a.value (if x.scalar=0 then 0 else 1+x.scalar) s else if (o.lr s.locals a.loc s).2≠0 then (o.lr s.locals a.loc s).2 else if (o.lr s.locals a.loc s).1≠(if x.scalar=0 then 0 else 1+x.scalar) then 9 else 0:=by
  rw[o.lv,if_neg rF,if_neg g3,if_neg DN,if_neg (by simp[g6]),a6]
 refine J ?_;intro aR cF fy aA bH;replace ai:=aA.obj ai;replace av:=aA.obj av;have eA:∀{w'},Ext aR w'->Ext w w':=fun e=>c7 ((aj.trans aA).trans e);refine J ?_;apply I_<;>intro g7
 .rw[if_pos g7] at aL;refine J ?_;refine P_ (.int .i64 (if x.scalar=0 then 0 else 1+x.scalar)) (fun w' e=>(Jh _ w' ⟨dZ,by omega⟩).mono fun v bK cU=>⟨cU.1,by rw[cU.2];exact Ext.refl _⟩) ?_;refine J ?_;refine P_ (.int .i64 (o.lv a s comm)) (fun w' e=>by rw[aL];exact Cg _ a.value _ _ s w' (aG.ext (eA e)) (h.ext (eA e))) ?_;refine J ?_;intro bB aT;refine J ?_;exact⟨aU,eA aT⟩
 rw[if_neg g7] at aL;refine J ?_;refine J_ (P6 _ s.locals a.loc _ s aR (kQ.ext (eA (Ext.refl _))) (h.ext (eA (Ext.refl _)))) ?_;rintro _ bq ⟨rfl,aJ⟩;replace bH:=aJ.obj bH;refine J ?_;apply I_<;>intro g8;rotate_left
 .rw[if_pos g8] at aL;refine J ?_;exact⟨by rw[aL],eA aJ⟩
 rw[if_neg (by simpa using g8)] at aL;refine J ?_;refine J_ (Jh _ bq ⟨dZ,by omega⟩) ?_;rintro _ _ ⟨rfl,rfl⟩;refine J ?_;apply I_<;>intro g9
 .rw[if_neg (by simpa using g9)] at aL;refine J ?_;exact⟨by rw[aL],eA aJ⟩
 .rw[if_pos g9] at aL;refine J ?_;exact⟨by rw[aL],eA aJ⟩
end Go.Proofs.R
end
section
namespace o
theorem Us{s:Scope}{a:Act}{k:Nat}{b:Bool}{Z:Int×Int}:(if hX a&&b then ((2+(k:Int)),(7:Int)) else if kg a s≠0 then (2+(k:Int),kg a s) else Z)=if lv a s b≠0 then (2+(k:Int),lv a s b) else Z:=by
 rw[aoh];by_cases h:(hX a&&b)=true
 .simp[h]
 .simp[h]
end o
namespace Go.Proofs.R
open Go Go.RowKit bb
theorem aon(c:o.dI)(gu ea:B_)(p:o.dz)(ps q0:B_)(cs:C_ B_)(s:o.Scope)(w:A_)(ay:o.jo c.name)(aK:o.eV w gu c.guard)(aV:o.mQ w ea c.bY)
  (aG:o.hP w ps p.vars)(ah:o.rk w q0 p.cL)(h:o.fJ w cs s) :
  a7 Tryz.prog F.JQ #[.agg (c.enc gu ea).toArray,.agg (p.enc ps q0).toArray,.agg cs.toArray] w fun v w' =>
   v = .tuple #[.int .i64 (o.jg c p.b8 s).1,.int .i64 (o.jg c p.b8 s).2]/\Ext w w':=by
 obtain⟨a0,bw,df,c1,a2,c2,a3,br,a4,bF,rfl,_⟩:=h.form;obtain⟨aQ,cap,rfl,hlen⟩:=aV.form;obtain⟨gy,ad7,rfl,ajj⟩:=aK.form;obtain⟨_,_,rfl,_⟩:=aG.form;obtain⟨_,_,rfl,_⟩:=ah.form;refine bn E.JQ ?_;refine J ?_;intro w1 bo cT al ai;refine J ?_;intro aH bR dt ao av;refine J ?_;intro aP b0 fW aj bu;replace ai:=(ao.trans aj).obj ai;replace av:=aj.obj av;have fv:∀{w'},Ext aP w'->Ext w w':=fun e=>((al.trans ao).trans aj).trans e;refine J ?_;refine J_ (Ci c.name aP ay) ?_;rintro u aR ⟨hu,aA⟩;replace ai:=aA.obj ai;replace av:=aA.obj av;replace bu:=aA.obj bu;have eA:∀{w'},Ext aR w'->Ext w w':=fun e=>fv (aA.trans e);have a6:∀n,o.head c p.b8=n->n≠0->o.jg c p.b8 s=(0,n):=fun n e af=>by unfold o.jg;rw[e,if_pos af]
 cases fN:o.isName c.name with
 | false =>
  rw[fN] at hu;subst hu;refine J ?_;exact⟨by rw[a6 6 (by unfold o.head;rw[if_pos fN]) (by decide)],eA (Ext.refl _)⟩
 | true =>
  rw[fN] at hu;subst hu;have pj:¬o.isName c.name=false:=by rw[fN];simp
  refine J ?_;apply I_<;>intro g1
  .refine J ?_;exact⟨by rw[a6 10 (by unfold o.head;rw[if_neg pj,if_pos (by omega)]) (by decide)],eA (Ext.refl _)⟩
  refine J ?_;apply I_<;>intro g2
  .refine J ?_;exact⟨by rw[a6 10 (by unfold o.head;rw[if_neg pj,if_pos (by omega)]) (by decide)],eA (Ext.refl _)⟩
  refine J ?_;apply I_<;>intro g3
  .refine J ?_;exact⟨by rw[a6 10 (by unfold o.head;rw[if_neg pj,if_pos (by omega)]) (by decide)],eA (Ext.refl _)⟩
  refine J ?_;apply I_<;>intro g4
  .refine J ?_;exact⟨by rw[a6 10 (by unfold o.head;rw[if_neg pj,if_pos (by omega)]) (by decide)],eA (Ext.refl _)⟩
  have hg:¬(c.from_<0\/p.b8<=c.from_\/c.to<0\/p.b8<=c.to):=by omega
  refine J ?_;apply I_<;>intro g5
  .refine J ?_;exact⟨by rw[a6 11 (by unfold o.head;rw[if_neg pj,if_neg hg,if_pos (by omega)]) (by decide)],eA (Ext.refl _)⟩
  have BR:o.jg c p.b8 s=if c.guard.length > 0/\o.asked c.guard 1 s≠0 then (1,o.asked c.guard 1 s) else o.kC s c.bY 0 false:=by
   unfold o.jg;rw[if_neg];unfold o.head;rw[if_neg pj,if_neg hg,if_neg (by omega)];simp
  clear a6;refine J ?_;apply I_<;>intro g6
  .refine J ?_;refine J_ (Cg _ c.guard 1 _ s aR (aK.ext (eA (Ext.refl _))) (h.ext (eA (Ext.refl _)))) ?_;rintro _ bq ⟨rfl,aJ⟩;replace ai:=aJ.obj ai;replace bu:=aJ.obj bu;have jM:∀{w'},Ext bq w'->Ext w w':=fun e=>eA (aJ.trans e);refine J ?_;apply I_<;>intro g7;rotate_left
   .rw[if_pos ⟨by omega,g7⟩] at BR;refine J ?_;exact⟨by rw[BR],jM (Ext.refl _)⟩
   have aL:o.jg c p.b8 s=o.kC s c.bY 0 false:=by rw[BR,if_neg (fun cU=>cU.2 (by simpa using g7))]
   refine J ?_;refine L_ 10 c.bY.length [3,4,5] (fun b=>[(9,.bool b)]) false (fun k b w'=>Ext bq w'/\o.kC s c.bY 0 false=o.kC s (c.bY.drop k) k b) bc bc ⟨Ext.refl _,by simp⟩ ?_;rintro k b S bB hk ⟨aT,a8⟩;replace ai:=aT.obj ai;replace bu:=aT.obj bu;refine J ?_;apply I_<;>intro g1
   .have aZ:k<c.bY.length:=by omega
    obtain⟨a,rfl⟩:=aV.addr;obtain⟨bM,b7,gC,fp,qV⟩:=aV.at k aZ;obtain⟨_,_,rfl,_⟩:=fp.form;obtain⟨_,_,rfl,_⟩:=qV.form;rw[o.LL aZ,o.Us] at a8;replace gC:=gC.ext (jM (Ext.refl _));refine J ?_;refine P_ (.int .i64 (o.lv c.bY[k] s b)) (fun w' e=>aaN c.bY[k] b _ _ _ s w' (fp.ext (jM (aT.trans e))) (qV.ext (jM (aT.trans e))) (h.ext (jM (aT.trans e)))) ?_;refine J ?_;intro bQ bz;replace ai:=bz.obj ai;replace bu:=bz.obj bu;refine J ?_;apply I_<;>intro g2;rotate_left
    .rw[if_pos g2] at a8;refine J ?_;exact⟨by rw[aL,a8],jM (aT.trans bz)⟩
    rw[if_neg (by simpa using g2)] at a8;refine J ?_;refine N_ (fun g3=>?_) (fun g3=>?_)
    .subst g3;refine J ?_;exact⟨aZ,aU,true,bc,aT.trans bz,by simpa using a8⟩
    subst g3;refine J ?_;apply I_<;>intro g4
    .have aB:o.hX c.bY[k]=true:=by unfold o.hX;rw[decide_eq_true_eq];omega
     refine J ?_;exact⟨aZ,aU,true,bc,aT.trans bz,by simpa[aB] using a8⟩
    have aB:o.hX c.bY[k]=decide (c.bY[k].kind=5):=by unfold o.hX;rw[Bool.eq_iff_iff,decide_eq_true_eq,decide_eq_true_eq];omega
    rw[Bool.false_or,aB] at a8;refine J ?_;exact⟨aZ,aU,decide (c.bY[k].kind=5),bc,aT.trans bz,a8⟩
   .rw[List.drop_eq_nil_of_le (by omega)] at a8;refine J ?_;exact⟨by rw[aL,a8];rfl,jM aT⟩
  .have aL:o.jg c p.b8 s=o.kC s c.bY 0 false:=by rw[BR,if_neg (fun cU=>g6 (by omega))]
   refine J ?_;refine L_ 10 c.bY.length [3,4,5] (fun b=>[(9,.bool b)]) false (fun k b w'=>Ext aR w'/\o.kC s c.bY 0 false=o.kC s (c.bY.drop k) k b) bc bc ⟨Ext.refl _,by simp⟩ ?_;rintro k b S bB hk ⟨aT,a8⟩;replace ai:=aT.obj ai;replace bu:=aT.obj bu;refine J ?_;apply I_<;>intro g1
   .have aZ:k<c.bY.length:=by omega
    obtain⟨a,rfl⟩:=aV.addr;obtain⟨bM,b7,gC,fp,qV⟩:=aV.at k aZ;obtain⟨_,_,rfl,_⟩:=fp.form;obtain⟨_,_,rfl,_⟩:=qV.form;rw[o.LL aZ,o.Us] at a8;replace gC:=gC.ext (eA (Ext.refl _));refine J ?_;refine P_ (.int .i64 (o.lv c.bY[k] s b)) (fun w' e=>aaN c.bY[k] b _ _ _ s w' (fp.ext (eA (aT.trans e))) (qV.ext (eA (aT.trans e))) (h.ext (eA (aT.trans e)))) ?_;refine J ?_;intro bQ bz;replace ai:=bz.obj ai;replace bu:=bz.obj bu;refine J ?_;apply I_<;>intro g2;rotate_left
    .rw[if_pos g2] at a8;refine J ?_;exact⟨by rw[aL,a8],eA (aT.trans bz)⟩
    rw[if_neg (by simpa using g2)] at a8;refine J ?_;refine N_ (fun g3=>?_) (fun g3=>?_)
    .subst g3;refine J ?_;exact⟨aZ,aU,true,bc,aT.trans bz,by simpa using a8⟩
    subst g3;refine J ?_;apply I_<;>intro g4
    .have aB:o.hX c.bY[k]=true:=by unfold o.hX;rw[decide_eq_true_eq];omega
     refine J ?_;exact⟨aZ,aU,true,bc,aT.trans bz,by simpa[aB] using a8⟩
    have aB:o.hX c.bY[k]=decide (c.bY[k].kind=5):=by unfold o.hX;rw[Bool.eq_iff_iff,decide_eq_true_eq,decide_eq_true_eq];omega
    rw[Bool.false_or,aB] at a8;refine J ?_;exact⟨aZ,aU,decide (c.bY[k].kind=5),bc,aT.trans bz,a8⟩
   .rw[List.drop_eq_nil_of_le (by omega)] at a8;refine J ?_;exact⟨by rw[aL,a8];rfl,eA aT⟩
theorem aoX(p:o.dz)(Fl cs:C_ B_)(s:o.Scope)(w:A_)(ar:o.w6 w Fl p)(h:o.fJ w cs s)(aK:s.cN)(oH:p.cN) :
  a7 Tryz.prog F.E4 #[.agg Fl.toArray,.agg cs.toArray] w fun v w'=>v = .tuple #[.int .i64 (o.hU p s).1,.int .i64 (o.hU p s).2.1,.int .i64 (o.hU p s).2.2]/\Ext w w':=by
 obtain⟨a0,bw,df,c1,a2,c2,a3,d3,a4,d4,rfl,af,h1,I,ab,aD,eU,ek,ev,ef,ew⟩:=h.form;obtain⟨ay,ps,q0,rfl,aG,ni⟩:=ar;obtain⟨b2,br,rfl,fH⟩:=aG.form;obtain⟨cj,bF,rfl,lc⟩:=ni.form;refine bn E.E4 ?_;refine J ?_;intro w1 bo cT al ai;refine J ?_;intro aH bR dt ao av;replace ai:=ao.obj ai;have c7:∀{w'},Ext aH w'->Ext w w':=fun e=>(al.trans ao).trans e;refine J ?_;refine J_ (Ci p.name aH ay) ?_;rintro u aP ⟨hu,aj⟩;replace ai:=aj.obj ai;replace av:=aj.obj av;have fv:∀{w'},Ext aP w'->Ext w w':=fun e=>c7 (aj.trans e);have a6:∀n,o.whole p s=n->n≠0->o.hU p s=(0,0,n):=fun n e af=>by unfold o.hU;rw[e,if_pos af]
 cases fN:o.isName p.name with
 | false =>
  rw[fN] at hu;subst hu;refine J ?_;exact⟨by rw[a6 6 (by unfold o.whole;rw[if_pos fN]) (by decide)],fv (Ext.refl _)⟩
 | true =>
  rw[fN] at hu;subst hu;have pj:¬o.isName p.name=false:=by rw[fN];simp
  refine J ?_;apply I_<;>intro g1
  .refine J ?_;exact⟨by rw[a6 8 (by unfold o.whole;rw[if_neg pj,if_pos (.inl g1)]) (by decide)],fv (Ext.refl _)⟩
  refine J ?_;apply I_<;>intro g2
  .refine J ?_;exact⟨by rw[a6 8 (by unfold o.whole;rw[if_neg pj,if_pos (.inr (by omega))]) (by decide)],fv (Ext.refl _)⟩
  have lq:¬(p.over<0\/(s.scalars.length:Int)<p.over):=by omega
  refine J ?_;apply I_<;>intro g3
  .refine J ?_;exact⟨by rw[a6 10 (by unfold o.whole;rw[if_neg pj,if_neg lq,if_pos (.inl g3)]) (by decide)],fv (Ext.refl _)⟩
  refine J ?_;apply I_<;>intro g4
  .refine J ?_;exact⟨by rw[a6 10 (by unfold o.whole;rw[if_neg pj,if_neg lq,if_pos (.inr (by omega))]) (by decide)],fv (Ext.refl _)⟩
  have ku:¬(p.b8<1\/12<p.b8):=by omega
  refine J ?_;apply I_<;>intro g5
  .refine J ?_;exact⟨by rw[a6 11 (by unfold o.whole;rw[if_neg pj,if_neg lq,if_neg ku,if_pos (by omega)]) (by decide)],fv (Ext.refl _)⟩
  have aL:o.hU p s=if (o.lu p s).2≠0 then (1,(o.lu p s).1,(o.lu p s).2) else o.lC (o.inner p s) p.b8 p.cL p.cL 0:=by
   unfold o.hU;rw[if_neg];unfold o.whole;rw[if_neg pj,if_neg lq,if_neg ku,if_neg (by omega)];simp
  clear a6;refine J ?_;refine J_ (aaS _ _ p.vars s.scalars 4 aP (aG.ext (fv (Ext.refl _))) (af.ext (fv (Ext.refl _)))) ?_;rintro _ aR ⟨rfl,aA⟩;replace ai:=aA.obj ai;replace av:=aA.obj av;have eA:∀{w'},Ext aR w'->Ext w w':=fun e=>fv (aA.trans e);refine J ?_;apply I_<;>intro g6;rotate_left
  .have aF:o.lu p s=o.vars p.vars s.scalars 4:=by unfold o.lu;rw[if_pos g6]
   rw[aF,if_pos g6] at aL;refine J ?_;exact⟨by rw[aL],eA (Ext.refl _)⟩
  have aF:o.lu p s=o.qb s p.vars 0:=by unfold o.lu;rw[if_neg (by simpa using g6)]
  rw[aF] at aL;refine J ?_;refine L_ 9 p.vars.length [2,3] (fun _:Unit=>[]) () (fun k _ w'=>Ext aR w'/\o.qb s p.vars 0=o.qb s (p.vars.drop k) k) bc bc ⟨Ext.refl _,by simp⟩ ?_;rintro k _ S bq hk ⟨aJ,a8⟩;replace ai:=aJ.obj ai;replace av:=aJ.obj av;refine J ?_;apply I_<;>intro g7
  .have aZ:k<p.vars.length:=by omega
   obtain⟨a,rfl⟩:=aG.addr;have eo:=((aG.at k aZ).cells).ext (eA aJ);rw[o.ZJ aZ] at a8;refine J ?_;apply I_<;>intro g8;rotate_left
   .rw[if_pos g8] at a8;refine J ?_;exact⟨by rw[aL,a8];rfl,eA aJ⟩
   rw[if_neg (by simpa using g8)] at a8;refine J ?_;refine L_ 10 s.vars.length [2,3,9] (fun _:Unit=>[]) () (fun j _ w'=>Ext bq w'/\∀t (aB:t<s.vars.length),t<j->¬s.vars[t].name=p.vars[k].name) bc bc ⟨Ext.refl _,fun _ _ h=>absurd h (Nat.not_lt_zero _)⟩ ?_;rintro j _ aX bB aE ⟨aT,qJ⟩;replace ai:=aT.obj ai;replace av:=aT.obj av;have iM:∀{w'},Ext bB w'->Ext w w':=fun e=>eA ((aJ.trans aT).trans e);refine J ?_;apply I_<;>intro g9
   .have et:j<s.vars.length:=by omega
    obtain⟨cD,rfl⟩:=h1.addr;have gx:=((h1.at j et).cells).ext (iM (Ext.refl _));replace eo:=eo.ext aT;refine J ?_;intro bQ bz;replace ai:=bz.obj ai;replace av:=bz.obj av;refine J ?_;apply I_<;>intro g10
    .have zk:s.vars.any (fun x=>decide (x.name=p.vars[k].name))=true:=List.any_eq_true.2 ⟨s.vars[j],List.getElem_mem _,by simpa using g10⟩;rw[if_pos zk] at a8;refine J ?_;exact⟨by rw[aL,a8];rfl,iM bz⟩
    .refine J ?_;exact⟨et,aU,(),trivial,aT.trans bz,fun t aB h=>by
      by_cases e:t=j
      .subst e;exact g10
      .exact qJ t aB (by omega)⟩
   .have zk:¬s.vars.any (fun x=>decide (x.name=p.vars[k].name))=true:=by
     intro cU;obtain⟨x,ag,gp⟩:=List.any_eq_true.1 cU;obtain⟨t,aB,rfl⟩:=List.mem_iff_getElem.1 ag;exact qJ t aB (by omega) (by simpa using gp)
    rw[if_neg zk] at a8;refine J ?_;exact⟨aZ,aU,(),trivial,aJ.trans aT,a8⟩
  rw[List.drop_eq_nil_of_le (by omega)] at a8;replace aL:o.hU p s=o.lC (o.inner p s) p.b8 p.cL p.cL 0:=by rw[aL,a8];rfl
  clear a8 aF;have e9:∀w',Ext w w'->o.fJ w' [.slice a0 s.scalars.length bw,.slice df s.vars.length c1,.slice a2 s.aw.length c2,.slice a3 s.procs.length d3,.slice b2 p.vars.length br,.int .i64 p.over] (o.inner p s):=fun w' e =>
   ⟨(aK.inner oH).q7.1,_,_,_,_,_,rfl,af.ext e,h1.ext e,I.ext e,ab.ext e,aG.ext e,(aK.inner oH).q7.2⟩
  refine J ?_;intro bB b0 fW aT bu;replace ai:=aT.obj ai;replace av:=aT.obj av;have iM:∀{w'},Ext bB w'->Ext w w':=fun e=>eA ((aJ.trans aT).trans e);refine J ?_;refine L_ 12 p.cL.length [2,3,11] (fun _:Unit=>[]) () (fun k _ w'=>Ext bB w'/\o.lC (o.inner p s) p.b8 p.cL p.cL 0=o.lC (o.inner p s) p.b8 p.cL (p.cL.drop k) k) bc bc ⟨Ext.refl _,by simp⟩ ?_;rintro k _ S bQ hk ⟨bz,a8⟩;replace ai:=bz.obj ai;replace av:=bz.obj av;replace bu:=bz.obj bu;have gK:∀{w'},Ext bQ w'->Ext w w':=fun e=>iM (bz.trans e);refine J ?_;apply I_<;>intro g7
  .have aZ:k<p.cL.length:=by omega
   obtain⟨a,rfl⟩:=ni.addr;obtain⟨an,gu,ea,hf,x1,vW⟩:=ni.at k aZ;obtain⟨gy,ga,rfl,alN⟩:=x1.form;obtain⟨aQ,fD,rfl,p9⟩:=vW.form;rw[o.Vf aZ] at a8;replace hf:=hf.ext (gK (Ext.refl _));refine J ?_;refine P_ (.tuple #[.int .i64 (o.jg p.cL[k] p.b8 (o.inner p s)).1,.int .i64 (o.jg p.cL[k] p.b8 (o.inner p s)).2]) (fun w' e=>aon p.cL[k] _ _ p _ _ _ (o.inner p s) w' an (x1.ext (gK e)) (vW.ext (gK e)) (aG.ext (gK e)) (ni.ext (gK e)) (e9 _ (gK e))) ?_;refine J ?_;intro de bP;replace ai:=bP.obj ai;replace av:=bP.obj av;replace bu:=bP.obj bu;replace hf:=hf.ext bP;have ih:∀{w'},Ext de w'->Ext w w':=fun e=>gK (bP.trans e);refine J ?_;apply I_<;>intro g8;rotate_left
   .rw[if_pos g8] at a8;refine J ?_;exact⟨by rw[aL,a8],ih (Ext.refl _)⟩
   rw[if_neg (by simpa using g8)] at a8;refine J ?_;refine L_ 15 k [2,3,11,12] (fun _:Unit=>[]) () (fun j _ w'=>Ext de w'/\∀t (aB:t<p.cL.length),t<j->¬p.cL[t].name=p.cL[k].name) bc bc ⟨Ext.refl _,fun _ _ h=>absurd h (Nat.not_lt_zero _)⟩ ?_;rintro j _ aX dc aE ⟨ck,qJ⟩;replace ai:=ck.obj ai;replace av:=ck.obj av;replace bu:=ck.obj bu;have gS:∀{w'},Ext dc w'->Ext w w':=fun e=>ih (ck.trans e);refine J ?_;apply I_<;>intro g9
   .have et:j<p.cL.length:=by omega
    obtain⟨_,at7,KZ,Xq,_,_⟩:=ni.at j et;replace Xq:=Xq.ext (gS (Ext.refl _));replace hf:=hf.ext ck;refine J ?_;intro eY cG;replace ai:=cG.obj ai;replace av:=cG.obj av;replace bu:=cG.obj bu;refine J ?_;apply I_<;>intro g10
    .have zk:(p.cL.take k).any (fun x=>decide (x.name=p.cL[k].name))=true:=List.any_eq_true.2 ⟨p.cL[j],by rw[List.mem_iff_getElem];exact⟨j,by simp;omega,by simp⟩,by simpa using g10⟩;rw[if_pos zk] at a8;refine J ?_;exact⟨by rw[aL,a8],gS cG⟩
    .refine J ?_;exact⟨by omega,aU,(),trivial,ck.trans cG,fun t aB h=>by
      by_cases e:t=j
      .subst e;exact g10
      .exact qJ t aB (by omega)⟩
   .have zk:¬(p.cL.take k).any (fun x=>decide (x.name=p.cL[k].name))=true:=by
     intro cU;obtain⟨x,ag,gp⟩:=List.any_eq_true.1 cU;obtain⟨t,aB,rfl⟩:=List.mem_iff_getElem.1 ag;have akt:t<k/\t<p.cL.length:=by simp at aB;omega
     exact qJ t akt.2 (by omega) (by simpa using gp)
    rw[if_neg zk] at a8;refine J ?_;exact⟨aZ,aU,(),trivial,(bz.trans bP).trans ck,a8⟩
  .rw[List.drop_eq_nil_of_le (by omega)] at a8;refine J ?_;exact⟨by rw[aL,a8];rfl,gK (Ext.refl _)⟩
theorem aoB(cs:C_ B_)(m:o.Model)(k:Nat)(w:A_)(h:o.dV w cs m)(aK:m.cN)(hk:k<m.procs.length)(Er:k<=6)(Ix:m.scalars.length<=2/\m.vars.length<=12/\m.aw.length<=4)(ajS:k<6->∀j,j<k->(o.iA m j).1=0) :
  a7 Tryz.prog F.J1 #[.agg cs.toArray,.int .i64 k] w fun v w'=>v=xw (if (o.iA m k).1≠0 then ⟨(o.iA m k).1,4,k,(o.iA m k).2⟩ else o.tV)/\Ext w w':=by
 have a1:=h;obtain⟨cd,bw,bO,c1,bV,c2,b2,br,cj,bF,rfl,af,h1,I,ab,aD,eU,ek,ev,ef,ew⟩:=h.form;have ep:=o.MF hk;refine bn E.J1 ?_;refine J ?_;intro w1 bo cT al ai;refine J ?_;intro aH bR dt ao av;replace ai:=ao.obj ai;have aI:=al.trans ao;have gj:=cy ai;have z2:=al.size;refine J ?_;apply I_<;>intro g1
 .rw[if_pos (by omega)] at ep;refine J ?_;intro aP gd bu;refine J ?_;exact⟨by rw[ep];rfl,gd.ext aI (by omega)⟩
 rw[if_neg (by omega)] at ep;obtain⟨a,rfl⟩:=ab.addr;obtain⟨lM,b7,ec,ar,e2,dD⟩:=ab.at k hk;obtain⟨e4,fL,rfl,fH⟩:=e2.form;obtain⟨ob,k5,rfl,lc⟩:=dD.form;have oH:=aK.proc _ (List.getElem_mem hk);replace ar:=ar.ext aI;refine J ?_;intro aP dx k9 aj cc;replace ai:=aj.obj ai;replace av:=aj.obj av;refine J ?_;intro aR aA;replace ai:=aA.obj ai;replace av:=aA.obj av;replace cc:=aA.obj cc;have bG:=(aI.trans aj).trans aA;refine J ?_;refine J_ (aoE (w0:=w) _ m k aR a1 bG aK) ?_;rintro _ bq ⟨⟨ae4,rfl,ma⟩,aJ⟩;refine⟨aJ,?_⟩;have bU:=bG.trans aJ;obtain⟨ml,FX,j0,j1,kX,jK,pB,re,oP,CD,rfl,_⟩:=(ma _ bU).form;refine J ?_;refine J_ (aoX m.procs[k] _ _ (o.hi m k) bq ⟨lM,_,_,rfl,e2.ext bU,dD.ext bU⟩ (ma _ bU) (aK.hi _) oH) ?_;rintro _ bB ⟨rfl,aT⟩;replace ai:=(aJ.trans aT).obj ai;replace av:=(aJ.trans aT).obj av;replace cc:=(aJ.trans aT).obj cc;have c8:=bU.trans aT;clear aI bG ar;have e9:=o.aas m.procs[k] (o.hi m k) 140737488351232 fun c ah=>by have:=(oH.cmd c ah).bY;unfold o.ei at this;omega
 have akx:m.procs[k].vars.length<=140737488351232:=by have:=oH.vars;unfold o.ei at this;omega
 have oE:m.procs[k].cL.length<=140737488351232:=by have:=oH.cL;unfold o.ei at this;omega
 refine J ?_;apply I_<;>intro g2;rotate_left
 .rw[if_pos g2] at ep;refine J ?_;intro bQ dT c9;refine J ?_;exact⟨by rw[ep,if_pos g2];rfl,dT.ext c8 (by omega)⟩
 rw[if_neg (by simpa using g2)] at ep;have hlen:∀(i:Int),m.scalars.length+o.cM 1 4 i m.vars.length+o.cM 2 4 i m.aw.length+o.cM 3 4 k m.procs.length+o.hZ 4 i m.props.length<=8000000000000:=fun i=>by
  have cV:=o.wJ 1 4 i m.vars.length;have dq:=o.wJ 2 4 i m.aw.length;have dU:o.cM 3 4 k m.procs.length<=k:=by unfold o.cM; (repeat' split)<;>omega
  have hy:o.hZ 4 i m.props.length=0:=by unfold o.hZ;rw[if_neg (by decide)]
  omega
 refine J ?_;intro bQ bz;replace ai:=bz.obj ai;replace av:=bz.obj av;replace cc:=bz.obj cc;have dQ:=c8.trans bz;refine J ?_;refine J_ (C6 _ m 4 k bQ (a1.ext dQ) (by omega) (by omega) (hlen k)) ?_;rintro _ de ⟨⟨v,rfl,fB⟩,bP⟩;refine⟨bP,?_⟩;rw[o.adh] at fB;replace ai:=bP.obj ai;replace av:=bP.obj av;replace cc:=bP.obj cc;have gm:=dQ.trans bP;refine J ?_;refine J_ (D1 v _ m.procs[k].name _ de fB) ?_;rintro _ oh ⟨rfl,rfl⟩;refine J ?_;apply I_<;>intro g3
 .rw[if_pos g3] at ep;refine J ?_;intro dc hG dX;refine J ?_;exact⟨by rw[ep];rfl,hG.ext gm (by omega)⟩
 rw[if_neg g3] at ep;have rQ:m.procs.length*80<=140737488355328:=by have:=aK.procs;unfold o.ei at this;omega
 have Eu:m.scalars.length+o.cM 1 5 (0:Nat) m.vars.length+o.cM 2 5 (0:Nat) m.aw.length+o.cM 3 5 (0:Nat) m.procs.length+o.hZ 5 (0:Nat) m.props.length<=8000000000000:=by
  have cV:=o.wJ 1 5 (0:Nat) m.vars.length;have dq:=o.wJ 2 5 (0:Nat) m.aw.length;have dU:=o.wJ 3 5 (0:Nat) m.procs.length;have hy:o.hZ 5 (0:Nat) m.props.length=0:=by unfold o.hZ;rw[if_pos (by decide)];simp
  omega
 have xH:=ai;have zm:=av;have Xe:=cc;clear ai av cc fB;have ai:=xH;have cc:=Xe;refine J ?_;refine L_ 9 m.procs[k].vars.length [1,2,4,5] (fun _:Unit=>[]) () (fun j _ w'=>Ext oh w'/\∀i,i<j->o.qF m m.procs[k] i=0) bc bc ⟨Ext.refl _,fun j h=>absurd h (Nat.not_lt_zero _)⟩ ?_;clear ai cc;rintro j _ S dc aE ⟨ck,bA⟩;have ai:=ck.obj xH;have av:=ck.obj zm;have cc:=ck.obj Xe;have jQ:=gm.trans ck;refine J ?_;apply I_<;>intro g4
 .have et:j<m.procs[k].vars.length:=by omega
  obtain⟨cD,rfl⟩:=e2.addr;have eo:=((e2.at j et).cells).ext jQ;have fN:=o.B6 (f:=fun x:o.Var=>x.name) et;refine J ?_;intro eY cG;replace ai:=cG.obj ai;replace av:=cG.obj av;replace cc:=cG.obj cc;replace eo:=eo.ext cG;have o9:=jQ.trans cG;refine J ?_;refine J_ (C6 _ m 5 (0:Nat) eY (a1.ext o9) (by omega) (by omega) Eu) ?_;rintro _ gw ⟨⟨v2,rfl,Ey⟩,e8⟩;refine⟨e8,?_⟩;rw[o.Ux] at Ey;replace ai:=e8.obj ai;replace av:=e8.obj av;replace cc:=e8.obj cc;have Mx:=o9.trans e8;refine J ?_;refine J_ (D1 v2 _ m.procs[k].vars[j].name _ gw Ey) ?_;rintro _ Ak ⟨rfl,rfl⟩;have dA:o.r0 m 0=o.iZ m m.procs.length:=by simp[o.r0]
  rw[dA];refine J ?_;apply I_<;>intro g5
  .have ue:o.qF m m.procs[k] j=7:=by unfold o.qF;rw[fN,if_pos g5]
   rw[o.ji et bA (by rw[ue];decide),ue,if_pos (show(7:Int)≠0 by decide)] at ep;refine J ?_;intro jr ln iC;refine J ?_;exact⟨by rw[ep];rfl,ln.ext Mx (by omega)⟩
  .refine J ?_;refine⟨et,aU,(),trivial,(ck.trans cG).trans e8,fun i U=>?_⟩;by_cases BJ:i=j
   .subst BJ;unfold o.qF;rw[fN,if_neg g5]
   .exact bA i (by omega)
 .rw[o.pa fun i U=>bA i (by omega),if_neg (by simp)] at ep;refine J ?_;intro eY oI ko;refine J ?_;exact⟨by rw[ep];rfl,oI.ext jQ (by omega)⟩
theorem aoC(cs:C_ B_)(m:o.Model)(k:Nat)(w:A_)(h:o.dV w cs m)(aK:m.cN)(hk:k<m.props.length)(XY:k<=8)(Ix:m.scalars.length<=2/\m.vars.length<=12/\m.aw.length<=4)(ajS:m.procs.length<=6) :
  a7 Tryz.prog F.J2 #[.agg cs.toArray,.int .i64 k] w fun v w'=>v = .int .i64 (o.nd m k)/\Ext w w':=by
 have a1:=h;obtain⟨cd,bw,bO,c1,bV,c2,b2,br,cj,bF,rfl,af,h1,I,ab,aD,eU,ek,ev,ef,ew⟩:=h.form;have ep:=o.DF hk;refine bn E.J2 ?_;refine J ?_;intro w1 bo cT al ai;refine J ?_;apply I_<;>intro g1
 .rw[if_pos (by omega)] at ep;refine J ?_;exact⟨by rw[ep],al⟩
 rw[if_neg (by omega)] at ep;obtain⟨a,rfl⟩:=aD.addr;obtain⟨lM,gI,ar,hh⟩:=aD.at k hk;obtain⟨Km,ce,rfl,le⟩:=hh.form;replace ar:=ar.ext al;refine J ?_;intro aH dx k9 ao cc;replace ai:=ao.obj ai;have aI:=al.trans ao;refine J ?_;refine J_ (Ci m.props[k].name aH lM) ?_;rintro _ aP ⟨rfl,aj⟩;replace ai:=aj.obj ai;replace cc:=aj.obj cc;have ba:=aI.trans aj;refine J ?_;refine N_ (fun g2=>?_) (fun g2=>?_);rotate_left
 .rw[if_pos g2] at ep;refine J ?_;exact⟨by rw[ep],ba⟩
 rw[if_neg (by rw[g2];decide)] at ep;refine J ?_;intro aR aA;replace ai:=aA.obj ai;replace cc:=aA.obj cc;have bG:=ba.trans aA;refine J ?_;refine J_ (C6 _ m 5 k aR (a1.ext bG) (by omega) (by omega) (by
  have cV:=o.wJ 1 5 k m.vars.length;have dq:=o.wJ 2 5 k m.aw.length;have dU:=o.wJ 3 5 k m.procs.length;have hy:o.hZ 5 k m.props.length<=k:=by unfold o.hZ; (repeat' split)<;>omega
  omega)) ?_
 rintro _ bq ⟨⟨v2,rfl,Ey⟩,aJ⟩;refine⟨aJ,?_⟩;rw[o.Ux] at Ey;replace ai:=aJ.obj ai;replace cc:=aJ.obj cc;have bU:=bG.trans aJ;refine J ?_;refine J_ (D1 v2 _ m.props[k].name _ bq Ey) ?_;rintro _ Ak ⟨rfl,rfl⟩;refine J ?_;apply I_<;>intro g3
 .rw[if_pos g3] at ep;refine J ?_;exact⟨by rw[ep],bU⟩
 rw[if_neg g3] at ep;have ma:∀w',Ext w w'->o.fJ w' [.slice cd m.scalars.length bw,.slice bO m.vars.length c1,.slice bV m.aw.length c2,.slice b2 m.procs.length br,.slice none 0 0,.int .i64 0] (o.ey m):=fun w' e =>
  ⟨aK.scope.q7.1,_,_,_,_,_,rfl,af.ext e,h1.ext e,I.ext e,ab.ext e,bh.nil,aK.scope.q7.2⟩
 refine J ?_;refine J_ (aaR _ m.props[k].expr _ (o.ey m) _ (hh.ext bU) (ma _ bU)) ?_;rintro _ bB ⟨rfl,aT⟩;refine J ?_;apply I_<;>intro g4;rotate_left
 .rw[if_pos g4] at ep;refine J ?_;exact⟨by rw[ep],bU.trans aT⟩
 rw[if_neg (by simpa using g4)] at ep;refine J ?_;apply I_<;>intro g5;rotate_left
 .rw[if_pos g5] at ep;refine J ?_;exact⟨by rw[ep],bU.trans aT⟩
 rw[if_neg (by simpa using g5)] at ep;refine J ?_;exact⟨by rw[ep],bU.trans aT⟩
theorem Qs(cs:C_ B_)(m:o.Model)(w:A_)(h:o.dV w cs m)(aK:m.cN) :
  a7 Tryz.prog F.JX #[.agg cs.toArray] w fun v w'=>v=xw (o.check m)/\Ext w w':=by
 have a1:=h;obtain⟨cd,bw,bO,c1,bV,c2,b2,br,cj,bF,rfl,af,h1,I,ab,aD,eU,ek,ev,ef,ew⟩:=h.form;refine bn E.JX ?_;simp -dsimp only[cB];refine eh ?_;intro w1 bo cT al ai;refine eh ?_;intro aH bR dt ao av;replace ai:=ao.obj ai;have aI:=al.trans ao;have gj:=cy ai;have z2:=cy av;have z3:=al.size;refine eh ?_;simp -dsimp only[cB];refine eh ?_;refine J_ (aov _ m aH (a1.ext aI)) ?_;rintro _ aP ⟨rfl,aj⟩;replace ai:=aj.obj ai;replace av:=aj.obj av;unfold xw;have z4:=ao.size;have z5:=aj.size;refine eh ?_;intro aR b0 fW aA bu;replace ai:=aA.obj ai;replace av:=aA.obj av;have bG:=(aI.trans aj).trans aA;have Aq:=cy bu;have xH:=ai;have zm:=av;have Bq:=a1.ext bG;refine eh ?_;refine S_ [1,2,3] (fun _:o.sh=>[]) (fun f w'=>Mod (fun i=>i=b0) aR w'/\w'.heap[b0]? = some (.cells #[.int .i64 f.cA,.int .i64 f.part,.int .i64 f.item,.int .i64 f.sub] T.x) /\
  ((f.cA≠0/\f=o.check m)\/(f.cA=0/\(o.data m).cA=0/\∀j,j<m.procs.length->(o.iA m j).1=0))) ?_ ?_
 .refine J ?_;refine L_ 4 m.procs.length [1,2,3] (fun _:o.sh=>[]) (o.data m) (fun k f w'=>Mod (fun i=>i=b0) aR w'/\w'.heap[b0]? = some (.cells #[.int .i64 f.cA,.int .i64 f.part,.int .i64 f.item,.int .i64 f.sub] T.x) /\
   ((f=o.data m/\(o.data m).cA≠0)\/((o.data m).cA=0/\f.cA=0/\∀j,j<k->(o.iA m j).1=0)\/((o.data m).cA=0/\f=o.me m/\(o.me m).cA≠0))) bc bc ⟨Mod.refl _ _,bu,by
     by_cases h:(o.data m).cA=0
     .exact .inr (.inl ⟨h,h,fun j h=>absurd h (Nat.not_lt_zero _)⟩)
     .exact .inl ⟨rfl,h⟩⟩ ?_
  clear ai av bu;rintro k f S bq hk ⟨m5,bu,ax⟩;have ai:=m5.obj (by omega) xH;have av:=m5.obj (by omega) zm;have bU:=m5.ext bG (fun i U e=>by omega);have Wa:f.cA≠0->(f.cA≠0/\f=o.check m):=fun hw=>⟨hw,by
   rcases ax with ⟨rfl,h⟩ | ⟨_,h,_⟩ | ⟨h1,rfl,I⟩
   .rw[o.check,if_pos h]
   .exact absurd h hw
   .rw[o.check,if_neg (by simpa using h1),if_pos I]⟩
  refine J ?_;apply I_<;>intro g1
  .have aZ:k<m.procs.length:=by omega
   refine J ?_;apply I_<;>intro g2
   .have l6:(o.data m).cA=0/\f.cA=0/\∀j,j<k->(o.iA m j).1=0:=by
     rcases ax with ⟨rfl,h⟩ | h | ⟨h1,rfl,I⟩
     .exact absurd g2 h
     .exact h
     .exact absurd g2 I
    have Er:k<=6:=by
     apply Classical.byContradiction;intro ay
     have:=o.HC (m:=m) (i:=6) (by omega) (l6.2.2 6 (by omega))
     omega
    refine J ?_;refine J_ (aoB _ m k bq (a1.ext bU) aK aZ Er (o.G6 l6.1) fun _=>l6.2.2) ?_;rintro _ bB ⟨rfl,aT⟩;unfold xw;replace ai:=aT.obj ai;replace av:=aT.obj av;replace bu:=aT.obj bu;refine J ?_;intro bQ dT c9;refine J ?_;refine⟨aZ,aU,_,trivial,(m5.trans aT.mod).trans (dT.mod rfl),c9,?_⟩;by_cases af:(o.iA m k).1=0
    .rw[if_neg (by simpa using af)];refine .inr (.inl ⟨l6.1,rfl,fun j aE=>?_⟩);by_cases gV:j=k
     .subst gV;exact af
     .exact l6.2.2 j (by omega)
    .rw[if_pos af]
     have:=o.Fp aZ l6.2.2 af
     exact .inr (.inr ⟨l6.1,this.symm,by rw[this];exact af⟩)
   .refine J ?_;exact⟨f,trivial,m5,bu,.inl (Wa g2)⟩
  .refine J ?_;refine⟨f,trivial,m5,bu,?_⟩;by_cases hw:f.cA=0
   .refine .inr ?_;rcases ax with ⟨rfl,h⟩ | ⟨h1,I,ab⟩ | ⟨h1,rfl,I⟩
    .exact absurd hw h
    .exact⟨I,h1,fun j aE=>ab j (by omega)⟩
    .exact absurd hw I
   .exact .inl (Wa hw)
 clear ai av bu;rintro f S bq ⟨m5,bu,ax⟩;have ai:=m5.obj (by omega) xH;have av:=m5.obj (by omega) zm;have bU:=m5.ext bG (fun i U e=>by omega);refine J ?_;apply I_<;>intro g1;rotate_left
 .have lH:f=o.check m:=by
   rcases ax with ⟨_,h⟩ | ⟨h,_⟩
   .exact h
   .exact absurd h g1
  refine J ?_;intro bB gn b4;refine J ?_;exact⟨by rw[lH],gn.ext bU (by omega)⟩
 have di:(o.data m).cA=0/\∀j,j<m.procs.length->(o.iA m j).1=0:=by
  rcases ax with ⟨h,_⟩ | ⟨_,h⟩
  .exact absurd g1 h
  .exact h
 obtain⟨a6,lF⟩:=di;have Ix:=o.G6 a6;have rQ:m.procs.length<=6:=by
  apply Classical.byContradiction;intro ay
  have:=o.HC (i:=6) (by omega) (lF 6 (by omega))
  omega
 have sU:o.uZ m:=⟨by omega,by omega,by omega,fun p ar=>by
  obtain⟨j,aE,rfl⟩:=List.mem_iff_getElem.1 ar
  have:=o.P9 (o.Bd aE (lF j aE)).2.1
  omega⟩
 have qS:=o.Qb lF;have lH:o.check m=if (o.me m).cA≠0 then o.me m else o.pr m:=by rw[o.check,if_neg (by simpa using a6)]
 clear bu;refine J ?_;refine J_ (aoA _ m bq (a1.ext bU) sU) ?_;rintro _ bB ⟨rfl,aT⟩;replace ai:=aT.obj ai;replace av:=aT.obj av;have c8:=bU.trans aT;refine J ?_;apply I_<;>intro g2
 .rw[if_pos (.inl (by omega))] at qS;rw[qS,if_pos (show(11:Int)≠0 by decide)] at lH;refine J ?_;intro bQ dT c9;refine J ?_;exact⟨by rw[lH];rfl,dT.ext c8 (by omega)⟩
 refine J ?_;apply I_<;>intro g3
 .rw[if_pos (.inr (by omega))] at qS;rw[qS,if_pos (show(11:Int)≠0 by decide)] at lH;refine J ?_;intro bQ dT c9;refine J ?_;exact⟨by rw[lH];rfl,dT.ext c8 (by omega)⟩
 rw[if_neg (by omega)] at qS;rw[qS,if_neg (by simp[o.tV])] at lH;have aic:=ai;have aid:=av;refine J ?_;refine L_ 8 m.props.length [1,2] (fun _:Unit=>[]) () (fun k _ w'=>Ext bB w'/\∀j,j<k->o.nd m j=0) bc bc ⟨Ext.refl _,fun j h=>absurd h (Nat.not_lt_zero _)⟩ ?_;clear ai av;rintro k _ kB bQ hk ⟨bz,bA⟩;have ai:=bz.obj aic;have av:=bz.obj aid;have dQ:=c8.trans bz;refine J ?_;apply I_<;>intro g4
 .have aZ:k<m.props.length:=by omega
  have XY:k<=8:=by
   apply Classical.byContradiction;intro ay
   have:=o.afK (m:=m) (i:=8) (by omega) (bA 8 (by omega))
   omega
  refine J ?_;refine J_ (aoC _ m k bQ (a1.ext dQ) aK aZ XY Ix rQ) ?_;rintro _ de ⟨rfl,bP⟩;replace ai:=bP.obj ai;replace av:=bP.obj av;refine J ?_;apply I_<;>intro g5;rotate_left
  .rw[o.aav aZ bA g5] at lH;refine J ?_;intro dc hG dX;refine J ?_;exact⟨by rw[lH];rfl,hG.ext (dQ.trans bP) (by omega)⟩
  .refine J ?_;refine⟨aZ,aU,(),trivial,bz.trans bP,fun j aE=>?_⟩;by_cases gV:j=k
   .subst gV;simpa using g5
   .exact bA j (by omega)
 .rw[o.Qd fun j aE=>bA j (by omega)] at lH;refine J ?_;intro de iH c4;refine J ?_;exact⟨by rw[lH];rfl,iH.ext dQ (by omega)⟩
end Go.Proofs.R
end
section
namespace bb
open Go Go.RowKit
def uJ(l:C_ ByteArray):C_ (ByteArray×B_):=l.map fun x=>(x,.bool true)
theorem apj(l:C_ ByteArray)(x:ByteArray):((uJ l).find? (fun p=>decide (x=p.1))).map (·.2)=if x∈l then some (.bool true) else none:=by
 induction l with
 | nil=>rfl
 | cons y l eS =>
  simp only[uJ,List.map_cons,List.find?_cons,List.mem_cons];by_cases h:x=y
  .simp[h]
  .simp only[h,decide_false,false_or];exact eS
structure AA(es:Array MapEntry)(c:Nat)(L:List ByteArray):Prop where
 zK:∃l,iw Value.string es.toList (uJ l)/\∀x,x∈l↔x∈L
 born:∀e∈es.toList,e.born<c
 nodup:(es.toList.map (·.born)).Nodup
theorem iw.mem{l:C_ ByteArray}:∀{es:C_ MapEntry},iw Value.string es (uJ l)->∀e∈es,∃x∈l,e.key = .string x/\e.val = .bool true:=by
 induction l with
 | nil=>intro es h e he;cases es with | nil=>cases he | cons _ _=>simp[iw,uJ] at h
 | cons y l eS =>
  intro es h e he;cases es with
  | nil=>cases he
  | cons f es =>
   simp only[iw,uJ,List.map_cons,List.cons.injEq,Prod.mk.injEq] at h;rcases List.mem_cons.1 he with rfl | he
   .exact⟨y,by simp,h.1.1,h.1.2⟩
   .obtain⟨x,ag,I⟩:=eS (es:=es) h.2 e he;exact⟨x,by simp[ag],I⟩
theorem iw.PY{l:C_ ByteArray}:∀{es:C_ MapEntry},iw Value.string es (uJ l)->∀x∈l,∃e∈es,e.key = .string x:=by
 induction l with
 | nil=>intro es h x ag;cases ag
 | cons y l eS =>
  intro es h x ag;cases es with
  | nil=>simp[iw,uJ] at h
  | cons f es =>
   simp only[iw,uJ,List.map_cons,List.cons.injEq,Prod.mk.injEq] at h;rcases List.mem_cons.1 ag with rfl | ag
   .exact⟨f,by simp,h.1.1⟩
   .obtain⟨e,he,I⟩:=eS (es:=es) h.2 x ag;exact⟨e,by simp[he],I⟩
theorem AA.mem{es:Array MapEntry}{c:Nat}{L:C_ ByteArray}(h:AA es c L):∀e∈es.toList,∃x∈L,e.key = .string x/\e.val = .bool true:=fun e he=>by
 obtain⟨l,h1,I⟩:=h.zK;obtain⟨x,ag,ab⟩:=h1.mem e he;exact⟨x,(I x).1 ag,ab⟩
theorem AA.PY{es:Array MapEntry}{c:Nat}{L:C_ ByteArray}(h:AA es c L):∀x∈L,∃e∈es.toList,e.key = .string x:=fun x ag=>by
 obtain⟨l,h1,I⟩:=h.zK;exact h1.PY x ((I x).2 ag)
theorem MO{d:TypeDesc}{k:B_}:∀{es:C_ MapEntry} {i j:Nat} {v:B_},Instr.findNow d k es i=some (some (j,v))->i<=j/\∃e,es[j - i]? = some e/\Instr.sameNow d k e.key=some true
 | [],i,j,v,h=>by simp[Instr.findNow] at h
 | e :: es,i,j,v,h=>by
  unfold Instr.findNow at h;split at h
  .rename_i an;injection h with h;injection h with h;injection h with h1 I
   subst h1;exact⟨Nat.le_refl _,e,by simp,an⟩
  .obtain⟨h1,e',I,ab⟩:=MO h;refine⟨by omega,e',?_,ab⟩;rw[show j - i=(j - (i+1))+1 from by omega,List.getElem?_cons_succ];exact I
  .cases h
theorem amb{es:Array MapEntry}{j:Nat}{e:MapEntry}{f:MapEntry->MapEntry}(aE:es[j]? = some e)(ax:f e=e):es.modify j f=es:=by
 apply Array.ext_getElem?;intro i;rw[Array.getElem?_modify];by_cases h:j=i
 .subst h;rw[if_pos rfl,aE,Option.map_some,ax]
 .rw[if_neg h]
def fK(w:A_)(b:Nat)(L:C_ ByteArray):Prop := ∃es c,w.heap[b]? = some (.map es c)/\AA es c L
theorem fK.of{w w':A_}{b:Nat}{L:C_ ByteArray}(h:fK w b L)(e:w'.heap[b]? = w.heap[b]?):fK w' b L:=let ⟨es,c,h1,I⟩:=h; ⟨es,c,e.trans h1,I⟩
theorem fK.lt{w:A_}{b:Nat}{L:C_ ByteArray}(h:fK w b L):b<w.heap.size:=let ⟨_,_,h1,_⟩:=h;cy h1
theorem fK.ext{w w':A_}{b:Nat}{L:C_ ByteArray}(h:fK w b L)(e:Ext w w'):fK w' b L:=h.of (e.heap h.lt)
theorem fK.wr{w w':A_}{b k:Nat}{L:C_ ByteArray}(h:fK w b L)(e:dn k w w')(hk:b≠k):fK w' b L:=h.of (e.block b hk)
theorem fK.jc{w:A_}{b:Nat}{L mT:C_ ByteArray}(h:fK w b L)(e:∀x,x∈L↔x∈mT):fK w b mT:=by
 obtain⟨es,c,h1,⟨⟨l,I,ab⟩,aD,aY⟩⟩:=h;exact⟨es,c,h1,⟨⟨l,I,fun x=>(ab x).trans (e x)⟩,aD,aY⟩⟩
theorem fK.empty{w:A_}{b:Nat}(h:w.heap[b]? = some (.map #[] 0)):fK w b []:=⟨_,_,h,⟨⟨[],rfl,fun _=>Iff.rfl⟩,fun e he=>by simp at he,by simp⟩⟩
theorem fK.look{w:A_}{b:Nat}{L:C_ ByteArray}(h:fK w b L)(x:ByteArray):∃es r,rn w (.map (some b)) es/\Instr.findNow .string (.string x) es.toList 0=some r/\mK (.bool false) false r = .bool (decide (x∈L)):=by
 obtain⟨es,c,h1,⟨⟨l,I,ab⟩,_,_⟩⟩:=h;obtain⟨r,mE,jV⟩:=y8 KE x es.toList _ 0 I;rw[apj] at jV;refine⟨es,r,.inr ⟨b,c,rfl,h1⟩,mE,?_⟩;by_cases ag:x∈L
 .rw[if_pos ((ab x).2 ag)] at jV;simp[mK,jV,ag]
 .rw[if_neg (fun h=>ag ((ab x).1 h))] at jV;simp[mK,jV,ag]
theorem fK.put{w:A_}{b:Nat}{L:C_ ByteArray}(h:fK w b L)(x:ByteArray):∃es c q,w.heap[b]? = some (.map es c)/\Instr.findNow .string (.string x) es.toList 0=some q /\
  ∀w':A_,w'.heap[b]? = some (rZ es c (.string x) (.bool true) q)->fK w' b (L++[x]):=by
 obtain⟨es,c,h1,hm⟩:=h;obtain⟨l,I,ab⟩:=hm.zK;obtain⟨r,mE,jV⟩:=y8 KE x es.toList _ 0 I;refine⟨es,c,r,h1,mE,fun w' hw=>?_⟩;cases r with
 | none =>
  refine⟨_,_,hw,⟨⟨l++[x],?_,fun y=>?_⟩,?_,?_⟩⟩
  .have:=iw.push I x (.bool true) c
   simpa[uJ] using this
  .simp[ab y]
  .intro e he;simp only[Array.toList_push,List.mem_append,List.mem_singleton] at he;rcases he with he | rfl
   .have:=hm.born e he;omega
   .show c<c+1;omega
  .simp only[Array.toList_push,List.map_append,List.map_cons,List.map_nil];rw[List.nodup_append];refine⟨hm.nodup,by simp,fun a aV gL Bu=>?_⟩;obtain⟨e,he,rfl⟩:=List.mem_map.1 aV;simp only[List.mem_singleton] at Bu
   have:=hm.born e he
   omega
 | some Pn =>
  obtain⟨j,v⟩:=Pn;obtain⟨_,e,he,an⟩:=MO mE;have xT:e∈es.toList:=List.mem_of_getElem? he;obtain⟨y,bS,hk,aG⟩:=hm.mem e xT;have akJ:x=y:=by rw[hk,KE] at an;simpa using an
  subst akJ;have akn:es.modify j (fun e=>{ e with key:=.string x,val:=.bool true })=es:=amb (e:=e) (by simpa using he) (by cases e;simp only at hk aG;subst hk aG;rfl);have po:w'.heap[b]? = some (.map es c):=by rw[hw];show some (Obj.map (es.modify j _) c)=_;rw[akn]
  exact⟨es,c,po,⟨⟨l,I,fun z=>by rw[ab z];simp;rintro rfl;exact bS⟩,hm.born,hm.nodup⟩⟩
def nJ(w:A_)(r b:Nat)(L D:C_ ByteArray)(n:Nat)(cur:H_ ByteArray):Prop :=
 ∃es c since seen bw,w.heap[b]? = some (.map es c)/\AA es c L/\w.heap[r]? = some (.mapIter (some b) since seen bw)/\(∀x∈es.toList,x.born<since)/\since<=bw/\since<=c/\(leftOf es seen).size=n /\
  (∀e∈es.toList,seen.contains e.born=true->∃x∈D,e.key = .string x)/\(∀x∈D,x∈L)/\(∀x,cur=some x->∃(QH:Array Nat) (e:MapEntry),bw=c/\seen=QH.push e.born/\e∈es.toList/\e.key = .string x/\e.val = .bool true)
theorem nJ.of{w w':A_}{r b:Nat}{L D:C_ ByteArray}{n:Nat}{cur:H_ ByteArray}(h:nJ w r b L D n cur)(bt:w'.heap[b]? = w.heap[b]?)(aI:w'.heap[r]? = w.heap[r]?):nJ w' r b L D n cur :=
 let ⟨es,c,since,seen,bw,h1,I,ab,aD⟩:=h; ⟨es,c,since,seen,bw,bt.trans h1,I,aI.trans ab,aD⟩
theorem nJ.sub{w:A_}{r b:Nat}{L D:C_ ByteArray}{n:Nat}{cur:H_ ByteArray}(h:nJ w r b L D n cur):∀x∈D,x∈L:=let ⟨_,_,_,_,_,_,_,_,_,_,_,_,_,I,_⟩:=h;I
theorem nJ.ne{w:A_}{r b:Nat}{L D:C_ ByteArray}{n:Nat}{cur:H_ ByteArray}(h:nJ w r b L D n cur):r≠b:=by
 obtain⟨es,c,since,seen,bw,h1,I,ab,aD⟩:=h;intro e;rw[e,h1] at ab;cases ab
theorem nJ.lt{w:A_}{r b:Nat}{L D:C_ ByteArray}{n:Nat}{cur:H_ ByteArray}(h:nJ w r b L D n cur):r<w.heap.size:=by
 obtain⟨es,c,since,seen,bw,h1,I,ab,aD⟩:=h;exact cy ab
theorem nJ.wr{w w':A_}{r b k:Nat}{L D:C_ ByteArray}{n:Nat}{cur:H_ ByteArray}(h:nJ w r b L D n cur)(e:dn k w w')(h1:b≠k)(I:r≠k):nJ w' r b L D n cur:=h.of (e.block b h1) (e.block r I)
theorem aq8(k:Nat)(w:A_):dn k w w.drew:=⟨rfl,rfl,rfl,rfl,fun _ _=>rfl⟩
section
variable{P:Program}{cW:Value->World->Prop}{S:Fr}{w:World}{KW:World->Prop}{aC:Value->Prop}
theorem AA0{b:Nat}{L:C_ ByteArray}{x:ByteArray}{t}(h:fK w b L)(hk:aC (.bool (decide (x∈L)))):Ay .string (.bool false) false (.map (some b)) (.string x) w aC t:=by
 obtain⟨es,r,h1,I,ab⟩:=h.look x;exact _l h1 I (by rw[ab];exact hk)
theorem _v{b:Nat}{L:C_ ByteArray}{x:ByteArray}{t}(h:fK w b L)(hk:∀w1,dn b w w1->fK w1 b (L++[x])->KW w1):yC .string (.map (some b)) (.string x) (.bool true) w KW t:=by
 obtain⟨es,c,q,h1,I,ab⟩:=h.put x;exact _r h1 I (hk _ (dn.fr w b _) (ab _ (Cp (cy h1))))
theorem AB6{b:Nat}{L:C_ ByteArray}{x:G_}{ig k e ty:F_}{t}(ag:aS S x = .map (some b))(aB:P.underlying ig=some (.map k e))(h:fK w b L)
  (hk:∀w1 r n,w.heap.size<=r->Ext w w1->nJ w1 r b L [] n none->cW (.pointer (some ⟨r,0,none⟩)) w1):sn P (.range ig x) ty S w cW t:=by
 obtain⟨es,c,h1,I⟩:=h;have hS:=run_range_map (P:=P) w ig k e b es c aB h1;refine _E (v:=.pointer (some ⟨w.heap.size,0,none⟩)) (w':=w.alloc (.mapIter (some b) c #[] c)) (by simp[execOp,ag,hS,Result.andThen]) ?_;refine hk _ _ _ (Nat.le_refl _) ((Ext.refl w).alloc _) ⟨es,c,c,#[],c,heap_alloc_old h1,I,heap_alloc_new w _,I.born,Nat.le_refl _,Nat.le_refl _,rfl,?_,?_,?_⟩
 .intro e _ h;simp at h
 .intro x ag;cases ag
 .intro x ag;cases ag
theorem AB7{r b n:Nat}{L D:C_ ByteArray}{cur:H_ ByteArray}{x:G_}{ty:F_}{t}(ag:aS S x = .pointer (some ⟨r,0,none⟩))(h:nJ w r b L D n cur)
  (af:(∀y∈L,y∈D)->cW (.tuple #[.bool false]) w)
  (h1:∀y w1 j9,y∈L->j9<n->dn r w w1->nJ w1 r b L (D++[y]) j9 (some y)->cW (.tuple #[.bool true,.string y,.bool true]) w1):sn P (.next x false) ty S w cW t:=by
 have cw:=h.ne;obtain⟨es,c,since,seen,bw,ak,hm,aL,hold,ma,OK,ay,h4,WI,_⟩:=h;rcases run_next_at (P:=P) w ty r b since bw seen es c aL ak hold ma with ⟨bA,hS⟩ | ⟨e,he,w1,W8,hS⟩
 .refine _E (v:=.tuple #[.bool false]) (w':=w) (by simp[execOp,ag,hS,Result.andThen]) (af fun y bS=>?_);obtain⟨e,he,hk⟩:=hm.PY y bS;obtain⟨z,Jc,rU⟩:=h4 e he (all_seen es seen bA e he);rw[hk] at rU;injection rU with rU
  rw[rU];exact Jc
 .obtain⟨NV,asE⟩:=mem_left he;obtain⟨y,bS,hk,aG⟩:=hm.mem e NV;have ht:dn r w w1:=by
   rcases W8 with rfl | rfl
   .exact dn.refl _ _
   .exact aq8 r w
  have dy:w1.heap.size=w.heap.size:=ht.size;have kr:r<w1.heap.size:=by rw[dy];exact cy aL
  have OJ:Go.ChangeMaps.setBlock w1 r (.mapIter (some b) since (seen.push e.born) c)=bb.fr w1 r (.mapIter (some b) since (seen.push e.born) c):=rfl;rw[OJ] at hS;refine _E (v:=.tuple #[.bool true,e.key,e.val]) (w':=fr w1 r (.mapIter (some b) since (seen.push e.born) c)) (by simp[execOp,ag,hS,Result.andThen]) ?_;rw[hk,aG];refine h1 y _ _ bS (Nat.lt_of_lt_of_eq (left_shrinks es seen e he) ay) (ht.trans (dn.fr _ _ _)) ⟨es,c,since,seen.push e.born,c,?_,hm,Cp kr,hold,OK,OK,rfl,fun f ax ah=>?_,fun z bA=>?_,fun z bA=>?_⟩
  .rw[QK (Ne.symm cw)];rcases W8 with rfl | rfl<;>exact ak
  .rw[contains_push] at ah;rcases Bool.or_eq_true_iff.1 ah with ah | ah
   .obtain⟨x,mG,gp⟩:=h4 f ax ah;exact⟨x,by simp[mG],gp⟩
   .have pR:f.born=e.born:=by simpa using ah
    have aY:=find_born f es.toList hm.nodup ax;rw[pR,find_born e es.toList hm.nodup NV] at aY;injection aY with aY
    have:f=e:=aY.symm
    subst this;exact⟨y,by simp,hk⟩
  .rcases List.mem_append.1 bA with bA | bA
   .exact WI z bA
   .simp only[List.mem_singleton] at bA;subst bA;exact bS
  .injection bA with bA
   subst bA;exact⟨seen,e,rfl,rfl,NV,hk,aG⟩
theorem AB8{r b n:Nat}{L D:C_ ByteArray}{y:ByteArray}{x:G_}{ty:F_}{t}(ag:aS S x = .pointer (some ⟨r,0,none⟩))(h:nJ w r b L D n (some y))
  (hk:cW (.tuple #[.string y,.bool true]) w):sn P (.entry x) ty S w cW t:=by
 obtain⟨es,c,since,seen,bw,ak,hm,aL,hold,ma,OK,ay,h4,WI,ah⟩:=h;obtain⟨QH,e,rfl,rfl,he,zu,cH⟩:=ah y rfl;have hS:(Instr.entry (.pointer (some ⟨r,0,none⟩))).run P w = .ok (.tuple #[e.key,e.val]) w:=run_entry_at w r b since QH es bw e aL ak he hm.nodup;refine _E (v:=.tuple #[e.key,e.val]) (w':=w) (by simp[execOp,ag,hS,Result.andThen]) ?_;rw[zu,cH];exact hk
end
end bb
end
section
namespace Go.Proofs.R
open Go Go.RowKit bb
def wI(f:o.sh):C_ PanicEntry:=[{ v:=.iface T.qw (.agg #[.int .i64 f.cA,.int .i64 f.part,.int .i64 f.item,.int .i64 f.sub]),recovered:=false }]
theorem q9(e p i s:Int)(w:A_):qt Tryz.prog F.d #[.int .i64 e,.int .i64 p,.int .i64 i,.int .i64 s] w (fun _ w'=>e=0/\w'=w) (fun c w'=>e≠0/\c=wI ⟨e,p,i,s⟩/\w'=w):=by
 refine _m lj E.d AP (args:=[_,_,_,_]) (Nat.le_of_ble_eq_true rfl) ?_;dsimp only[C.d];refine nO ?_;refine J ?_;refine I_ (fun g=>?_) (fun g=>?_)
 .refine J ?_;exact⟨g,aU⟩
 .refine J ?_;exact⟨g,aU,aU⟩
theorem KT(b:Nat)(L:C_ ByteArray)(x:ByteArray)(p i:Int)(w:A_)(h:fK w b L):qt Tryz.prog F.ad #[.map (some b),.string x,.int .i64 p,.int .i64 i] w
  (fun _ w' => ¬x∈L/\dn b w w'/\fK w' b (L++[x])) (fun c w'=>x∈L/\c=wI ⟨7,p,i,0⟩/\w'=w):=by
 refine _m lj E.ad AP (args:=[_,_,_,_]) (Nat.le_of_ble_eq_true rfl) ?_;dsimp only[C.ad];refine nO ?_;refine J ?_;refine AA0 h ?_;refine J ?_;refine I_ (fun g=>?_) (fun g=>?_)
 .refine J ?_;refine X_ (q9 7 p i 0 w) ?_ ?_
  .rintro _ _ ⟨af,_⟩;exact absurd af (by decide)
  .rintro c _ ⟨_,rfl,rfl⟩;refine J ?_;exact⟨g,aU,aU⟩
 .refine J ?_;refine _v h fun w1 hw h1=>?_;refine J ?_;exact⟨g,hw,h1⟩
end Go.Proofs.R
end
section
namespace Go.Proofs.R
open Go Go.RowKit bb
structure j5(w0 w:World)(cn bo:Nat)(cs:List Value)(w':World)(L:List ByteArray):Prop where
 ext:Ext w0 w'
 mod:Mod (fun k=>k=cn) w w'
 box:w'.heap[bo]? = some (.cells cs.toArray T.g)
 set:fK w' cn L
 low:w0.heap.size<=cn
 ne:bo≠cn
section
variable{w0 w w' bK:World}{cn bo:Nat}{cs:List Value}{L mT:List ByteArray}
theorem j5.then(h:j5 w0 w cn bo cs w' L)(he:Ext w' bK):j5 w0 w cn bo cs bK L:=⟨h.ext.trans he,h.mod.trans he.mod,he.obj h.box,h.set.ext he,h.low,h.ne⟩
theorem j5.wr(h:j5 w0 w cn bo cs w' L)(hw:dn cn w' bK)(an:fK bK cn mT):j5 w0 w cn bo cs bK mT:=⟨hw.ext h.ext h.low,h.mod.trans (hw.mod rfl),hw.obj h.box h.ne,an,h.low,h.ne⟩
theorem j5.jc(h:j5 w0 w cn bo cs w' L)(e:L=mT):j5 w0 w cn bo cs w' mT:=e ▸ h
end
theorem ag9{w0:A_}(cs:C_ B_)(m:o.Model)(cn:Nat)(w:A_)(h:o.dV w0 cs m)(ej:Ext w0 w)(pe:w0.heap.size<=cn)(aM:gB w0)(an:fK w cn []) :
  qt Tryz.prog F.a0 #[.agg cs.toArray,.map (some cn)] w (fun _ w'=>(o.data m).cA=0/\Ext w0 w'/\Mod (fun k=>k=cn) w w'/\fK w' cn (o.nw m m.aw.length))
   (fun c w'=>(o.data m).cA≠0/\c=wI (o.data m)/\Ext w0 w'/\Mod (fun k=>k=cn) w w'):=by
 obtain⟨cd,bw,bO,c1,bV,c2,b2,br,cj,bF,rfl,af,h1,I,ab,aD,eU,ek,ev,ef,ew⟩:=h.form;refine _m lj E.a0 AP (args:=[_,_]) (Nat.le_of_ble_eq_true rfl) ?_;dsimp only[C.a0];refine nO ?_;refine J ?_;intro w1 bo cT al ai;have st1:j5 w0 w cn bo _ w1 []:=⟨ej.trans al,al.mod,ai,an.ext al,pe,by have:=an.lt;omega⟩;clear an;refine J ?_;refine J_ (ape _ m.scalars w1 (aM.ext st1.ext) (af.ext st1.ext)) ?_;rintro _ aH ⟨rfl,ao⟩;replace st1:=st1.then ao;clear ai;refine J ?_;refine X_ (q9 (o.scalars m.scalars).2 1 (o.scalars m.scalars).1 0 aH) ?_ ?_;rotate_left
 .rintro c _ ⟨g,rfl,rfl⟩;refine J ?_;rw[o.Vu g];exact⟨g,rfl,st1.ext,st1.mod⟩
 rintro _ _ ⟨bZ,rfl⟩;have ai:=st1.box;refine J ?_;refine L_ 24 m.scalars.length [1,2,22,23] (fun _:Unit=>[]) () (fun k _ w'=>j5 w0 w cn bo _ w' ((m.scalars.take k).map (·.name))) bc bc (st1.jc (by simp)) ?_;clear ai ao st1;rintro k _ S aP hk lQ;have ai:=lQ.box;have ba:=lQ.ext;refine J ?_;apply I_<;>intro g1
 .have aZ:k<m.scalars.length:=by omega
  obtain⟨a,rfl⟩:=af.addr;refine J ?_;intro aR b0 fW aA bu;have kW:=lQ.then aA;refine J ?_;refine _v kW.set fun bq hw sZ=>?_;refine J ?_;exact⟨aZ,aU,(),trivial,(kW.wr hw sZ).jc (o.Cv _ _ aZ).symm⟩
 replace lQ:=lQ.jc (show _=o.r1 m 0 by rw[List.take_of_length_le (by omega)];simp);refine J ?_;refine J_ (ab4 _ _ m.vars m.scalars 12 aP (aM.ext ba) (h1.ext ba) (af.ext ba)) ?_;rintro _ aR ⟨rfl,aA⟩;replace lQ:=lQ.then aA;clear ai ba;have ai:=lQ.box;rw[o.aqL];refine J ?_;refine L_ 43 m.vars.length [1,2,4,5,41,42] (fun _:Unit=>[]) () (fun k _ w'=>j5 w0 w cn bo _ w' (o.r1 m k)/\∀j,j<k->o.jy m j=0) bc bc ⟨lQ,fun j h=>absurd h (Nat.not_lt_zero _)⟩ ?_;clear ai lQ aA;rintro k _ aX bq hk ⟨ie,bA⟩;have ai:=ie.box;have bU:=ie.ext;refine J ?_;apply I_<;>intro g1
 .have aZ:k<m.vars.length:=by omega
  obtain⟨a,rfl⟩:=h1.addr;have fN:=o.B6 (f:=fun x:o.Var=>x.name) aZ;refine J ?_;intro CA j7 l4 nk qK;refine eh ?_;intro bB gn b4;have aT:=gn.ext nk l4;have hL:=ie.then aT;replace ai:=hL.box;clear qK nk;refine eh ?_;refine S_ [1,2,4,5,8,9,41,42,43] (fun _:Unit=>[]) (fun _ w'=>w'=bB/\o.og m k=0) ?_ ?_
  .refine J ?_;apply I_<;>intro g2
   .refine J ?_;refine X_ (q9 (o.first m.vars.length (o.og m)).2 2 k 0 bB) ?_ ?_
    .rintro _ _ ⟨hd,rfl⟩;refine J ?_;exact⟨(),trivial,aU,o.vu hd k aZ⟩
    .rintro c _ ⟨hd,rfl,rfl⟩;obtain⟨i,U,bt,aI⟩:=o.Wf hd;obtain rfl:k=i:=by omega
     rw[aI] at hd;have kN:o.jy m k=o.og m k:=by unfold o.jy;rw[if_pos hd]
     have a6:=o.G7 bZ aZ bA (by rw[kN];exact hd);rw[kN] at a6;refine J ?_;rw[a6,aI];exact⟨hd,aU,hL.ext,hL.mod⟩
   .refine J ?_;refine⟨(),trivial,aU,?_⟩;apply Classical.byContradiction;intro cw;apply g2;rw[o.ji aZ (fun j aE=>o.K4 (bA j aE)) cw]
  rintro _ kB _ ⟨rfl,jm⟩;refine J ?_;refine X_ (KT cn (o.r1 m k) m.vars[k].name 2 k _ hL.set) ?_ ?_
  .rintro _ bQ ⟨ay,dT,jW⟩;refine J ?_;refine⟨aZ,aU,(),trivial,(hL.wr dT jW).jc (by simp only[o.r1,o.zS];rw[o.Cv (fun x:o.Var=>x.name) _ aZ,List.append_assoc]),fun j aE=>?_⟩;by_cases gV:j=k
   .subst gV;unfold o.jy;rw[if_neg (by simpa using jm),fN,if_neg ay]
   .exact bA j (by omega)
  .rintro c _ ⟨ay,rfl,rfl⟩;have kN:o.jy m k=7:=by unfold o.jy;rw[if_neg (by simpa using jm),fN,if_pos ay]
   have a6:=o.G7 bZ aZ bA (by rw[kN];decide);rw[kN] at a6;refine J ?_;rw[a6];exact⟨(show(7:Int)≠0 by decide),aU,hL.ext,hL.mod⟩
 have lK:m.vars.length<=k:=by omega
 have mA:∀j,j<m.vars.length->o.jy m j=0:=fun j aE=>bA j (by omega);replace ie:=ie.jc (show _=o.nw m 0 by simp only[o.nw,o.r1,o.zS,o.zR];rw[List.take_of_length_le lK];simp);refine J ?_;refine J_ (aeE _ _ m.aw m.scalars bq (aM.ext bU) (I.ext bU) (af.ext bU)) ?_;rintro _ bB ⟨rfl,aT⟩;replace ie:=ie.then aT;clear ai bU;have ai:=ie.box;rw[o.aeD];refine J ?_;refine L_ 71 m.aw.length [1,2,4,5,69,70] (fun _:Unit=>[]) () (fun k _ w'=>j5 w0 w cn bo _ w' (o.nw m k)/\∀j,j<k->o.kk m j=0) bc bc ⟨ie,fun j h=>absurd h (Nat.not_lt_zero _)⟩ ?_;clear ai ie aT;rintro k _ aX bQ hk ⟨jn,bA⟩;have ai:=jn.box;have dQ:=jn.ext;refine J ?_;apply I_<;>intro g1
 .have aZ:k<m.aw.length:=by omega
  obtain⟨a,rfl⟩:=I.addr;have fN:=o.B6 (f:=fun x:o.dv=>x.name) aZ;refine J ?_;intro CA j7 l4 nk qK;refine eh ?_;intro bB gn b4;have aT:=gn.ext nk l4;have hL:=jn.then aT;replace ai:=hL.box;clear qK nk;refine eh ?_;refine S_ [1,2,4,5,10,11,69,70,71] (fun _:Unit=>[]) (fun _ w'=>w'=bB/\o.nS m k=0) ?_ ?_
  .refine J ?_;apply I_<;>intro g2
   .refine J ?_;refine X_ (q9 (o.first m.aw.length (o.nS m)).2 3 k 0 bB) ?_ ?_
    .rintro _ _ ⟨hd,rfl⟩;refine J ?_;exact⟨(),trivial,aU,o.vu hd k aZ⟩
    .rintro c _ ⟨hd,rfl,rfl⟩;obtain⟨i,U,bt,aI⟩:=o.Wf hd;obtain rfl:k=i:=by omega
     rw[aI] at hd;have kN:o.kk m k=o.nS m k:=by unfold o.kk;rw[if_pos hd]
     have a6:=o.G5 bZ mA aZ bA (by rw[kN];exact hd);rw[kN] at a6;refine J ?_;rw[a6,aI];exact⟨hd,aU,hL.ext,hL.mod⟩
   .refine J ?_;refine⟨(),trivial,aU,?_⟩;apply Classical.byContradiction;intro cw;apply g2;rw[o.ji aZ (fun j aE=>o.GU (bA j aE)) cw]
  rintro _ kB _ ⟨rfl,jm⟩;refine J ?_;refine X_ (KT cn (o.nw m k) m.aw[k].name 3 k _ hL.set) ?_ ?_
  .rintro _ bQ ⟨ay,dT,jW⟩;refine J ?_;refine⟨aZ,aU,(),trivial,(hL.wr dT jW).jc (by simp only[o.nw,o.zR];rw[o.Cv (fun x:o.dv=>x.name) _ aZ,List.append_assoc]),fun j aE=>?_⟩;by_cases gV:j=k
   .subst gV;unfold o.kk;rw[if_neg (by simpa using jm),fN,if_neg ay]
   .exact bA j (by omega)
  .rintro c _ ⟨ay,rfl,rfl⟩;have kN:o.kk m k=7:=by unfold o.kk;rw[if_neg (by simpa using jm),fN,if_pos ay]
   have a6:=o.G5 bZ mA aZ bA (by rw[kN];decide);rw[kN] at a6;refine J ?_;rw[a6];exact⟨(show(7:Int)≠0 by decide),aU,hL.ext,hL.mod⟩
 have qO:m.aw.length<=k:=by omega
 refine J ?_;refine⟨by rw[o.Vs bZ mA fun j aE=>bA j (by omega)];rfl,jn.ext,jn.mod,(jn.jc ?_).set⟩;simp only[o.nw,o.zR];rw[List.take_of_length_le qO,List.take_of_length_le (Nat.le_refl _)]
end Go.Proofs.R
end
section
namespace Go.Proofs.R
open Go Go.RowKit bb
theorem j5.Ro{w0 w w' bK:A_}{cn bo k:Nat}{cs:C_ B_}{L:C_ ByteArray}(h:j5 w0 w cn bo cs w' L)(dy:w0.heap.size<=w.heap.size)(hw:dn k w' bK)(hk:w.heap.size<=k)(h1:bo≠k)(I:cn≠k):j5 w0 w cn bo cs bK L :=
 ⟨hw.ext h.ext (Nat.le_trans dy hk),h.mod.then (hw.mod (A:=fun j=>j=k) rfl) fun i U e=>absurd e (by omega),hw.obj h.box h1,h.set.wr hw I,h.low,h.ne⟩
theorem anM{w0:A_}(cs:C_ B_)(m:o.Model)(cn:Nat)(w:A_)(h:o.dV w0 cs m)(aK:m.cN)(ej:Ext w0 w)(pe:w0.heap.size<=cn)(aM:gB w0)(a6:(o.data m).cA=0)(an:fK w cn (o.nw m m.aw.length)) :
  qt Tryz.prog F.df #[.agg cs.toArray,.map (some cn)] w (fun _ w'=>(o.me m).cA=0/\Ext w0 w'/\Mod (fun k=>k=cn) w w'/\fK w' cn (o.iZ m m.procs.length))
   (fun c w'=>(o.me m).cA≠0/\c=wI (o.me m)/\Ext w0 w'/\Mod (fun k=>k=cn) w w'):=by
 have a1:=h;obtain⟨cd,bw,bO,c1,bV,c2,b2,br,cj,bF,rfl,af,h1,I,ab,aD,eU,ek,ev,ef,ew⟩:=h.form;have dy:=ej.size;refine _m lj E.df AP (args:=[_,_]) (Nat.le_of_ble_eq_true rfl) ?_;dsimp only[C.df];refine nO ?_;refine J ?_;intro w1 bo cT al ai;have st1:j5 w0 w cn bo _ w1 (o.nw m m.aw.length):=⟨ej.trans al,al.mod,ai,an.ext al,pe,by have:=an.lt;omega⟩;have ari:=an.lt;have gj:=cy ai;clear an ai;refine J ?_;refine _g fun aH gl aso ao fA=>?_;replace st1:=st1.then ao;have wC:fK aH gl []:=fK.empty fA;have z0:=al.size;have z2:=wC.lt;clear fA;refine J ?_;refine AB6 (b:=cn) rfl (k:=T.ad) (e:=T.n) (by kernel_rfl) st1.set fun aP r n aL aj p1=>?_;replace st1:=st1.then aj;replace wC:=wC.ext aj;have z4:=ao.size;have z5:=p1.lt;refine J ?_;refine _W [1,2,4,20] (fun _:C_ ByteArray×Nat=>[]) ([],n) (fun x w'=>j5 w0 w cn bo _ w' (o.nw m m.aw.length)/\fK w' gl x.1/\∃cur,nJ w' r cn (o.nw m m.aw.length) x.1 x.2 cur) (fun x=>x.2) bc ⟨st1,wC,_,p1⟩ ?_;clear st1 wC p1;rintro⟨D,j9⟩ S aR ⟨kW,wC,cur,p1⟩;have ai:=kW.box;refine J ?_;refine AB7 rfl p1 (fun dA=>?_) (fun y bq ku bS ch fb XR=>?_);rotate_left
 .have ie:=kW.Ro dy fb (by omega) (by omega) (by omega);have ao6:=wC.wr fb (by omega);refine J ?_;refine AB8 rfl XR ?_;refine J ?_;refine _v ao6 fun bB gn ao7=>?_;have hL:=ie.Ro dy gn (by omega) (by omega) (by omega);have ai7:=XR.wr gn (by omega) (by omega);refine J ?_;exact⟨(D++[y],ku),trivial,⟨hL,ao7,_,ai7⟩,ch⟩
 have jG:fK aR gl (o.iZ m 0):=wC.jc fun x=>by
  have aks:=p1.sub;simp only[o.iZ,o.yb,List.take_zero,List.map_nil,List.append_nil];exact⟨fun ag=>aks x ag,fun ag=>dA x ag⟩
 clear wC p1 dA;refine J ?_;refine L_ 30 m.procs.length [1,2,4,28,29] (fun _:Unit=>[]) () (fun k _ w'=>j5 w0 w cn bo _ w' (o.nw m m.aw.length)/\fK w' gl (o.iZ m k)) bc bc ⟨kW,jG⟩ ?_;clear ai kW jG;rintro k _ aX bq hk ⟨ie,jG⟩;have ai:=ie.box;have bU:=ie.ext;refine J ?_;apply I_<;>intro g1
 .have aZ:k<m.procs.length:=by omega
  obtain⟨a,rfl⟩:=ab.addr;obtain⟨_,b7,ec,ar,e2,dD⟩:=ab.at k aZ;obtain⟨e4,fL,rfl,fH⟩:=e2.form;obtain⟨ob,k5,rfl,lc⟩:=dD.form;replace ar:=ar.ext bU;refine J ?_;intro bB ho h6 aT c9;have hL:=ie.then aT;replace jG:=jG.ext aT;refine J ?_;refine _v jG fun bQ dT apb=>?_;have jn:=hL.Ro dy dT (by omega) (by omega) (by omega);refine J ?_;exact⟨aZ,aU,(),trivial,jn,by simp only[o.iZ,o.yb];rw[o.Cv (fun x:o.dz=>x.name) _ aZ,<-List.append_assoc];exact apb⟩
 have abj:∀{w'},fK w' gl (o.iZ m k)->fK w' gl (o.iZ m m.procs.length):=fun h=>h.jc fun x=>by
  simp only[o.iZ,o.yb];rw[List.take_of_length_le (by omega),List.take_of_length_le (Nat.le_refl _)]
 replace jG:=abj jG;clear abj;replace ie:=ie.jc (show _=o.iZ m 0 by simp[o.iZ]);refine J ?_;refine L_ 41 m.procs.length [1,2,4,39,40] (fun _:Unit=>[]) () (fun k _ w'=>j5 w0 w cn bo _ w' (o.iZ m k)/\fK w' gl (o.iZ m m.procs.length)/\∀j,j<k->(o.iA m j).1=0) bc bc ⟨ie,jG,fun j h=>absurd h (Nat.not_lt_zero _)⟩ ?_;clear ai bU ie jG;rintro k _ kB bB hk ⟨hL,jG,bA⟩;have ai:=hL.box;have c8:=hL.ext;have Aq:=hL.mod.size;refine J ?_;apply I_<;>intro g1
 .have aZ:k<m.procs.length:=by omega
  obtain⟨a,rfl⟩:=ab.addr;obtain⟨lM,b7,ec,ar,e2,dD⟩:=ab.at k aZ;obtain⟨e4,fL,rfl,fH⟩:=e2.form;obtain⟨ob,k5,rfl,lc⟩:=dD.form;have oH:=aK.proc _ (List.getElem_mem aZ);have ep:=o.MF aZ;replace ar:=ar.ext c8;refine J ?_;intro CA j7 l4 nk qK;refine eh ?_;intro bQ dT dX;have bz:=dT.ext nk l4;have jn:=hL.then bz;replace jG:=jG.ext bz;replace ai:=jn.box;have auK:=cy dX;have FZ:=jG.lt;have dQ:=jn.ext;clear qK nk dT;refine J ?_;apply I_<;>intro g2
  .have bx:6<=k:=by omega
   rw[if_pos bx] at ep;have il:=o.Fp aZ bA (by rw[ep];decide);rw[ep] at il;refine J ?_;refine X_ (q9 11 4 k 0 bQ) ?_ ?_
   .rintro _ _ ⟨hd,_⟩;exact absurd hd (by decide)
   .rintro c _ ⟨_,rfl,rfl⟩;refine J ?_;rw[il];exact⟨(show(11:Int)≠0 by decide),aU,dQ,jn.mod⟩
  rw[if_neg (by omega)] at ep;refine J ?_;intro de bP;replace ai:=bP.obj ai;replace dX:=bP.obj dX;refine J ?_;refine J_ (abl _ m k de (a1.ext (dQ.trans bP)) aK) ?_;rintro _ dc ⟨⟨arU,rfl,IV⟩,ck⟩;refine⟨ck,?_⟩;have ma:=IV.here;obtain⟨ml,FX,j0,j1,kX,jK,pB,re,oP,CD,rfl,_⟩:=ma.form;refine J ?_;refine J_ (anx m.procs[k] _ _ (o.hi m k) dc (aM.ext (dQ.trans (bP.trans ck))) ⟨lM,_,_,rfl,e2.ext (dQ.trans (bP.trans ck)),dD.ext (dQ.trans (bP.trans ck))⟩ ma (aK.hi _) oH) ?_;rintro _ eY ⟨rfl,cG⟩;have VO:=(bP.trans ck).trans cG;have Aa:=jn.then VO;replace jG:=jG.ext VO;replace ai:=Aa.box;replace dX:=(ck.trans cG).obj dX;have auH:=cy dX;have auF:=jG.lt;clear ma IV jn dQ;have o9:=Aa.ext;have e9:=o.aas m.procs[k] (o.hi m k) 140737488351232 fun c ah=>by have:=(oH.cmd c ah).bY;unfold o.ei at this;omega
  have akx:m.procs[k].vars.length<=140737488351232:=by have:=oH.vars;unfold o.ei at this;omega
  have oE:m.procs[k].cL.length<=140737488351232:=by have:=oH.cL;unfold o.ei at this;omega
  refine J ?_;refine X_ (q9 (o.hU m.procs[k] (o.hi m k)).2.2 4 k (16*(o.hU m.procs[k] (o.hi m k)).1+(o.hU m.procs[k] (o.hi m k)).2.1) eY) ?_ ?_;rotate_left
  .rintro c _ ⟨hd,rfl,rfl⟩;rw[if_pos hd] at ep;have il:=o.Fp aZ bA (by rw[ep];exact hd);rw[ep] at il;refine J ?_;rw[il];exact⟨hd,aU,o9,Aa.mod⟩
  rintro _ oh ⟨hd,rfl⟩;rw[if_neg (by simpa using hd)] at ep;refine J ?_;refine X_ (KT cn (o.iZ m k) m.procs[k].name 4 k oh Aa.set) ?_ ?_;rotate_left
  .rintro c _ ⟨ay,rfl,rfl⟩;rw[if_pos ay] at ep;have il:=o.Fp aZ bA (by rw[ep];decide);rw[ep] at il;refine J ?_;rw[il];exact⟨(show(7:Int)≠0 by decide),aU,o9,Aa.mod⟩
  rintro _ gw ⟨ay,ia,Yu⟩;rw[if_neg ay] at ep;have KN:j5 w0 w cn bo _ gw (o.iZ m (k+1)):=(Aa.wr ia Yu).jc (by simp only[o.iZ,o.yb];rw[o.Cv (fun x:o.dz=>x.name) _ aZ,List.append_assoc]);replace jG:=jG.wr ia (by omega);replace ai:=KN.box;replace dX:=ia.obj dX (by omega);have Mx:=KN.ext;have Rw:=ia.size;clear Aa o9;refine J ?_;refine L_ 74 m.procs[k].vars.length [1,2,4,8,9,39,40,41,72,73] (fun _:Unit=>[]) () (fun j _ w'=>j5 w0 w cn bo _ w' (o.iZ m (k+1))/\fK w' gl (o.iZ m m.procs.length)/\Ext gw w'/\∀i,i<j->o.qF m m.procs[k] i=0) bc bc ⟨KN,jG,Ext.refl _,fun j h=>absurd h (Nat.not_lt_zero _)⟩ ?_;have kK:=dX;clear KN jG ai dX Mx;rintro j _ GA jr aE ⟨KO,jG,fz,rU⟩;have ai:=KO.box;have dX:=fz.obj kK;have sM:=KO.ext;refine J ?_;apply I_<;>intro g3
  .have et:j<m.procs[k].vars.length:=by omega
   obtain⟨cD,rfl⟩:=e2.addr;have eo:=((e2.at j et).cells).ext sM;have fN:=o.B6 (f:=fun x:o.Var=>x.name) et;refine J ?_;intro auh tK D2 XF Ny;refine eh ?_;intro nA jX pf;have iD:=jX.ext XF D2;have KP:=KO.then iD;replace jG:=jG.ext iD;replace ai:=KP.box;clear Ny XF jX;refine J ?_;refine AA0 jG ?_;refine J ?_;apply I_<;>intro g4
   .have ue:o.qF m m.procs[k] j=7:=by unfold o.qF;rw[fN,if_pos g4]
    rw[o.ji et rU (by rw[ue];decide),ue,if_pos (show(7:Int)≠0 by decide)] at ep;have il:=o.Fp aZ bA (by rw[ep];exact(show(7:Int)≠0 by decide));rw[ep] at il;refine J ?_;refine X_ (q9 7 4 k (16+j) nA) ?_ ?_
    .rintro _ _ ⟨zc,_⟩;exact absurd zc (by decide)
    .rintro c _ ⟨_,rfl,rfl⟩;refine J ?_;rw[il];exact⟨(show(7:Int)≠0 by decide),aU,KP.ext,KP.mod⟩
   .refine J ?_;refine⟨et,aU,(),trivial,KP,jG,fz.trans iD,fun i U=>?_⟩;by_cases BJ:i=j
    .subst BJ;unfold o.qF;rw[fN,if_neg g4]
    .exact rU i (by omega)
  .rw[o.pa fun i U=>rU i (by omega),if_neg (by simp)] at ep;refine J ?_;refine⟨aZ,aU,(),trivial,KO,jG,fun i U=>?_⟩;by_cases BK:i=k
   .subst BK;rw[ep]
   .exact bA i (by omega)
 have zw:m.procs.length<=k:=by omega
 have lF:∀j,j<m.procs.length->(o.iA m j).1=0:=fun j aE=>bA j (by omega);have Ix:=o.G6 a6;have rQ:m.procs.length<=6:=by
  apply Classical.byContradiction;intro ay
  have:=o.HC (i:=6) (by omega) (lF 6 (by omega))
  omega
 have sU:o.uZ m:=⟨by omega,by omega,by omega,fun p ar=>by
  obtain⟨j,aE,rfl⟩:=List.mem_iff_getElem.1 ar
  have:=o.P9 (o.Bd aE (lF j aE)).2.1
  omega⟩
 refine J ?_;refine J_ (anE _ m bB (a1.ext c8) sU) ?_;rintro _ bQ ⟨rfl,bz⟩;have jn:=hL.then bz;replace ai:=jn.box;have qS:=o.Qb lF;have OJ:fK bQ cn (o.iZ m m.procs.length):=by
  have h:=jn.set;simp only[o.iZ,o.yb] at h ⊢;rw[List.take_of_length_le zw] at h;rw[List.take_of_length_le (Nat.le_refl _)];exact h
 refine J ?_;apply I_<;>intro g2
 .rw[if_pos (.inl (by omega))] at qS;refine J ?_;refine X_ (q9 11 4 m.procs.length 0 bQ) ?_ ?_
  .rintro _ _ ⟨zc,_⟩;exact absurd zc (by decide)
  .rintro c _ ⟨_,rfl,rfl⟩;refine J ?_;rw[qS];exact⟨(show(11:Int)≠0 by decide),aU,jn.ext,jn.mod⟩
 refine J ?_;apply I_<;>intro g3
 .rw[if_pos (.inr (by omega))] at qS;refine J ?_;refine X_ (q9 11 4 m.procs.length 0 bQ) ?_ ?_
  .rintro _ _ ⟨zc,_⟩;exact absurd zc (by decide)
  .rintro c _ ⟨_,rfl,rfl⟩;refine J ?_;rw[qS];exact⟨(show(11:Int)≠0 by decide),aU,jn.ext,jn.mod⟩
 rw[if_neg (by omega)] at qS;refine J ?_;exact⟨by rw[qS];rfl,jn.ext,jn.mod,OJ⟩
theorem anO{w0:A_}(cs:C_ B_)(m:o.Model)(cn:Nat)(w:A_)(h:o.dV w0 cs m)(aK:m.cN)(ej:Ext w0 w)(pe:w0.heap.size<=cn)(aM:gB w0)(an:fK w cn (o.iZ m m.procs.length)) :
  qt Tryz.prog F.a2 #[.agg cs.toArray,.map (some cn)] w (fun _ w'=>(o.pr m).cA=0/\Ext w0 w'/\Mod (fun k=>k=cn) w w')
   (fun c w'=>(o.pr m).cA≠0/\c=wI (o.pr m)/\Ext w0 w'/\Mod (fun k=>k=cn) w w'):=by
 have a1:=h;obtain⟨cd,bw,bO,c1,bV,c2,b2,br,cj,bF,rfl,af,h1,I,ab,aD,eU,ek,ev,ef,ew⟩:=h.form;refine _m lj E.a2 AP (args:=[_,_]) (Nat.le_of_ble_eq_true rfl) ?_;dsimp only[C.a2];refine nO ?_;refine J ?_;intro w1 bo cT al ai;have st1:j5 w0 w cn bo _ w1 (o.r0 m 0):=⟨ej.trans al,al.mod,ai,by have:=an.ext al;simpa[o.r0] using this,pe,by have:=an.lt;omega⟩;have ari:=an.lt;have z0:=al.size;clear an;refine J ?_;refine J_ (abl _ m (-1) w1 (a1.ext st1.ext) aK) ?_;rintro _ aH ⟨⟨arT,rfl,l8⟩,ao⟩;rw[o.Ks (.inl (by decide))] at l8;have ma:=l8.here;obtain⟨ml,FX,j0,j1,kX,jK,pB,re,oP,CD,rfl,_⟩:=ma.form;clear ma;have st2:=st1.then ao;clear ai st1;have gj:=ao.size;refine J ?_;intro aP cF fy aj bH;have xV:=l8.ext aj gj;have lQ:=st2.then aj;have ai:=lQ.box;clear l8 st2;refine J ?_;refine L_ 14 m.props.length [1,2,4,12,13] (fun _:Unit=>[]) () (fun k _ w'=>j5 w0 w cn bo _ w' (o.r0 m k)/\eD w1 (fun w=>o.fJ w _ (o.ey m)) w'/\w'.heap[cF]? = some (.cells (List.toArray [_,_,_,_,_,_]) T.w)/\w1.heap.size<=w'.heap.size/\∀j,j<k->o.nd m j=0) bc bc ⟨lQ,xV,bH,by have:=aj.size;omega,fun j h=>absurd h (Nat.not_lt_zero _)⟩ ?_;clear ai lQ xV bH;rintro k _ S aR hk ⟨kW,nr,bH,z4,bA⟩;have ai:=kW.box;have bG:=kW.ext;refine J ?_;apply I_<;>intro g1
 .have aZ:k<m.props.length:=by omega
  obtain⟨a,rfl⟩:=aD.addr;obtain⟨lM,gI,ar,hh⟩:=aD.at k aZ;obtain⟨Km,ce,rfl,le⟩:=hh.form;have ep:=o.DF aZ;replace ar:=ar.ext bG;have z5:=kW.mod.size;refine J ?_;intro CA dP fX nk qK;refine eh ?_;intro bq fb b4;have aJ:=fb.ext nk fX;have ie:=kW.then aJ;replace nr:=nr.ext aJ z4;replace bH:=aJ.obj bH;replace ai:=ie.box;have bU:=ie.ext;clear qK nk fb kW;have a6:o.nd m k≠0->o.pr m=⟨o.nd m k,5,k,0⟩:=o.aav aZ bA;refine J ?_;apply I_<;>intro g2
  .rw[if_pos (by omega)] at ep;rw[ep] at a6;replace a6:=a6 (by decide);refine J ?_;refine X_ (q9 11 5 k 0 bq) ?_ ?_
   .rintro _ _ ⟨hd,_⟩;exact absurd hd (by decide)
   .rintro c _ ⟨_,rfl,rfl⟩;refine J ?_;rw[a6];exact⟨(show(11:Int)≠0 by decide),aU,bU,ie.mod⟩
  rw[if_neg (by omega)] at ep;refine J ?_;refine J_ (Kf m.props[k].name bq (aM.ext bU) lM) ?_;rintro _ bB ⟨rfl,aT⟩;have hL:=ie.then aT;replace nr:=nr.ext aT (by have:=aJ.size;omega);replace bH:=aT.obj bH;replace b4:=aT.obj b4;replace ai:=hL.box;have c8:=hL.ext;clear ie;refine J ?_;refine N_ (fun g3=>?_) (fun g3=>?_);rotate_left
  .rw[if_pos g3] at ep;rw[ep] at a6;replace a6:=a6 (by decide);refine J ?_;refine X_ (q9 6 5 k 0 bB) ?_ ?_
   .rintro _ _ ⟨hd,_⟩;exact absurd hd (by decide)
   .rintro c _ ⟨_,rfl,rfl⟩;refine J ?_;rw[a6];exact⟨(show(6:Int)≠0 by decide),aU,c8,hL.mod⟩
  rw[if_neg (by rw[g3];decide)] at ep;refine J ?_;refine X_ (KT cn (o.r0 m k) m.props[k].name 5 k bB hL.set) ?_ ?_;rotate_left
  .rintro c _ ⟨ay,rfl,rfl⟩;rw[if_pos ay] at ep;rw[ep] at a6;replace a6:=a6 (by decide);refine J ?_;rw[a6];exact⟨(show(7:Int)≠0 by decide),aU,hL.ext,hL.mod⟩
  rintro _ bQ ⟨ay,dT,jW⟩;rw[if_neg ay] at ep;have jn:j5 w0 w cn bo _ bQ (o.r0 m (k+1)):=(hL.wr dT jW).jc (by simp only[o.r0,o.PM];rw[o.Cv (fun x:o.k0=>x.name) _ aZ,List.append_assoc]);replace nr:=nr.wr dT (by omega);replace bH:=dT.obj bH (by omega);replace b4:=dT.obj b4 (by omega);replace ai:=jn.box;have dQ:=jn.ext;clear hL c8;refine J ?_;refine J_ (Zl _ m.props[k].expr _ _ bQ (hh.ext dQ) nr.here) ?_;rintro _ de ⟨rfl,bP⟩;have FI:=jn.then bP;have acs:=dT.size;replace nr:=nr.ext bP (by have:=aJ.size;have:=aT.size;omega);replace bH:=bP.obj bH;replace ai:=FI.box;have gm:=FI.ext;clear jn;refine J ?_;refine X_ (q9 (o.kind m.props[k].expr (o.ey m)).2 5 k 0 de) ?_ ?_;rotate_left
  .rintro c _ ⟨hd,rfl,rfl⟩;rw[if_pos hd] at ep;rw[ep] at a6;replace a6:=a6 hd;refine J ?_;rw[a6];exact⟨hd,aU,gm,FI.mod⟩
  rintro _ dc ⟨hd,rfl⟩;rw[if_neg (by simpa using hd)] at ep;refine J ?_;apply I_<;>intro g4;rotate_left
  .rw[if_pos g4] at ep;rw[ep] at a6;replace a6:=a6 (by decide);refine J ?_;refine X_ (q9 9 5 k 0 dc) ?_ ?_
   .rintro _ _ ⟨zc,_⟩;exact absurd zc (by decide)
   .rintro c _ ⟨_,rfl,rfl⟩;refine J ?_;rw[a6];exact⟨(show(9:Int)≠0 by decide),aU,gm,FI.mod⟩
  rw[if_neg (by simpa using g4)] at ep;refine J ?_;refine⟨aZ,aU,(),trivial,FI,nr,bH,by have:=aJ.size;have:=aT.size;have:=bP.size;omega,fun i U=>?_⟩;by_cases BK:i=k
  .subst BK;rw[ep]
  .exact bA i (by omega)
 refine J ?_;exact⟨by rw[o.Qd fun j aE=>bA j (by omega)];rfl,bG,kW.mod⟩
end Go.Proofs.R
end