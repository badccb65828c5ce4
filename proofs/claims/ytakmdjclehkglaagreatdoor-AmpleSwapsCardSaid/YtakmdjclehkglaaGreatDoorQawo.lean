/- Parts. -/
import Derived.Test.YtakmdjclehkglaaGreatDoorQawn
set_option linter.all false
set_option maxRecDepth 8000
set_option maxHeartbeats 16000000
section
namespace Go.Proofs.R
open Go Go.RowKit a7
theorem Mf(l:C_ Int)(n:Int):(decide ((o.gL l n).2=0)=true->o.gL l n=((o.gL l n).1,0))/\(decide ((o.gL l n).2=0)=false->o.gL l n=(0,8)):=by
 rcases asM l n with h | h
 .exact⟨fun _=>Prod.ext rfl h,fun bk=>by simp[h] at bk⟩
 .exact⟨fun bk=>by simp[h] at bk,fun _=>h⟩
theorem aq5(x:o.Node)(cs:C_ B_)(v:o.Env)(w:A_)(af:x.ok)(h:o.pY w cs v)(ab:x.op≠3)(t:Int) :
  Dz F.Ks #[.agg x.enc.toArray,.agg cs.toArray] w fun u w'=>u = .tuple #[.I (o.gw x v t).1,.I (o.gw x v t).2]/\Ext w w':=by
 obtain⟨a0,bu,cZ,c1,a2,c2,a3,bp,rfl,o6,cO,de,dQ,gK,eU,eh,eo,dY⟩:=h.form;refine bl E.Ks ?_;refine ay ?_;refine O_ fun w1 br cF ah al=>?_;refine ay ?_;refine O_ fun aB bP db aj au=>?_;have he:=ah.trans aj;have cq:aB.heap[br]? = some (.cells #[.I x.op,.I x.n] T.e):=aj.obj al;clear al;refine ay ?_;apply I_<;>intro g1
 .have hk:o.gw x v t=if o.within x.n then (x.n,0) else (0,10):=by rw[o.gw,if_pos g1]
  (repeat' (refine ay ?_;first | (refine I_ (fun _=>?_) (fun _=>?_)<;>try (exfalso;omega)) | refine N_ (fun _=>?_) (fun _=>?_)))<;>try refine ay ?_
  all_goals
   refine⟨?_,fE⟩;rw[hk];unfold o.within;split<;>first | rfl | (rename_i cN;simp at cN;exfalso;omega)
 refine ay ?_;apply I_<;>intro g2
 .by_cases uB:x.n<0\/(v.vars.length:Int)<=x.n
  .have hk:o.gw x v t=(0,8):=by rw[o.gw,if_neg g1,if_pos g2,o.gI uB]
   rw[hk]
   (repeat' (refine ay ?_;first | (refine I_ (fun _=>?_) (fun _=>?_)<;>try (exfalso;omega)) | refine N_ (fun _=>?_) (fun _=>?_)))<;>try refine ay ?_
   all_goals exact b5
  obtain⟨i,U⟩:=Rt (show 0<=x.n by omega);have kq:i<v.vars.length:=Aw
  obtain⟨a,rfl⟩:=o6.addr;obtain⟨bH,j7,gm⟩:=o6.at i kq;have ax:o.nth v.vars x.n=some v.vars[i]:=by rw[U,o.iv Aw Aw];simp only[Int.toNat_natCast]
  have hk:o.gw x v t=o.gL v.vars[i] 0:=by rw[o.gw,if_neg g1,if_pos g2,ax]
  rw[hk];rw[U] at cq;refine ay ?_;refine M_ (he.cell j7) ?_;refine ay ?_;refine J_ (LG _ v.vars[i] 0 aB (gm.ext he)) ?_;rintro _ aK ⟨rfl,ag⟩;obtain⟨kh,jX⟩:=Mf v.vars[i] 0;refine ay ?_;refine N_ (fun g=>?_) (fun g=>?_)
  .refine ay ?_;rw[kh g];exact b5
  .refine ay ?_;rw[jX g];exact b5
 refine ay ?_;apply I_<;>intro g4
 .have hk:o.gw x v t=o.gL v.locals x.n:=by rw[o.gw,if_neg g1,if_neg g2,if_neg ab,if_pos g4]
  rw[hk];refine ay ?_;refine J_ (LG _ v.locals x.n aB (de.ext he)) ?_;rintro _ aK ⟨rfl,ag⟩;obtain⟨kh,jX⟩:=Mf v.locals x.n;refine ay ?_;refine N_ (fun g=>?_) (fun g=>?_)
  .refine ay ?_;rw[kh g];exact b5
  .refine ay ?_;rw[jX g];exact b5
 refine ay ?_;apply I_<;>intro g5
 .have hk:o.gw x v t=(v.self,0):=by rw[o.gw,if_neg g1,if_neg g2,if_neg ab,if_neg g4,if_neg Aw,if_pos g5]
  rw[hk];refine ay ?_;exact b5
 refine ay ?_;apply I_<;>intro g6
 .have hk:o.gw x v t=o.gL v.lens x.n:=by rw[o.gw,if_neg g1,if_neg g2,if_neg ab,if_neg g4,if_pos g6]
  rw[hk];refine ay ?_;refine J_ (LG _ v.lens x.n aB (cO.ext he)) ?_;rintro _ aK ⟨rfl,ag⟩;obtain⟨kh,jX⟩:=Mf v.lens x.n;refine ay ?_;refine N_ (fun g=>?_) (fun g=>?_)
  .refine ay ?_;rw[kh g];exact b5
  .refine ay ?_;rw[jX g];exact b5
 refine ay ?_;apply I_<;>intro g7;rotate_left
 .have hk:o.gw x v t=(0,0):=by rw[o.gw,if_neg g1,if_neg g2,if_neg ab,if_neg g4,if_neg g6,if_neg g5,if_neg g7]
  rw[hk];refine ay ?_;exact b5
 have hk:o.gw x v t=if 0<=x.n then (match o.nth v.at_ (x.n.tdiv 16) with | some l=>o.gL l (x.n.tmod 16) | none=>(0,8)) else (0,8):=by
  rw[o.gw,if_neg g1,if_neg g2,if_neg ab,if_neg g4,if_neg g6,if_neg g5,if_pos g7];split
  .cases o.nth v.at_ (x.n.tdiv 16)<;>rfl
  .rfl
 refine ay ?_;apply I_<;>intro g8
 .rw[hk,if_neg Aw];refine ay ?_;exact b5
 rw[if_pos Aw] at hk;obtain⟨i,U⟩:=Rt (show 0<=x.n by omega);obtain⟨_,ft⟩:=af.n;rw[U] at ft;have ao:x.n.tdiv 16=((i / 16:Nat):Int):=by rw[U];rfl
 have alq:x.n.tmod 16=((i % 16:Nat):Int):=by rw[U];rfl
 refine ay ?_;refine _J Aw ?_;rw[ao];refine ay ?_;apply I_<;>intro g9
 .rw[hk,o.gI (.inr Aw)];refine ay ?_;exact b5
 have aC:i / 16<v.at_.length:=Aw
 obtain⟨a,rfl⟩:=dQ.addr;obtain⟨bH,j7,gm⟩:=dQ.at (i / 16) aC;rw[ao,o.iv Aw Aw] at hk;simp only[Int.toNat_natCast] at hk;rw[hk];refine ay ?_;refine _J Aw ?_;rw[ao];refine ay ?_;refine M_ (he.cell j7) ?_;refine ay ?_;refine _s Aw ?_;refine ay ?_;refine P_ _ (fun w' e=>LG _ v.at_[i / 16] _ w' (gm.ext (he.trans e))) ?_;obtain⟨kh,jX⟩:=Mf v.at_[i / 16] (x.n.tmod 16);refine ay ?_;intro aK ag;refine ay ?_;refine N_ (fun g=>?_) (fun g=>?_)
 .refine ay ?_;rw[kh g];exact b5
 .refine ay ?_;rw[jX g];exact b5
def tN(x:o.Node)(k:Int)(v:o.Env):Int×Int:=match o.gJ x.op with | some ae=>o.xh ae [k] | none=>o.gw x v k
theorem aqM(x:o.Node)(k:Int)(cs:C_ B_)(v:o.Env)(w:A_)(h:o.pY w cs v)(lW:x.op=3\/x.op=9\/x.op=10) :
  Dz F.Kn #[.agg x.enc.toArray,.I k,.agg cs.toArray] w fun u w'=>u = .tuple #[.I (tN x k v).1,.I (tN x k v).2]/\Ext w w':=by
 obtain⟨a0,bu,cZ,c1,a2,c2,a3,bp,rfl,o6,cO,de,dQ,gK,eU,eh,eo,dY⟩:=h.form;refine bl E.Kn ?_;refine ay ?_;refine O_ fun w1 br cF ah al=>?_;refine ay ?_;refine O_ fun aB bP db aj au=>?_;have he:=ah.trans aj;have cq:aB.heap[br]? = some (.cells #[.I x.op,.I x.n] T.e):=aj.obj al;clear al;refine ay ?_;apply I_<;>intro g9
 .have hk:tN x k v=(o.bit (decide (k=0)),0):=by rw[tN,g9];rfl
  rw[hk];refine ay ?_;refine J_ (AD _ aB) ?_;rintro _ _ ⟨rfl,rfl⟩;refine ay ?_;exact b5
 refine ay ?_;apply I_<;>intro g10
 .have hk:tN x k v=if (o.tell (· - ·) 0 k).2=true then ((o.tell (· - ·) 0 k).1,0) else (0,10):=by rw[tN,g10];rfl
  rw[hk];refine ay ?_;refine J_ (ac3 0 k aB) ?_;rintro _ aK ⟨rfl,ag⟩;refine ay ?_;refine N_ (fun g=>?_) (fun g=>?_)
  all_goals
   refine ay ?_;rw[g];exact b5
 have g3:x.op=3:=Aw
 have gl:tN x k v=o.gw x v k:=by rw[tN,show o.gJ x.op=none from by rw[g3];rfl]
 have hk:tN x k v=(match o.nth v.vars x.n with | some l=>(match o.nth l (k - 1) with | some y=>(y,0) | none=>(0,10)) | none=>(0,8)):=by
  rw[gl,o.gw,if_neg Aw,if_neg Aw,if_pos g3];cases o.nth v.vars x.n with
  | none=>rfl
  | some l=>simp only;cases o.nth l (k - 1)<;>rfl
 clear gl;by_cases uB:x.n<0\/(v.vars.length:Int)<=x.n
 .rw[o.gI uB] at hk;rw[hk]
  (repeat' (refine ay ?_;first | (refine I_ (fun _=>?_) (fun _=>?_)<;>try (exfalso;omega)) | refine N_ (fun _=>?_) (fun _=>?_)))<;>try refine ay ?_
  all_goals exact b5
 obtain⟨i,U⟩:=Rt (show 0<=x.n by omega);have kq:i<v.vars.length:=Aw
 obtain⟨a,rfl⟩:=o6.addr;obtain⟨bH,j7,gm⟩:=o6.at i kq;obtain⟨b9,ci,rfl,li⟩:=gm.form;rw[U,o.iv Aw Aw] at hk;simp only[Int.toNat_natCast] at hk;rw[U] at cq;have ka:=gm.ext he;generalize v.vars[i]=l at *;by_cases D7:k<1\/(l.length:Int)<k
 .rw[o.gI Aw] at hk;simp only at hk;rw[hk];by_cases atX:k<1
  .refine ay ?_;exact b5
  .refine ay ?_;refine M_ (he.cell j7) ?_;refine ay ?_;exact b5
 obtain⟨j,aC⟩:=Rt (show 0<=k - 1 by omega);have kK:j<l.length:=Aw
 rw[o.iv Aw Aw] at hk;simp only[aC,Int.toNat_natCast] at hk;rw[hk];obtain⟨cp,rfl⟩:=gm.addr;refine ay ?_;refine M_ (he.cell j7) ?_;refine ay ?_;refine M_ (he.cell j7) ?_;refine ay ?_;refine K_ j Aw Aw ?_;refine ay ?_;exact b5
end Go.Proofs.R
end
section
namespace Go.Proofs.R
open Go Go.RowKit a7
theorem aia{v:o.Env}{x:o.Node}{st:C_ Int}(h:o.fe x.op=0):o.ha v x st=o.gw x v (st.getLastD 0):=by
 unfold o.ha;rw[(Lq h).2.2.2]
theorem aib{v:o.Env}{x:o.Node}{st:C_ Int}(h:o.fe x.op=1)(az:1<=st.length):o.ha v x st=tN x st[st.length - 1] v:=by
 unfold o.ha tN;cases aJ:o.gJ x.op with
 | none=>simp only;rw[D6 st Aw]
 | some ae =>
  have:=(o.FR aJ).1
  simp only;rw[show ae.parts.toNat=1 from Aw,Of az]
theorem aic{v:o.Env}{x:o.Node}{st:C_ Int}(h:o.fe x.op=2)(az:2<=st.length):o.ha v x st=rI x.op st[st.length - 2] st[st.length - 1]:=by
 unfold o.ha rI;obtain⟨ae,aJ,aq⟩:=ab0 (show 9<=x.op/\x.op<=19 by have:=Lr h;omega);rw[aJ];simp only;rw[show ae.parts.toNat=2 from Aw,Xf az]
theorem Sk(gQ:B_)(e:C_ o.Node)(cs:C_ B_)(v:o.Env)(w:A_)(he:o.eL w gQ e)(h:o.pY w cs v) :
  Dz F.Kg #[gQ,.agg cs.toArray] w fun u w'=>u = .tuple #[.I (o.eval e v).1,.I (o.eval e v).2]/\Ext w w':=by
 obtain⟨v0,v1,v2,v3,rfl,_⟩:=h.ex;obtain⟨aO,cap,rfl,hlen⟩:=he.form;refine bl E.Kg ?_;refine ay ?_;refine O_ fun w1 dk tt ah al=>?_;refine ay ?_;apply I_<;>intro g1
 .refine ay ?_;rw[o.eval,o.lh,if_pos Aw];exact b5
 refine ay ?_;apply I_<;>intro g2
 .refine ay ?_;rw[o.eval,o.lh,if_neg Aw,if_pos Aw];exact b5
 refine ay ?_;refine _i 7 e.length (fun k S w' => ∃u st,S 6=u/\nf w1.heap.size w' u st/\o.eP (o.ha v) (e.take k) []=(0,st)/\(0<k->1<=st.length)/\st.length<=12/\Ext w1 w')
  (by simp -dsimp only[cV,cu,Nat.reduceAdd,Nat.reduceEqDiff,reduceIte,reduceCtorEq,c3]) ⟨.slice none 0 0,[],by simp -dsimp only[cV,cu,Nat.reduceAdd,Nat.reduceEqDiff,reduceIte,reduceCtorEq,c3],aP.nil _ _ _ _ _,by simp[o.eP],Bh,Bh,Ext.refl _⟩ ?_
 rintro k S aB b3 hk b0 ⟨v6,st,bz,fK,hV,Ec,r7,aj⟩;have ad:=b3 0 rfl;have ab:=b3 3 rfl;simp only[bL,Nat.reduceAdd,Nat.reduceEqDiff,reduceIte,j4,nr] at ad ab;clear b3;obtain⟨qF,s5,rfl,b1,jN⟩:=fK.form;have U:Ints aB _ st:=aP.jg (enc:=encI) (sz:=1) (fun _=>rfl) fK;unfold maxLen at jN;refine dh (i_ ad (i_ ab (i_ bz b0))) ?_;apply I_<;>intro g3;rotate_left
 .have aV:k=e.length:=Aw
  subst aV;rw[AF1] at hV;have h1:=Ec Aw;obtain⟨a,rfl⟩:=U.addr h1;have dI:o.eval e v=if st.length > 1 then (0,5) else (st.headD 0,0):=by
   rw[o.eval,o.lh,if_neg Aw,if_neg Aw,hV,if_neg Bh]
  rw[dI];clear dI;refine dh (i_ ad (i_ ab (i_ bz b0))) ?_;apply I_<;>intro g4
  .refine ay ?_;rw[if_pos Aw];exact b5
  .refine dh (i_ ad (i_ ab (i_ bz b0))) ?_;refine K_ 0 rfl Aw ?_;refine ay ?_;rw[if_neg Aw]
   have:st.headD 0=st[0]:=by
    cases st with
    | nil=>simp at h1
    | cons z st=>rfl
   rw[this];exact b5
 have aV:k<e.length:=Aw
 obtain⟨a,rfl⟩:=he.addr;have uP:=(he.at k aV).ok;have kL:=fun ad=>o.St (f:=o.ha v) (e:=e) Aw aV hV ad;have uM:=o.w4 aV hV;have Ea:=ah.trans aj;have dX:=aj.obj al;refine dh (i_ ad (i_ ab (i_ bz b0))) ?_;refine J_ (adL e[k].op aB) ?_;rintro _ _ ⟨rfl,rfl⟩;generalize ax:o.fe e[k].op=n at *;have iH : -1<=n/\n<=2:=by rw[<-ax];unfold o.fe; (repeat' split)<;>omega
 refine dh (i_ ad (i_ ab (i_ bz b0))) ?_;apply I_<;>intro g4
 .have ak:o.stepG (o.ha v) e[k] st=(3,st):=by unfold o.stepG;rw[ax,if_pos g4]
  rw[ak] at kL;refine ay ?_;rw[o.eval,kL Bh];exact b5
 refine dh (i_ ad (i_ ab (i_ bz b0))) ?_;apply I_<;>intro g5
 .have ak:o.stepG (o.ha v) e[k] st=(4,st):=by unfold o.stepG;rw[ax,if_neg g4,if_pos g5]
  rw[ak] at kL;refine ay ?_;rw[o.eval,kL Bh];exact b5
 obtain⟨p,rfl⟩:=Rt (show 0<=n by omega);have eK:o.stepG (o.ha v) e[k] st=if (o.ha v e[k] st).2≠0 then ((o.ha v e[k] st).2,st) else if (st.take (st.length - p)++[(o.ha v e[k] st).1]).length > 12 then (12,st) else (0,st.take (st.length - p)++[(o.ha v e[k] st).1]):=by
  unfold o.stepG;rw[ax,if_neg g4,if_neg g5];simp only[Int.toNat_natCast]
 have ic:(st.take (st.length - p)++[(o.ha v e[k] st).1]).length=st.length - p+1:=by simp[List.length_take]
 rw[ic] at eK;have fin:p=0\/p=1\/p=2:=Aw
 rcases fin with zT | zT | zT
 .have av:=aia (v:=v) (st:=st) (x:=e[k]) Aw;obtain⟨gq,z2,z3,z4⟩:=Lq (x:=e[k].op) Aw;refine dh (i_ ad (i_ ab (i_ bz b0))) ?_;refine R_ (c:=[_,_,_,_,_]) dX (Ext.refl _) rfl ?_;refine dh (i_ ad (i_ ab (i_ bz b0))) ?_;refine P_ _ (fun w' e'=>aq5 e[k] _ v w' uP (h.ext (Ea.trans e')) z3 (st.getLastD 0)) ?_;rw[<-av];refine dh (i_ ad (i_ ab (i_ bz b0))) ?_;intro aK ag;refine dh (i_ ad (i_ ab (i_ bz b0))) ?_;apply I_<;>intro g6;rotate_left
  .rw[if_pos g6] at eK;refine ay ?_;rw[o.eval,kL (by rw[eK];exact g6),eK];exact b5
  rw[if_neg (by simpa using g6)] at eK;have dG:=fK.ext ag;refine dh (i_ ad (i_ ab (i_ bz b0))) ?_;refine Y_ (cs:=[]) (by simp[List.range,List.range.loop,eZ]) fun aR cx e3 aw bf=>?_;have z12:=aj.size;have z23:=ag.size;have C5:=aw.size;have th:nf w1.heap.size aR (.slice (some ⟨cx,0,none⟩) 0 0) []:=aP.empty Aw bf;have dz:=dG.ext aw;have dt:nf w1.heap.size aR (.slice _ (st.length - p) _) (st.take (st.length - p)):=aP.head (enc:=encI) (sz:=1) (xs:=st) (fun _=>rfl) dz (st.length - p) (AI0 _ _);have b4:(st.take (st.length - p)).length=st.length - p:=by simp[List.length_take]
  refine dh (i_ ad (i_ ab (i_ bz b0))) ?_;refine _N (st.length - p) (by simp -dsimp only[cV,cu,Nat.reduceAdd,Nat.reduceEqDiff,reduceIte,reduceCtorEq,c3,bz];first | rfl | (congr 1;omega)) Aw ?_;refine ay ?_;refine _j (xs:=[]) (ys:=st.take (st.length - p)) th dt (fun _=>rfl) r5 (by rw[b4];simp only[List.length_nil];omega) (by rw[b4];simp only[List.length_nil,maxLen];omega) Aw fun v5 bo mS gT=>?_;have oc:Ext aK bo:=aw.grown gT fun q ao=>by simp[Value.ownBlock] at ao;omega
  rw[AF9] at mS;have z35:=oc.size;refine ay ?_;refine Y_ (cs:=[(o.ha v e[k] st).1].flatMap encI) (by simp[List.range,List.range.loop,eZ,lay,c0,bL,Value.cells,encI]) fun bt ee gf aI b1=>?_;have AN:=aI.size;have c9:=mS.ext aI;refine ay ?_;refine _O (xs:=st.take (st.length - p)) (ys:=[(o.ha v e[k] st).1]) c9 (fun _=>rfl) (gN b1) rfl r5 (by rw[b4];simp only[List.length_cons,List.length_nil];omega) (by rw[b4];simp only[List.length_cons,List.length_nil,maxLen];omega) Aw fun CX bG dM kJ=>?_;have bm:Ext w1 bG:=Ext.grown (((aj.trans ag).trans oc).trans aI) kJ fun q ao=>(c9.lt q ao).1;obtain⟨FP,nj,rfl,_⟩:=dM.form;rw[ic] at dM ⊢;by_cases g7:12<st.length - p+1
  .rw[if_pos Aw] at eK
   first
    | (exfalso;omega)
    | (refine ay ?_
       rw[o.eval,kL (by rw[eK];simp),eK];exact⟨aL,ah.trans bm⟩)
  rw[if_neg Aw] at eK;refine dh b0 ?_;refine⟨aV,aL,_,_,rfl,dM,by rw[uM,eK],fun _=>by rw[ic];omega,by rw[ic];omega,bm⟩
 .have av:=aib (v:=v) (st:=st) (x:=e[k]) Aw Aw;obtain⟨nh,rfl⟩:=U.addr;refine dh (i_ ad (i_ ab (i_ bz b0))) ?_;refine K_ (st.length - 1) Aw Aw ?_;refine dh (i_ ad (i_ ab (i_ bz b0))) ?_;refine R_ (c:=[_,_,_,_,_]) dX (Ext.refl _) rfl ?_;refine dh (i_ ad (i_ ab (i_ bz b0))) ?_;refine P_ _ (fun w' e'=>aqM e[k] _ _ v w' (h.ext (Ea.trans e')) (abO Aw)) ?_;rw[<-av];refine dh (i_ ad (i_ ab (i_ bz b0))) ?_;intro aK ag;refine dh (i_ ad (i_ ab (i_ bz b0))) ?_;apply I_<;>intro g6;rotate_left
  .rw[if_pos g6] at eK;refine ay ?_;rw[o.eval,kL (by rw[eK];exact g6),eK];exact b5
  rw[if_neg (by simpa using g6)] at eK;have dG:=fK.ext ag;refine dh (i_ ad (i_ ab (i_ bz b0))) ?_;refine Y_ (cs:=[]) (by simp[List.range,List.range.loop,eZ]) fun aR cx e3 aw bf=>?_;have z12:=aj.size;have z23:=ag.size;have C5:=aw.size;have th:nf w1.heap.size aR (.slice (some ⟨cx,0,none⟩) 0 0) []:=aP.empty Aw bf;have dz:=dG.ext aw;have dt:nf w1.heap.size aR (.slice _ (st.length - p) _) (st.take (st.length - p)):=aP.head (enc:=encI) (sz:=1) (xs:=st) (fun _=>rfl) dz (st.length - p) (AI0 _ _);have b4:(st.take (st.length - p)).length=st.length - p:=by simp[List.length_take]
  refine dh (i_ ad (i_ ab (i_ bz b0))) ?_;refine _N (st.length - p) (by simp -dsimp only[cV,cu,Nat.reduceAdd,Nat.reduceEqDiff,reduceIte,reduceCtorEq,c3,bz];first | rfl | (congr 1;omega)) Aw ?_;refine ay ?_;refine _j (xs:=[]) (ys:=st.take (st.length - p)) th dt (fun _=>rfl) r5 (by rw[b4];simp only[List.length_nil];omega) (by rw[b4];simp only[List.length_nil,maxLen];omega) Aw fun v5 bo mS gT=>?_;have oc:Ext aK bo:=aw.grown gT fun q ao=>by simp[Value.ownBlock] at ao;omega
  rw[AF9] at mS;have z35:=oc.size;refine ay ?_;refine Y_ (cs:=[(o.ha v e[k] st).1].flatMap encI) (by simp[List.range,List.range.loop,eZ,lay,c0,bL,Value.cells,encI]) fun bt ee gf aI b1=>?_;have AN:=aI.size;have c9:=mS.ext aI;refine ay ?_;refine _O (xs:=st.take (st.length - p)) (ys:=[(o.ha v e[k] st).1]) c9 (fun _=>rfl) (gN b1) rfl r5 (by rw[b4];simp only[List.length_cons,List.length_nil];omega) (by rw[b4];simp only[List.length_cons,List.length_nil,maxLen];omega) Aw fun CX bG dM kJ=>?_;have bm:Ext w1 bG:=Ext.grown (((aj.trans ag).trans oc).trans aI) kJ fun q ao=>(c9.lt q ao).1;obtain⟨FP,nj,rfl,_⟩:=dM.form;rw[ic] at dM ⊢;by_cases g7:12<st.length - p+1
  .rw[if_pos Aw] at eK
   first
    | (exfalso;omega)
    | (refine ay ?_
       rw[o.eval,kL (by rw[eK];simp),eK];exact⟨aL,ah.trans bm⟩)
  rw[if_neg Aw] at eK;refine dh b0 ?_;refine⟨aV,aL,_,_,rfl,dM,by rw[uM,eK],fun _=>by rw[ic];omega,by rw[ic];omega,bm⟩
 .have av:=aic (v:=v) (st:=st) (x:=e[k]) Aw Aw;obtain⟨nh,rfl⟩:=U.addr;refine dh (i_ ad (i_ ab (i_ bz b0))) ?_;refine K_ (st.length - 2) Aw Aw ?_;refine dh (i_ ad (i_ ab (i_ bz b0))) ?_;refine K_ (st.length - 1) Aw Aw ?_;refine dh (i_ ad (i_ ab (i_ bz b0))) ?_;refine P_ _ (fun w' e'=>aqj e[k].op _ _ w' (Lr Aw)) ?_;rw[<-av];refine dh (i_ ad (i_ ab (i_ bz b0))) ?_;intro aK ag;refine dh (i_ ad (i_ ab (i_ bz b0))) ?_;apply I_<;>intro g6;rotate_left
  .rw[if_pos g6] at eK;refine ay ?_;rw[o.eval,kL (by rw[eK];exact g6),eK];exact b5
  rw[if_neg (by simpa using g6)] at eK;have dG:=fK.ext ag;refine dh (i_ ad (i_ ab (i_ bz b0))) ?_;refine Y_ (cs:=[]) (by simp[List.range,List.range.loop,eZ]) fun aR cx e3 aw bf=>?_;have z12:=aj.size;have z23:=ag.size;have C5:=aw.size;have th:nf w1.heap.size aR (.slice (some ⟨cx,0,none⟩) 0 0) []:=aP.empty Aw bf;have dz:=dG.ext aw;have dt:nf w1.heap.size aR (.slice _ (st.length - p) _) (st.take (st.length - p)):=aP.head (enc:=encI) (sz:=1) (xs:=st) (fun _=>rfl) dz (st.length - p) (AI0 _ _);have b4:(st.take (st.length - p)).length=st.length - p:=by simp[List.length_take]
  refine dh (i_ ad (i_ ab (i_ bz b0))) ?_;refine _N (st.length - p) (by simp -dsimp only[cV,cu,Nat.reduceAdd,Nat.reduceEqDiff,reduceIte,reduceCtorEq,c3,bz];first | rfl | (congr 1;omega)) Aw ?_;refine ay ?_;refine _j (xs:=[]) (ys:=st.take (st.length - p)) th dt (fun _=>rfl) r5 (by rw[b4];simp only[List.length_nil];omega) (by rw[b4];simp only[List.length_nil,maxLen];omega) Aw fun v5 bo mS gT=>?_;have oc:Ext aK bo:=aw.grown gT fun q ao=>by simp[Value.ownBlock] at ao;omega
  rw[AF9] at mS;have z35:=oc.size;refine ay ?_;refine Y_ (cs:=[(o.ha v e[k] st).1].flatMap encI) (by simp[List.range,List.range.loop,eZ,lay,c0,bL,Value.cells,encI]) fun bt ee gf aI b1=>?_;have AN:=aI.size;have c9:=mS.ext aI;refine ay ?_;refine _O (xs:=st.take (st.length - p)) (ys:=[(o.ha v e[k] st).1]) c9 (fun _=>rfl) (gN b1) rfl r5 (by rw[b4];simp only[List.length_cons,List.length_nil];omega) (by rw[b4];simp only[List.length_cons,List.length_nil,maxLen];omega) Aw fun CX bG dM kJ=>?_;have bm:Ext w1 bG:=Ext.grown (((aj.trans ag).trans oc).trans aI) kJ fun q ao=>(c9.lt q ao).1;obtain⟨FP,nj,rfl,_⟩:=dM.form;rw[ic] at dM ⊢;by_cases g7:12<st.length - p+1
  .rw[if_pos Aw] at eK
   first
    | (exfalso;omega)
    | (refine ay ?_
       rw[o.eval,kL (by rw[eK];simp),eK];exact⟨aL,ah.trans bm⟩)
  rw[if_neg Aw] at eK;refine dh b0 ?_;refine⟨aV,aL,_,_,rfl,dM,by rw[uM,eK],fun _=>by rw[ic];omega,by rw[ic];omega,bm⟩
end Go.Proofs.R
end
section
namespace o
open Go
theorem aiz{m:Model}(aS:eD m){s:C_ Int}(av:Fits m s):∀x∈s,-9223372036854775808<=x/\x<=9223372036854775807:=fun x af=>by
 obtain⟨i,U,rfl⟩:=List.mem_iff_getElem.1 af;have bk:i<(bU m).length:=by have:=av.len;unfold c6 at this;omega
 have h1:=av.cell i U bk;have I:=agb aS _ (Gy bk);obtain⟨br,bP,bR⟩:=I;omega
structure T1(v:Env):Prop where
 vars:∀l∈v.vars,∀x∈l,dP x
 lens:∀x∈v.lens,dP x
 locals:∀x∈v.locals,dP x
 at_:∀l∈v.at_,∀x∈l,dP x
 self:dP v.self
theorem Ou{m:Model}(aS:eD m){s:C_ Int}(av:Fits m s){q:Nat}(ao:q<(insts m).length):T1 (cc m s q):=by
 have fs:=aiz aS av;have uH:=(rr _ (Gy ao)).elem;have gG:=Fs aS;refine⟨fun l az x af=>?_,fun x af=>?_,fun x af=>?_,fun l az x af=>?_,?_⟩
 .simp only[cc,List.mem_map] at az;obtain⟨k,_,rfl⟩:=az;exact fs x (List.mem_of_mem_drop (AJ9 af))
 .simp only[cc,List.mem_map] at af;obtain⟨k,_,rfl⟩:=af;rw[List.getElem!_eq_getElem?_getD];cases hk:s[b6 m k]? with
  | none=>simp[dP]
  | some y=>exact fs y (List.mem_of_getElem? hk)
 .rw[(xa s ao rfl).1] at af;exact fs x (List.mem_of_mem_drop (AJ9 af))
 .simp only[cc,List.mem_map] at az;obtain⟨k,_,rfl⟩:=az;unfold jl at af;obtain⟨d,_,rfl⟩:=List.mem_map.1 af
  have:=NA m s k d (insts m).length
  unfold dP;omega
 .rw[(xa s ao rfl).2];unfold dP;omega
end o
namespace a7
open Go Go.RowKit
theorem _k{b n k:Nat}{c:C_ B_}{ty:F_}{w:A_}{ba:B_->Prop}{t}(cs:C_ B_)(an:w.heap[b]? = some (.cells c.toArray ty))(gk:(c.drop k).take n=cs)(ax:cs.length=n)(hk:ba (.agg cs.toArray)):xA n (.pointer (some (Addr.add ⟨b,0,none⟩ k))) w ba t:=by
 refine Z_ (cs:=cs) (fun j v aC=>?_) ax hk;subst gk;rw[List.getElem?_take] at aC;split at aC
 .rw[List.getElem?_drop] at aC;rw[add_add];exact fT an (by simpa using aC)
 .cases aC
end a7
namespace Go.Proofs.R
open Go Go.RowKit a7
theorem Re{w:A_}{v:B_}{l:C_ Int}(h:dc w v l)(fs:∀x∈l,o.dP x):oJ w v l:=by
 obtain⟨aO,cap,e,h1,I,ab,aE⟩:=h.ex;exact⟨aO,cap,e,h1,I,ab,fun a aU i U=>⟨aE a aU i U,fs _ (Gy U)⟩⟩
theorem acZ{w:A_}{v:B_}{l:C_ (C_ Int)}(h:xB w v l)(fs:∀r∈l,∀x∈r,o.dP x):vw w v l:=by
 obtain⟨aO,cap,e,h1,I,ab,aE⟩:=h.ex;refine⟨aO,cap,e,h1,I,ab,fun a aU i U=>?_⟩;obtain⟨u,hu,ax⟩:=aE a aU i U;exact⟨u,hu,Re ax (fs _ (Gy U))⟩
theorem Ot{w:A_}{cs:C_ B_}{x:o.Env}(h:MI w cs x)(aJ:o.T1 x):o.pY w cs x:=by
 obtain⟨v0,v1,v2,v3,rfl,ad,h1,I,ab⟩:=h.ex;exact⟨v0,v1,v2,v3,rfl,acZ ad aJ.vars,Re h1 aJ.lens,Re I aJ.locals,acZ ab aJ.at_,aJ.self⟩
def VJ(base:Nat)(ae:H_ (C_ Int))(u:B_)(w:A_):Prop :=
 (ae=none/\u = .tuple #[.slice none 0 0,.bool false])\/(∃t jV,ae=some t/\u = .tuple #[jV,.bool true]/\iz base w jV t)
theorem ap8(cs:C_ B_)(v bH bV:B_)(m:o.Model)(s:C_ Int)(q p:Nat)(a:o.Act)(w:A_)(h:pq w cs m)(aH:m.cA)(aS:o.eD m)(ak:dc w v s)(av:o.Fits m s)(aX:o.fo m q p)
  (U:o.eL w bH a.index)(aD:o.eL w bV a.value)(aU:o.l8 (o.inner (m.procs[p]'(aX.aq)) (o.eF m)) a) :
  Dz F.Ld #[.agg cs.toArray,v,.I q,.agg (a.enc bH bV).toArray] w fun u w'=>VJ w.heap.size (o.gC m s q a) u w'/\Ext w w':=by
 have ek:=h;obtain⟨eB,d0,dB,d1,ec,d2,er,d3,eN,d4,bW,bu,bI,c1,bO,c2,bQ,bp,bZ,bB,b9,ci,fm,gd,rfl,cX,r9,dV,dH,df,eO,fM,ad,h1,I,ab,ajr,O9⟩:=h.form;obtain⟨os,r2,rfl,FI⟩:=ak.form;obtain⟨Lt,eb,rfl,wR⟩:=U.form;obtain⟨tO,td,rfl,lvl⟩:=aD.form;have zP:=aU.kind;have hlen:=av.len;have ko:o.c6 m<=64:=o.iL aS;have gG:=aS.gG;have ao:=aX.ao;have auW:=aX.F9 aS;obtain⟨f6,f7,f8⟩:=o.tC m;obtain⟨EM,qu⟩:=o.rq ao;have c5:=o.Ou aS av ao;refine bl E.Ld ?_;refine J ?_;intro w1 cx e3 ah bf;refine J ?_;intro aB iC ia aj cf;replace bf:=aj.obj bf;have e2:=ah.trans aj;unfold o.Act.enc at cf;refine J ?_;apply I_<;>intro g5
 .obtain⟨gv,eT⟩:=aU.chan (.inr g5);have fa:a.to.toNat<m.ar.length:=eT;have gZ:a.to=(a.to.toNat:Nat):=Aw
  rw[gZ] at cf;refine J ?_;refine J_ (LH _ _ m s a.to.toNat aB (ek.ext e2) aS (ak.ext Flat.ext e2) hlen fa) ?_;rintro u aK ⟨hu,ag⟩;obtain⟨u6,tc,rfl,_⟩:=hu.form;have dv:(o.chanOf m s a.to.toNat).length=1+o.fH m a.to.toNat:=o.n0 (by rw[hlen];exact o.kX fa);have E8:=o.xS aS fa;have aaf:=o.kX fa;obtain⟨eU,EZ⟩:=aU.recv g5;have EY:a.loc.toNat<(m.procs[p]'(aX.aq)).vars.length:=EZ;have al7:=aX.room;have done:o.gC m s q a=o.w2 m s q a:=by unfold o.gC;rw[if_pos g5]
  rw[done];unfold o.w2;replace bf:=ag.obj bf;replace cf:=ag.obj cf;have a1:=e2.trans ag;refine J ?_;refine J_ (aqZ _ _ aK hu Aw) ?_;rintro u aR ⟨bN,aw⟩;replace bf:=aw.obj bf;replace cf:=aw.obj cf;have bC:=a1.trans aw;rcases bN with ⟨fg,rfl⟩ | ⟨r,x,ho,hW,rfl,wy⟩
  .refine J ?_;exact⟨.inl ⟨by rw[fg],aL⟩,bC⟩
  obtain⟨ao2,ag0,rfl,_⟩:=wy.form;have iI:=o.Gp hW;rw[hW];obtain⟨oM,rfl⟩:=df.addr;have yJ:=df.ext Flat.ext bC;refine J ?_;intro bo aF;replace bf:=aF.obj bf;replace cf:=aF.obj cf;replace yJ:=yJ.ext Flat.ext aF;have bF:=bC.trans aF;refine J ?_;rw[qu];refine J ?_;refine J_ (LJ _ _ _ m s r a.to.toNat bo (ek.ext bF) aS (ak.ext Flat.ext bF) ((jz wy).ext Flat.ext aF) hlen fa Aw) ?_;rintro u bt ⟨c9,aI⟩;obtain⟨Ao,zl,rfl,_⟩:=c9.form;have cg:=bF.trans aI;have kq:(o.hi s (o.b6 m a.to.toNat) r).length=o.c6 m:=by rw[o.uT Aw];exact hlen
  refine⟨aI,?_⟩;refine J ?_;refine J_ (LK _ _ m (o.hi s (o.b6 m a.to.toNat) r) (o.da m q+1+a.loc.toNat) _ x bt (ek.ext cg) aS (jz c9) kq Aw Aw) ?_;rintro u bG ⟨bN,bm⟩;rcases bN with ⟨fg,rfl⟩ | ⟨t,jV,amg,rfl,kr⟩
  .refine J ?_;exact⟨.inl ⟨fg,aL⟩,cg.trans bm⟩
  .obtain⟨ry,uv,rfl,_⟩:=kr.form;refine J ?_;exact⟨.inr ⟨t,_,amg,rfl,aP.low cg.size kr⟩,cg.trans bm⟩
 .refine J ?_;refine _k [.slice eB m.scalars.length d0,.slice dB m.vars.length d1,.slice ec m.ar.length d2,.slice er m.procs.length d3,.slice eN m.props.length d4] bf rfl rfl ?_;refine J ?_;refine _k [.slice bW (o.layout m).vars.length bu,.slice bI (o.layout m).ar.length c1,.slice bO (o.layout m).insts.length c2,.I (o.layout m).cells,.slice bQ (o.layout m).aQ.length bp,.slice bZ (o.layout m).U.length bB] bf rfl rfl ?_;refine J ?_;refine J_ (ac2 _ _ _ m s q aB (cX.ext e2) aH aS (r9.ext e2) (ak.ext Flat.ext e2) av Aw Aw) ?_;rintro _ aK ⟨⟨es,rfl,ax⟩,ag⟩;have dI:=Ot ax.here c5;have IM:=dI;obtain⟨a0,gv,cZ,cq,a2,cB,a3,e5,rfl,o6,cO,de,dQ,gK,_⟩:=dI.form;replace bf:=ag.obj bf;replace cf:=ag.obj cf;have a1:=e2.trans ag;refine J ?_;intro aR ur I0 aw jv;replace bf:=aw.obj bf;replace cf:=aw.obj cf;have bC:=a1.trans aw;refine J ?_;refine J_ (Sk _ a.value _ (o.cc m s q) aR (aD.ext bC) (IM.ext aw)) ?_;rintro _ bo ⟨rfl,aF⟩;obtain⟨n,oW⟩:∃n,n=(o.eval a.value (o.cc m s q)).1:=⟨_,rfl⟩;obtain⟨e,od⟩:∃e,e=(o.eval a.value (o.cc m s q)).2:=⟨_,rfl⟩;rw[<-oW,<-od];replace bf:=aF.obj bf;replace cf:=aF.obj cf;replace jv:=aF.obj jv;have bF:=bC.trans aF;have gq:=e2.size;refine J ?_;refine I_ (fun uX=>?_) (fun uX=>?_);rotate_left
  .refine J ?_;refine⟨.inl ⟨?_,aL⟩,bF⟩;unfold o.gC;rw[if_neg g5,<-od,if_pos uX]
  have done:o.gC m s q a=if a.kind=1 then o.putAt m s (o.gp m a.to.toNat) n else if a.kind=2 then o.uU m s a (o.eval a.index (o.cc m s q)) n else if a.kind=3 then o.putAt m s (o.da m q+1+a.to.toNat) n else o.tX m s a.to.toNat n:=by
   unfold o.gC;rw[if_neg g5,<-od,if_neg (by simpa using uX),<-oW]
  rw[done];have rp:=ak.ext Flat.ext bF;have IZ:=ek.ext bF;refine J ?_;apply I_<;>intro g1
  .obtain⟨gv,bS,eT,iJ⟩:=aU.set g1;have hg:a.to.toNat<m.vars.length:=(List.getElem?_eq_some_iff.1 eT).1;obtain⟨eM,hG⟩:=o.xf hg;have nz:=o.Mb aS hg;have QM:=o.rJ hg;have eE:=o.mL m;have Qb:=o.rv hg;have akp:o.cells m.vars[a.to.toNat] m.scalars=1:=by
    have Fi:m.vars[a.to.toNat]=bS:=(List.getElem?_eq_some_iff.1 eT).2;rw[Fi];unfold o.cells;rw[if_pos iJ]
   obtain⟨oM,rfl⟩:=dV.addr;have R9:=dV.ext Flat.ext bF;refine J ?_;intro bt aI;replace bf:=aI.obj bf;replace cf:=aI.obj cf;replace R9:=R9.ext Flat.ext aI;have cg:=bF.trans aI;refine J ?_;refine K_ a.to.toNat Aw Aw ?_;refine J ?_;refine J_ (LK _ _ m s (o.gp m a.to.toNat) _ n bt (ek.ext cg) aS (ak.ext Flat.ext cg) hlen (by rw[hG]) Aw) ?_;rintro u bG ⟨bN,bm⟩;rcases bN with ⟨fg,rfl⟩ | ⟨t,jV,hW,rfl,kr⟩
   .refine J ?_;exact⟨.inl ⟨by rw[if_pos g1];exact fg,aL⟩,cg.trans bm⟩
   .obtain⟨ry,uv,rfl,_⟩:=kr.form;refine J ?_;exact⟨.inr ⟨t,_,by rw[if_pos g1];exact hW,rfl,aP.low cg.size kr⟩,cg.trans bm⟩
  refine J ?_;apply I_<;>intro g2
  .obtain⟨gv,Fh,P4⟩:=aU.item g2;have hg:a.to.toNat<m.vars.length:=Fh;obtain⟨eM,hG⟩:=o.xf hg;have QM:=o.rJ hg;have eE:=o.mL m;have Qb:=o.rv hg;have dv:=o.r0 m.vars[a.to.toNat] m.scalars;have amo:=o.Gj (s:=s) (inst:=(q:Int)) hg;have au4:=o.LX m s q;obtain⟨amr,ams⟩:=List.getElem?_eq_some_iff.1 amo;have iI:((o.cc m s q).vars[a.to.toNat]).length=o.o4 m a.to.toNat:=by rw[ams,LQ,AF8];omega
   obtain⟨oM,rfl⟩:=dV.addr;obtain⟨p8,rfl⟩:=o6.addr;obtain⟨ho,iZ,lX⟩:=o6.at a.to.toNat amr;obtain⟨avW,atQ,rfl,_⟩:=lX.form;rw[iI] at iZ;refine J ?_;refine J_ (Sk _ a.index _ (o.cc m s q) bo (U.ext bF) (IM.ext (aw.trans aF))) ?_;rintro _ bt ⟨rfl,aI⟩;obtain⟨k,ES⟩:∃k,k=(o.eval a.index (o.cc m s q)).1:=⟨_,rfl⟩;obtain⟨f,EK⟩:∃f,f=(o.eval a.index (o.cc m s q)).2:=⟨_,rfl⟩;have og:∀n,o.uU m s a (o.eval a.index (o.cc m s q)) n=if f≠0\/k<1\/(o.o4 m a.to.toNat:Int)<k then none else o.putAt m s (o.gp m a.to.toNat+k.toNat - 1) n:=fun n=>by unfold o.uU;rw[<-ES,<-EK]
   rw[og,<-ES,<-EK];clear og;replace bf:=aI.obj bf;replace cf:=aI.obj cf;replace jv:=aI.obj jv;have cg:=bF.trans aI;have aky:=((aw.trans aF).trans aI).cell iZ;refine J ?_;refine I_ (fun jP=>?_) (fun jP=>?_);rotate_left
   .refine J ?_;exact⟨.inl ⟨by rw[if_neg g1,if_pos g2,if_pos (.inl jP)],aL⟩,cg⟩
   refine J ?_;refine I_ (fun hJ=>?_) (fun hJ=>?_)
   .refine J ?_;exact⟨.inl ⟨by rw[if_neg g1,if_pos g2,if_pos (.inr (.inl hJ))],aL⟩,cg⟩
   refine J ?_;refine K_ a.to.toNat Aw Aw ?_;refine J ?_;refine M_ aky ?_;refine J ?_;refine I_ (fun wJ=>?_) (fun wJ=>?_)
   .refine J ?_;exact⟨.inl ⟨by rw[if_neg g1,if_pos g2,if_pos (.inr (.inr Aw))],aL⟩,cg⟩
   have acv:=dV.ext Flat.ext cg;refine J ?_;intro bG bm;replace bf:=bm.obj bf;replace cf:=bm.obj cf;replace acv:=acv.ext Flat.ext bm;have c8:=cg.trans bm;refine J ?_;refine K_ a.to.toNat Aw Aw ?_;refine J ?_;refine J_ (LK _ _ m s (o.gp m a.to.toNat+k.toNat - 1) _ n bG (ek.ext c8) aS (ak.ext Flat.ext c8) hlen (by rw[hG];omega) Aw) ?_;rintro u cQ ⟨bN,bA⟩;rcases bN with ⟨fg,rfl⟩ | ⟨t,jV,hW,rfl,kr⟩
   .refine J ?_;exact⟨.inl ⟨by rw[if_neg g1,if_pos g2,if_neg Aw];exact fg,aL⟩,c8.trans bA⟩
   .obtain⟨ry,uv,rfl,_⟩:=kr.form;refine J ?_;exact⟨.inr ⟨t,_,by rw[if_neg g1,if_pos g2,if_neg Aw];exact hW,rfl,aP.low c8.size kr⟩,c8.trans bA⟩
  refine J ?_;apply I_<;>intro g3
  .obtain⟨gv,hg⟩:=aU.loc g3;have fa:a.to.toNat<(m.procs[p]'(aX.aq)).vars.length:=hg;have E8:=aX.room;obtain⟨oM,rfl⟩:=df.addr;have yK:=df.ext Flat.ext bF;refine J ?_;intro bt aI;replace bf:=aI.obj bf;replace cf:=aI.obj cf;replace yK:=yK.ext Flat.ext aI;have cg:=bF.trans aI;refine J ?_;rw[qu];refine J ?_;refine J_ (LK _ _ m s (o.da m q+1+a.to.toNat) _ n bt (ek.ext cg) aS (ak.ext Flat.ext cg) hlen Aw Aw) ?_;rintro u bG ⟨bN,bm⟩;rcases bN with ⟨fg,rfl⟩ | ⟨t,jV,hW,rfl,kr⟩
   .refine J ?_;exact⟨.inl ⟨by rw[if_neg g1,if_neg g2,if_pos g3];exact fg,aL⟩,cg.trans bm⟩
   .obtain⟨ry,uv,rfl,_⟩:=kr.form;refine J ?_;exact⟨.inr ⟨t,_,by rw[if_neg g1,if_neg g2,if_pos g3];exact hW,rfl,aP.low cg.size kr⟩,cg.trans bm⟩
  have g4:a.kind=4:=Aw
  rw[if_neg g1,if_neg g2,if_neg g3];obtain⟨gv,hg⟩:=aU.chan (.inl g4);have fa:a.to.toNat<m.ar.length:=hg;have Zc:=aS.chan _ (Gy fa);obtain⟨pr,rfl⟩:=I.addr;have dT:=((I.at a.to.toNat fa).cells).ext bF;refine J ?_;refine K_ a.to.toNat Aw fa ?_;refine dO ?_;intro bt atA aud aI Pq;replace bf:=aI.obj bf;replace cf:=aI.obj cf;have cg:=bF.trans aI;refine dO ?_;simp -dsimp only[cu];refine dO ?_;intro bG bm;replace bf:=bm.obj bf;replace cf:=bm.obj cf;replace Pq:=bm.obj Pq;have c8:=cg.trans bm;have lY:=o.NU Zc gG.1;have I4:o.vH m a.to.toNat=o.eS m.ar[a.to.toNat].scalar m.ar[a.to.toNat].aQ m.ar[a.to.toNat].U m.scalars:=by unfold o.vH;rw[List.getElem?_eq_getElem fa]
  clear dT;unfold o.dg.enc at Pq;refine dO ?_;refine S_ [1,4,7,14,18] (fun x:Int×Int=>[(19,.I x.1),(20,.I x.2)]) (fun x W=>Ext bG W/\x.1=(o.vH m a.to.toNat).aQ/\x.2=(o.vH m a.to.toNat).U) ?_ ?_
  .refine J ?_;refine I_ (fun jP=>?_) (fun jP=>?_)
   .have bw:=Zc.ga.resolve_left Aw;obtain⟨j,aC,auI,EP⟩:∃(j:Nat) (aC:j<m.scalars.length),m.ar[a.to.toNat].scalar=(j:Int)+1/\o.size m.ar[a.to.toNat].scalar m.scalars=m.scalars[j].size:=by
     unfold o.size at bw ⊢;cases af:m.scalars[(m.ar[a.to.toNat].scalar - 1).toNat]? with
     | none=>rw[af] at bw;exact absurd rfl bw
     | some x =>
      rw[af] at bw;obtain⟨aC,rfl⟩:=List.getElem?_eq_some_iff.1 af;simp only at bw ⊢;split at bw
      .rename_i cN;exact⟨_,aC,Aw,by rw[if_pos cN]⟩
      .exact absurd rfl bw
    obtain⟨y9,rfl⟩:=ad.addr;have gk:=((ad.at j aC).cells).ext c8;refine J ?_;refine K_ j Aw aC ?_;refine J ?_;intro cQ bA;refine J ?_;refine⟨(0,m.scalars[j].size),⟨rfl,rfl,trivial⟩,bA,?_,?_⟩
    .rw[I4];unfold o.eS;rw[if_neg Aw]
    .rw[I4];unfold o.eS;rw[if_neg Aw];exact EP.symm
   .refine J ?_;refine⟨(m.ar[a.to.toNat].aQ,m.ar[a.to.toNat].U),⟨rfl,rfl,trivial⟩,Ext.refl _,?_,?_⟩
    .rw[I4];unfold o.eS;rw[if_pos Aw]
    .rw[I4];unfold o.eS;rw[if_pos Aw]
  rintro⟨aQ,cw⟩ S cQ ⟨bA,hf,tq⟩;simp only at hf tq;replace bf:=bA.obj bf;replace cf:=bA.obj cf;have eY:=c8.trans bA;have Ti:=eY.size;rw[show o.tX m s a.to.toNat n=if n<aQ\/cw<n then none else (o.mu (o.chanOf m s a.to.toNat) n).map (o.hi s (o.b6 m a.to.toNat)) from by unfold o.tX;rw[<-hf,<-tq]];refine J ?_;refine I_ (fun jP=>?_) (fun jP=>?_)
  .refine J ?_;exact⟨.inl ⟨by rw[if_pos (.inl jP)],aL⟩,eY⟩
  refine J ?_;refine I_ (fun hJ=>?_) (fun hJ=>?_)
  .refine J ?_;exact⟨.inl ⟨by rw[if_pos (.inr Aw)],aL⟩,eY⟩
  rw[if_neg Aw];have gZ:a.to=(a.to.toNat:Nat):=Aw
  rw[gZ] at cf;have dv:(o.chanOf m s a.to.toNat).length=1+o.fH m a.to.toNat:=o.n0 (by rw[hlen];exact o.kX fa);have E8:=o.xS aS fa;refine J ?_;refine J_ (LH _ _ m s a.to.toNat cQ (ek.ext eY) aS (ak.ext Flat.ext eY) hlen fa) ?_;rintro u cS ⟨hu,bT⟩;obtain⟨u6,tc,rfl,_⟩:=hu.form;replace bf:=bT.obj bf;replace cf:=bT.obj cf;have jq:=eY.trans bT;refine J ?_;refine J_ (aqY _ _ n cS hu Aw) ?_;rintro u eG ⟨bN,ch⟩;replace bf:=ch.obj bf;replace cf:=ch.obj cf;have jo:=jq.trans ch;rcases bN with ⟨fg,rfl⟩ | ⟨r,ho,hW,rfl,wy⟩
  .refine J ?_;exact⟨.inl ⟨by rw[fg];rfl,aL⟩,jo⟩
  .obtain⟨ao2,ag0,rfl,_⟩:=wy.form;have iI:=o.F0 hW;refine J ?_;refine J_ (LJ _ _ _ m s r a.to.toNat eG (ek.ext jo) aS (ak.ext Flat.ext jo) (jz wy) hlen fa Aw) ?_;rintro u fN ⟨oi,eg⟩;obtain⟨Ao,zl,rfl,_⟩:=oi.form;refine J ?_;exact⟨.inr ⟨_,_,by rw[hW];rfl,rfl,aP.low jo.size oi⟩,jo.trans eg⟩
end Go.Proofs.R
end
section
namespace o
open Go
theorem Np(m:Model)(q:Nat)(l:C_ Act)(s:C_ Int){k:Nat}(hk:k<l.length):h6 m q (l.take (k+1)) s=match h6 m q (l.take k) s with | none=>none | some t=>gC m t q l[k]:=by
 rw[L1 hk,V7]<;>rfl
theorem No(m:Model)(q:Nat):∀(l:C_ Act) (s:C_ Int) (k:Nat),h6 m q (l.take k) s=none->h6 m q l s=none
 | [],s,k,h=>by simp[h6] at h
 | a :: l,s,0,h=>by simp[h6] at h
 | a :: l,s,k+1,h=>by
  simp only[List.take_succ_cons,h6] at h ⊢;cases h1:gC m s q a with
  | none=>rfl
  | some t=>rw[h1] at h;exact No m q l t k h
end o
namespace Go.Proofs.R
open Go Go.RowKit a7
theorem acC(cs:C_ B_)(v:B_)(m:o.Model)(s:C_ Int)(ref:Int)(q p k:Nat)(w:A_)(h:pq w cs m)(aH:m.cA)(ak:dc w v s)(av:o.Fits m s)(bq:o.ez m ref q p k) :
  Dz F.Lh #[.agg cs.toArray,v,.I ref] w fun u w'=>VJ w.heap.size (o.fA m s q (o.bx m p k)) u w'/\Ext w w':=by
 have ek:=h;have aS:=o.iu bq.ok;obtain⟨eB,d0,dB,d1,ec,d2,er,d3,eN,d4,bW,bu,bI,c1,bO,c2,bQ,bp,bZ,bB,b9,ci,fm,gd,rfl,cX,r9,dV,dH,df,eO,fM,ad,h1,I,ab,ajr,O9⟩:=h.form;obtain⟨os,r2,rfl,FI⟩:=ak.form;have aX:=bq.inst;have oT:=bq.cin;have sd:=oT.gG;have ao:=aX.ao;have hlen:=av.len;have ko:o.c6 m<=64:=o.iL aS;have EN:=aX.room;obtain⟨r,rfl⟩:=Rt bq.aQ;have aG:r<(o.refs m).length:=bq.U;have gm:(o.refs m)[r].inst=(q:Int):=bq.at_.ox;have o0:(o.refs m)[r].cmd=(k:Int):=bq.at_.sA;obtain⟨EM,qu⟩:=o.rq ao;obtain⟨jI,rfl⟩:=O9.addr;obtain⟨a2,rfl⟩:=df.addr;obtain⟨Nx,rfl⟩:=ak.addr;have c5:=o.Ou aS av ao;obtain⟨c,ye⟩:∃c,c=o.bx m p k:=⟨_,rfl⟩;rw[<-ye] at oT sd ⊢;refine bl E.Lh ?_;refine J ?_;intro w1 bR e9 ah bh;have ajF:=O9.ext Flat.ext ah;refine J ?_;intro aB jJ nu aj cn;have qd:(o.refs m)[r].enc=[.I q,.I k]:=by unfold o.Ref.enc;rw[gm,o0]
 rw[qd] at cn;replace bh:=aj.obj bh;have e2:=ah.trans aj;clear ajF;refine J ?_;refine J_ (F4 _ m r q p k aB (ek.ext e2) bq) ?_;rintro _ aK ⟨⟨e6,dn,rfl,hv,fW⟩,ag⟩;rw[<-ye] at hv fW ⊢;obtain⟨gn,gz,rfl,_⟩:=hv.form;obtain⟨sw,rZ,rfl,_⟩:=fW.form;replace bh:=ag.obj bh;replace cn:=ag.obj cn;have a1:=e2.trans ag;unfold o.dr.enc;refine J ?_;intro aR j0 lT aw dp;replace bh:=aw.obj bh;replace cn:=aw.obj cn;have bC:=a1.trans aw;have lb:=ak.ext Flat.ext bC;have yJ:=df.ext Flat.ext bC;have ZY:=hv.ext (ag.trans aw);have ZV:=fW.ext (ag.trans aw);clear hv fW;refine J ?_;refine K_ (o.da m q) (by rw[qu]) Aw ?_;refine J ?_;intro bo aF;replace bh:=aF.obj bh;replace cn:=aF.obj cn;replace dp:=aF.obj dp;have bF:=bC.trans aF;have alA:=ZY.ext aF;have ZW:=ZV.ext aF;have sf:s[o.da m q]? = some (s[o.da m q]' Aw):=List.getElem?_eq_getElem Aw;clear ZY ZV lb yJ;refine dO ?_;apply I_<;>intro g1;rotate_left
 .refine J ?_;exact⟨.inl ⟨by unfold o.fA;rw[sf,if_pos (by simpa using g1)],aL⟩,bF⟩
 have pD:o.fA m s q c=if 0<c.guard.length/\((o.eval c.guard (o.cc m s q)).2≠0\/(o.eval c.guard (o.cc m s q)).1=0) then none else (o.h6 m q c.bE s).map fun t=>t.set (o.da m q) c.to:=by
  unfold o.fA;rw[sf,if_neg (by simpa using g1)]
 have akc:=bh;have akj:=cn;have YV:=dp;refine dO ?_;refine S_ [1,3,8,9] (fun _:Unit=>[]) (fun _ W=>Ext bo W/\¬(0<c.guard.length/\((o.eval c.guard (o.cc m s q)).2≠0\/(o.eval c.guard (o.cc m s q)).1=0))) ?_ ?_
 .refine J ?_;apply I_<;>intro g2;rotate_left
  .refine J ?_;exact⟨(),trivial,Ext.refl _,fun cN=>Aw⟩
  have rp:=ak.ext Flat.ext bF;refine J ?_;intro bt aI;replace bh:=aI.obj bh;replace cn:=aI.obj cn;replace dp:=aI.obj dp;have cg:=bF.trans aI;refine J ?_;refine _k [.slice eB m.scalars.length d0,.slice dB m.vars.length d1,.slice ec m.ar.length d2,.slice er m.procs.length d3,.slice eN m.props.length d4] bh rfl rfl ?_;refine J ?_;refine _k [.slice bW (o.layout m).vars.length bu,.slice bI (o.layout m).ar.length c1,.slice (some a2) (o.layout m).insts.length c2,.I (o.layout m).cells,.slice bQ (o.layout m).aQ.length bp,.slice bZ (o.layout m).U.length bB] bh rfl rfl ?_;refine J ?_;refine J_ (ac2 _ _ _ m s q bt (cX.ext cg) aH aS (r9.ext cg) (ak.ext Flat.ext cg) av Aw Aw) ?_;rintro _ bG ⟨⟨es,rfl,ax⟩,bm⟩;have dI:=Ot ax.here c5;refine⟨bm,?_⟩;refine J ?_;refine J_ (Sk _ c.guard _ (o.cc m s q) bG (alA.ext (aI.trans bm)) dI) ?_;rintro _ cQ ⟨rfl,bA⟩;obtain⟨n,oW⟩:∃n,n=(o.eval c.guard (o.cc m s q)).1:=⟨_,rfl⟩;obtain⟨e,od⟩:∃e,e=(o.eval c.guard (o.cc m s q)).2:=⟨_,rfl⟩;rw[<-oW,<-od];rw[<-oW,<-od] at pD;have eY:=(cg.trans bm).trans bA;refine J ?_;refine I_ (fun jP=>?_) (fun jP=>?_);rotate_left
  .refine J ?_;exact⟨.inl ⟨by rw[pD,if_pos ⟨Aw,.inl jP⟩],aL⟩,eY⟩
  refine J ?_;refine I_ (fun hJ=>?_) (fun hJ=>?_)
  .refine J ?_;exact⟨.inl ⟨by rw[pD,if_pos ⟨Aw,.inr hJ⟩],aL⟩,eY⟩
  .refine J ?_;exact⟨(),trivial,(aI.trans bm).trans bA,fun cN=>by rcases cN.2 with h | h;exact h jP;exact hJ h⟩
 clear bh cn dp;rintro _ S bt ⟨aI,tp⟩;have hc:o.fA m s q c=(o.h6 m q c.bE s).map fun t=>t.set (o.da m q) c.to:=by rw[pD,if_neg tp]
 rw[hc];clear pD tp hc;have dp:=aI.obj YV;refine J ?_;refine L_ 13 c.bE.length [1,3,8,9] (fun v:gr=>[(12,.slice v.1 v.2.1 v.2.2)]) (some Nx,s.length,r2) (fun n v W=>Ext bo W/\∃t,o.h6 m q (c.bE.take n) s=some t/\dc W (.slice v.1 v.2.1 v.2.2) t/\o.Fits m t) a8 a8 ⟨aI,s,rfl,ak.ext Flat.ext (bF.trans aI),av⟩ ?_;clear dp aI;rintro n jV aZ bG ax ⟨bm,t,aA,E3,re⟩;have bh:=bm.obj akc;have cn:=bm.obj akj;have dp:=bm.obj YV;have alw:=ZW.ext bm;have c8:=bF.trans bm;refine J ?_;apply I_<;>intro g2
 .have iH:n<c.bE.length:=Aw
  obtain⟨vy,rfl⟩:=ZW.addr;obtain⟨bH,bV,q8,oX,pG⟩:=alw.at n iH;have Er:=oT.act n iH;obtain⟨avT,atP,rfl,_⟩:=oX.form;obtain⟨avU,Bx,rfl,_⟩:=pG.form;refine J ?_;intro cQ bA;replace bh:=bA.obj bh;replace cn:=bA.obj cn;replace dp:=bA.obj dp;replace q8:=q8.ext bA;have eY:=c8.trans bA;refine J ?_;refine J_ (ap8 _ _ _ _ m t q p c.bE[n] cQ (ek.ext eY) aH aS (E3.ext Flat.ext bA) re aX (oX.ext bA) (pG.ext bA) Er) ?_;rintro u cS ⟨bN,bT⟩;have JE:=o.Np m q c.bE s iH;rw[aA] at JE;simp only at JE;rcases bN with ⟨fg,rfl⟩ | ⟨hP,awi,hW,rfl,kr⟩
  .refine J ?_;exact⟨.inl ⟨by rw[o.No m q c.bE s (n+1) (JE.trans fg)];rfl,aL⟩,eY.trans bT⟩
  .obtain⟨ry,uv,rfl,_⟩:=kr.form;refine J ?_;exact⟨iH,aL,(ry,_,uv),⟨rfl,trivial⟩,(bm.trans bA).trans bT,hP,JE.trans hW,jz kr,o.Nl aS aX Er re hW⟩
 .have Jz:n=c.bE.length:=Aw
  subst Jz;rw[AF1] at aA;rw[aA];obtain⟨CZ,nc,dL⟩:=jV;obtain⟨_,_,au5,_⟩:=E3.form;have b4:=re.len;have acx:=df.ext Flat.ext c8;refine J ?_;intro cQ bA;replace bh:=bA.obj bh;replace cn:=bA.obj cn;replace dp:=bA.obj dp;replace acx:=acx.ext Flat.ext bA;have eY:=c8.trans bA;refine J ?_;refine J_ (acF _ t (o.da m q) c.to _ (E3.ext Flat.ext bA) (by rw[qu]) Aw Aw) ?_;rintro u cS ⟨gO,bT⟩;obtain⟨Ao,zl,rfl,_⟩:=gO.form;refine J ?_;exact⟨.inr ⟨_,_,rfl,rfl,aP.low eY.size gO⟩,eY.trans bT⟩
end Go.Proofs.R
end
section
namespace o
open Go
def lost(m:Model)(s t:C_ Int)(c:dr):C_ Int:=hi t (b6 m (comm c.bE).2.toNat) (chanOf m s (comm c.bE).2.toNat)
structure mE(m:Model)(s:List Int)(ref way:Int)(t:List Int)(e:Int):Prop where
 f0:¬(hB m s/\Told m ref)->t=[]/\e=2
 f1:∀q p k,hB m s->ez m ref q p k->¬(0<=way/\way<ways (bx m p k) m.ar)->t=[]/\e=2
 f2:∀q p k,hB m s->ez m ref q p k->0<=way/\way<ways (bx m p k) m.ar->fA m s q (bx m p k)=none->t=[]/\e=15
 f3:∀q p k u,hB m s->ez m ref q p k->0<=way/\way<ways (bx m p k) m.ar->fA m s q (bx m p k)=some u->t=(if way=1 then lost m s u (bx m p k) else u)/\e=0
theorem mE.no{m:Model}{s:C_ Int}{ref way:Int}(h:¬(hB m s/\Told m ref)):mE m s ref way [] 2 :=
 ⟨fun _=>⟨rfl,rfl⟩,fun _ _ _ aG ai=>absurd ⟨aG,ai.told⟩ h,fun _ _ _ aG ai=>absurd ⟨aG,ai.told⟩ h,fun _ _ _ _ aG ai=>absurd ⟨aG,ai.told⟩ h⟩
theorem mE.abN{m:Model}{s:C_ Int}{ref way:Int}{q p k:Nat}(ai:ez m ref q p k)(aG:hB m s)(h:¬(0<=way/\way<ways (bx m p k) m.ar)):mE m s ref way [] 2 :=
 ⟨fun ax=>absurd ⟨aG,ai.told⟩ ax,fun _ _ _ _ _ _=>⟨rfl,rfl⟩,fun ei eX k' _ nv hw=>(by obtain⟨rfl,rfl,rfl⟩:=ai.one nv;exact absurd hw h),fun ei eX k' _ _ nv hw=>by obtain⟨rfl,rfl,rfl⟩:=ai.one nv;exact absurd hw h⟩
theorem mE.none{m:Model}{s:C_ Int}{ref way:Int}{q p k:Nat}(ai:ez m ref q p k)(aG:hB m s)(hw:0<=way/\way<ways (bx m p k) m.ar)(h:fA m s q (bx m p k)=Option.none):mE m s ref way [] 15 :=
 ⟨fun ax=>absurd ⟨aG,ai.told⟩ ax,fun ei eX k' _ nv ax=>(by obtain⟨rfl,rfl,rfl⟩:=ai.one nv;exact absurd hw ax),fun _ _ _ _ _ _ _=>⟨rfl,rfl⟩,fun ei eX k' u _ nv _ hu=>by obtain⟨rfl,rfl,rfl⟩:=ai.one nv;rw[h] at hu;cases hu⟩
theorem mE.some{m:Model}{s u:C_ Int}{ref way:Int}{q p k:Nat}(ai:ez m ref q p k)(aG:hB m s)(hw:0<=way/\way<ways (bx m p k) m.ar)(h:fA m s q (bx m p k)=Option.some u):mE m s ref way (if way=1 then lost m s u (bx m p k) else u) 0 :=
 ⟨fun ax=>absurd ⟨aG,ai.told⟩ ax,fun ei eX k' _ nv ax=>(by obtain⟨rfl,rfl,rfl⟩:=ai.one nv;exact absurd hw ax),fun ei eX k' _ nv _ hu=>(by obtain⟨rfl,rfl,rfl⟩:=ai.one nv;rw[h] at hu;cases hu),
  fun ei eX k' kg _ nv _ hu=>by obtain⟨rfl,rfl,rfl⟩:=ai.one nv;rw[h] at hu;injection hu with hu;subst hu;exact⟨rfl,rfl⟩⟩
theorem ad7{c:dr}{l:C_ dg}(h:1<ways c l):∃j:Nat,(comm c.bE).2=j/\j<l.length/\(comm c.bE).1=4:=by
 unfold ways at h;split at h
 .rename_i aE;cases ax:nth l (comm c.bE).2 with
  | none=>rw[ax] at h;simp at h
  | some x =>
   obtain⟨ad,_,h1⟩:=wW ax;exact⟨(comm c.bE).2.toNat,Aw,h1,aE⟩
 .omega
theorem N1{m:Model}{s t:C_ Int}{ref:Int}{q p k:Nat}(bq:ez m ref q p k)(av:Fits m s)(h:fA m s q (bx m p k)=some t):t.length=c6 m :=
 (DQ bq.inst.ao rfl bq.cin av.len h).1.trans av.len
end o
namespace Go.Proofs.R
open Go Go.RowKit a7
theorem acB(cs:C_ B_)(v:B_)(m:o.Model)(s:C_ Int)(w:A_)(h:pq w cs m)(aS:o.eD m)(ak:dc w v s) :
  Dz F.Lc #[.agg cs.toArray,v] w fun u w'=>(∃t:Bool,u = .bool t/\(t=true↔o.Fits m s))/\Ext w w':=by
 obtain⟨eB,d0,dB,d1,ec,d2,er,d3,eN,d4,bW,bu,bI,c1,bO,c2,bQ,bp,bZ,bB,b9,ci,fm,gd,rfl,cX,r9,_⟩:=h.form;obtain⟨os,r2,rfl,FI⟩:=ak.form;refine bl E.Lc ?_;refine J ?_;intro w1 bP db ah au;refine J ?_;refine _k [.slice eB m.scalars.length d0,.slice dB m.vars.length d1,.slice ec m.ar.length d2,.slice er m.procs.length d3,.slice eN m.props.length d4] au rfl rfl ?_;refine J ?_;refine _k [.slice bW (o.layout m).vars.length bu,.slice bI (o.layout m).ar.length c1,.slice bO (o.layout m).insts.length c2,.I (o.layout m).cells,.slice bQ (o.layout m).aQ.length bp,.slice bZ (o.layout m).U.length bB] au rfl rfl ?_;refine J ?_;refine J_ (aqa _ _ m _ s w1 (cX.ext ah) (r9.ext ah) aS (ak.ext Flat.ext ah)) ?_;rintro _ aB ⟨⟨t,rfl,aA⟩,aj⟩;refine J ?_;exact⟨⟨t,rfl,aA⟩,ah.trans aj⟩
theorem acz(cs:C_ B_)(v:B_)(m:o.Model)(s:C_ Int)(ref way:Int)(w:A_)(h:o.dU w cs m)(aH:m.cA)(ak:dc w v s) :
  Dz F.K7 #[.agg cs.toArray,v,.I ref,.I way] w fun u w'=>(∃jV t e,u = .tuple #[jV,.I e]/\dc w' jV t/\o.mE m s ref way t e)/\Ext w w':=by
 have cX:=h;obtain⟨bW,bu,bI,c1,bO,c2,bQ,bp,bZ,bB,rfl,ad,h1,I,ab,aE,_⟩:=h.form;obtain⟨os,r2,rfl,FI⟩:=ak.form;refine bl E.K7 ?_;refine J ?_;intro w1 cx e3 ah bf;refine J ?_;refine J_ (acA _ m w1 (cX.ext ah) aH) ?_;rintro _ aB ⟨hO,aj⟩;replace bf:=aj.obj bf;have e2:=ah.trans aj;rcases hO with ⟨hk,rfl⟩ | ⟨hk,zs,rfl,ek⟩
 .unfold aek;refine J ?_;intro aK qY wb ag gu;refine J ?_;intro aR aw;refine J ?_;exact⟨⟨_,[],2,rfl,bg.nil,o.mE.no fun ax=>hk ax.1.1⟩,(e2.trans ag).trans aw⟩
 have aS:=o.iu hk;have Eo:=ek;obtain⟨eB,d0,dB,d1,ec,d2,er,d3,eN,d4,L9,g0,S1,g1,AE,g2,adX,g3,AF,g4,b9,ci,fm,gd,rfl,_⟩:=ek.form;refine J ?_;intro aK qY wb ag gu;replace bf:=ag.obj bf;have IY:=Eo.ext ag;have a1:=e2.trans ag;refine J ?_;intro aR aw;replace bf:=aw.obj bf;replace gu:=aw.obj gu;have Pf:=IY.ext aw;have bC:=a1.trans aw;refine J ?_;refine J_ (acB _ _ m s aR Pf aS (ak.ext Flat.ext bC)) ?_;rintro _ bo ⟨⟨t,rfl,aA⟩,aF⟩;have IZ:=Pf.ext aF;have bF:=bC.trans aF;refine⟨aF,?_⟩;cases t with
 | false =>
  refine J ?_;exact⟨⟨_,[],2,rfl,bg.nil,o.mE.no fun ax=>by have:=aA.2 ax.1.2;cases this⟩,bF⟩
 | true =>
  have bD:o.hB m s:=⟨hk,aA.1 rfl⟩;refine J ?_;apply I_<;>intro g1
  .refine J ?_;exact⟨⟨_,[],2,rfl,bg.nil,o.mE.no fun ax=>by have:=ax.2.2;omega⟩,bF⟩
  refine J ?_;apply I_<;>intro g2
  .refine J ?_;exact⟨⟨_,[],2,rfl,bg.nil,o.mE.no fun ax=>by have:=ax.2.2;omega⟩,bF⟩
  obtain⟨q,p,k,bq⟩:=o.oO (m:=m) (ref:=ref) ⟨hk,Aw,Aw⟩;refine J ?_;apply I_<;>intro g3
  .refine J ?_;exact⟨⟨_,[],2,rfl,bg.nil,o.mE.abN bq bD Aw⟩,bF⟩
  refine J ?_;refine J_ (F4 _ m ref q p k bo IZ bq) ?_;rintro _ bt ⟨⟨e6,dn,rfl,hv,fW⟩,aI⟩;have cg:=bF.trans aI;refine⟨aF.trans aI,?_⟩;refine J ?_;refine J_ (adh _ _ _ _ m.ar bt (fW.ext aI) (I.ext cg)) ?_;rintro _ bG ⟨rfl,bm⟩;have c8:=cg.trans bm;have Om:=(aF.trans aI).trans bm;replace bf:=Om.obj bf;replace gu:=Om.obj gu;have Pg:=Pf.ext Om;obtain⟨ael,Fl⟩:∃x,x=o.ways (o.bx m p k) m.ar:=⟨_,rfl⟩;rw[<-Fl];refine J ?_;apply I_<;>intro g4
  .refine J ?_;exact⟨⟨_,[],2,rfl,bg.nil,o.mE.abN bq bD Aw⟩,c8⟩
  have hw:0<=way/\way<o.ways (o.bx m p k) m.ar:=Aw
  have jx:=ak.ext Flat.ext c8;refine J ?_;refine J_ (acC _ _ m s ref q p k bG Pg aH jx bD.2 bq) ?_;rintro u cQ ⟨bN,bA⟩;replace bf:=bA.obj bf;replace gu:=bA.obj gu;have eY:=c8.trans bA;rcases bN with ⟨fg,rfl⟩ | ⟨t,jV,hW,rfl,kr⟩
  .refine J ?_;exact⟨⟨_,[],15,rfl,bg.nil,o.mE.none bq bD hw fg⟩,eY⟩
  obtain⟨ry,uv,rfl,_⟩:=kr.form;have yp:=o.mE.some bq bD hw hW;refine J ?_;apply I_<;>intro g5;rotate_left
  .rw[if_neg g5] at yp;refine J ?_;exact⟨⟨_,t,0,rfl,jz kr,yp⟩,eY⟩
  rw[if_pos g5] at yp;obtain⟨j,aC,kK,ZA⟩:=o.ad7 (c:=o.bx m p k) (l:=m.ar) Aw;have b4:=o.N1 bq bD.2 hW;have dv:(o.chanOf m s j).length=1+o.fH m j:=o.n0 (by rw[bD.2.len];exact o.kX kK);unfold o.lost at yp;rw[aC,AF4] at yp;refine J ?_;refine J_ (F4 _ m ref q p k cQ (Pg.ext bA) bq) ?_;rintro _ cS ⟨⟨e6,dn,rfl,hv,fW⟩,bT⟩;have jq:=eY.trans bT;replace gu:=bT.obj gu;refine J ?_;refine J_ (Se _ _ _ cS (fW.ext bT)) ?_;rintro _ eG ⟨rfl,ch⟩;have jo:=jq.trans ch;replace gu:=ch.obj gu;rw[aC];have ajP:=(Pg.ext bA).ext (bT.trans ch);refine J ?_;intro fN eg;replace gu:=eg.obj gu;have te:=jo.trans eg;have YI:=ajP.ext eg;refine J ?_;refine J_ (LH _ _ m s j fN YI aS (ak.ext Flat.ext te) bD.2.len kK) ?_;rintro u h2 ⟨hu,ev⟩;obtain⟨u6,tc,rfl,_⟩:=hu.form;refine⟨ev,?_⟩;refine J ?_;refine J_ (LJ _ _ _ m t (o.chanOf m s j) j h2 (YI.ext ev) aS ((jz kr).ext Flat.ext (((bT.trans ch).trans eg).trans ev)) hu b4 kK dv) ?_;rintro u l5 ⟨zV,hd⟩;obtain⟨Ao,zl,rfl,_⟩:=zV.form;refine J ?_;exact⟨⟨_,_,0,rfl,jz zV,yp⟩,(te.trans ev).trans hd⟩
end Go.Proofs.R
end
section
namespace o
open Go
theorem Wb{s:Scope}:∀(l:C_ Act) (i:Nat) (t:Bool),(kV s l i t).2=0->∀k (h:k<l.length),kA l[k] s=0
 | [],_,_,_,k,h=>by simp at h
 | a :: r,i,t,h,k,hk=>by
  unfold kV at h;by_cases h1:(hn a&&t)=true
  .rw[if_pos h1] at h;cases h
  rw[if_neg h1] at h;by_cases I:kA a s≠0
  .rw[if_pos I] at h;exact absurd h I
  rw[if_neg I] at h;cases k with
  | zero=>simpa using I
  | succ k=>exact Wb r _ _ h k (by simpa using hk)
structure aex(m:Model)(p:Nat)(c:dr):Prop where
 act:∀k (h:k<c.bE.length),∀aq:p<m.procs.length,kA c.bE[k] (inner m.procs[p] (eF m))=0
 to:∀aq:p<m.procs.length,0<=c.to/\c.to<m.procs[p].b2
theorem agQ{m:Model}(h:(check m).cC=0){p k:Nat}(aq:p<m.procs.length)(hk:k<m.procs[p].cy.length):aex m p m.procs[p].cy[k]:=by
 obtain⟨dB,_,_⟩:=Lv (NX h);obtain⟨_,cq,_,_⟩:=BC aq (dB p aq);obtain⟨_,_,hK⟩:=R2 cq;have e:hl m (p:Int)=inner m.procs[p] (eF m):=by
  unfold hl;rw[iv Aw Aw];rfl
 have aY:=(Hw _ _ hK k hk).1;rw[e] at aY;unfold jn at aY;by_cases h1:head m.procs[p].cy[k] m.procs[p].b2≠0
 .rw[if_pos h1] at aY;exact absurd aY h1
 rw[if_neg h1] at aY;have aY:(kV (inner m.procs[p] (eF m)) m.procs[p].cy[k].bE 0 false).2=0:=by
  split at aY
  .rename_i cN;exact absurd aY cN.2
  .exact aY
 refine⟨fun j aC _=>Wb _ _ _ aY j aC,fun _=>?_⟩;have h1:head m.procs[p].cy[k] m.procs[p].b2=0:=by simpa using h1
 unfold head at h1;by_cases cO:isName m.procs[p].cy[k].name=false
 .rw[if_pos cO] at h1;cases h1
 rw[if_neg cO] at h1;by_cases de:m.procs[p].cy[k].from_<0\/m.procs[p].b2<=m.procs[p].cy[k].from_\/m.procs[p].cy[k].to<0\/m.procs[p].b2<=m.procs[p].cy[k].to
 .rw[if_pos de] at h1;cases h1
 omega
theorem aaE{m:Model}:∀(l:C_ dw) (i:Nat),l=m.procs.drop i->∀x∈jO m l i,∃(p:Nat) (h:p<m.procs.length),x.proc=p/\(m.procs[p].over≠0->x.elem<=elems m m.procs[p])
 | [],_,_,x,af=>by simp[jO] at af
 | p :: r,i,h,x,af=>by
  have U:i<m.procs.length:=by
   apply Classical.byContradiction;intro ax;rw[AF0 Aw] at h;cases h
  rw[AF3 U] at h;injection h with h1 I
  simp only[jO,List.mem_append] at af;rcases af with (af | af) | af
  .unfold je at af;split at af
   .rename_i ad;rw[AG4] at af;subst af;exact⟨i,U,rfl,fun ax=>absurd (h1 ▸ ad) ax⟩
   .cases af
  .unfold jR at af;obtain⟨k,hk,rfl⟩:=List.mem_map.1 af
   have:=List.mem_range.1 hk
   refine⟨i,U,rfl,fun _=>?_⟩;rw[<-h1];simp only;omega
  .exact aaE r (i+1) I x af
theorem fo.an7{m:Model}{q p:Nat}(h:fo m q p):(m.procs[p]'(h.aq)).over≠0->((insts m)[q]'(h.ao)).elem<=elems m (m.procs[p]'(h.aq)):=by
 obtain⟨eX,Z1,e,h1⟩:=aaE m.procs 0 Bh _ (Gy h.ao);have I:=h.eq;have e2:((eX:Nat):Int)=p:=by
  have:((insts m)[q]'(h.ao)).proc=(eX:Int):=e
  rw[<-this,I]
 have:eX=p:=Aw
 subst this;exact h1
theorem aht{m:Model}{p:dw}(h:elems m p≠0):(elems m p:Int)=size p.over m.scalars:=by
 unfold elems at h ⊢;cases ax:nth m.scalars (p.over - 1) with
 | none=>rw[ax] at h;exact absurd rfl h
 | some x =>
  rw[ax] at h;obtain⟨ad,h1,_⟩:=wW ax;simp only at h ⊢;unfold size;rw[h1];split at h
  .exact absurd rfl h
  .rename_i cN;rw[if_neg cN];simp only;rw[if_pos Aw];omega
theorem ana{x:Node}{s:Scope}(h:x.op=5)(h1:1<=s.self/\s.self<=s.scalars.length):kind [x] s=(1+s.self,0):=by
 have ax:fe x.op=0:=by rw[h];decide
 have av:fk s x []=(1+s.self,0):=by
  unfold fk;rw[h];simp[gJ,jc,mq,h,h1]
 unfold kind lh eP;simp only[List.length_singleton,stepG,ax,av];simp[eP]
theorem ae6{m:Model}{p:Nat}(aq:p<m.procs.length){a:Act}(h:kA a (inner m.procs[p] (eF m))=0)(I:a.kind=2)(ak:sD a=true):∃v,m.vars[a.to.toNat]? = some v/\v.over=m.procs[p].over:=by
 obtain⟨x,af,aY⟩:∃x,a.index=[x]/\x.op=5:=by
  unfold sD at ak;split at ak
  .rename_i x af;exact⟨x,af,by simpa using ak⟩
  .cases ak
 have fs:=Nn h;have pJ:=((fs.item I).2.2.node 0 (by rw[af];simp)).1.self (by simp[af,aY]);unfold kA at h;rw[if_pos Aw] at h;rw[if_neg (by omega:¬a.kind=3)] at h;cases a6:declared (inner m.procs[p] (eF m)).vars a.to (inner m.procs[p] (eF m)) with
 | none=>rw[a6] at h;cases h
 | some yI =>
  rw[a6] at h;obtain⟨v,k⟩:=yI;obtain⟨_,d2,_⟩:=Od a6;simp only at h;by_cases ab:(v.over≠0)≠(a.kind=2)
  .rw[if_pos ab] at h;cases h
  rw[if_neg ab] at h;by_cases aE:a.kind=2/\asked a.index (1+v.over) (inner m.procs[p] (eF m))≠0
  .rw[if_pos aE] at h;exact absurd h aE.2
  have bz:asked a.index (1+v.over) (inner m.procs[p] (eF m))=0:=Classical.byContradiction fun ax=>aE ⟨I,ax⟩;refine⟨v,d2,?_⟩;unfold asked at bz;rw[af,ana aY pJ] at bz;simp only[ne_eq,not_true_eq_false,if_false] at bz;split at bz
  .cases bz
  .rename_i cN
   have:(inner m.procs[p] (eF m)).self=m.procs[p].over:=rfl
   omega
theorem amY{m:Model}{q p:Nat}(aX:fo m q p){v:Nat}(aD:v<m.vars.length){own:Bool}(aJ:own=true->m.vars[v].over=(m.procs[p]'(aX.aq)).over/\(m.procs[p]'(aX.aq)).over≠0):∀x∈qB m q v own,0<=x/\x<c6 m:=fun x af=>by
 have h1:=rJ aD;have I:=rv aD;have ab:=mL m;unfold qB at af;cases own with
 | false =>
  rw[if_neg Bh] at af
  have:=sB.1 af
  omega
 | true =>
  obtain⟨bI,bO⟩:=aJ rfl;rw[if_pos rfl] at af;have af:=sB.1 af;have e1:=aX.elem bO;have e2:=aX.an7 bO;have a1:=aht (m:=m) (p:=m.procs[p]'(aX.aq)) Aw;have bC:=DV aX.ao;have bF:cells m.vars[v] m.scalars=size (m.procs[p]'(aX.aq)).over m.scalars:=by unfold cells;rw[if_neg Aw,bI]
  omega
theorem ae4{m:Model}{q p:Nat}(aX:fo m q p){a:Act}(dI:kA a (inner (m.procs[p]'(aX.aq)) (eF m))=0):∀x∈mf m q a,0<=x/\x<c6 m:=fun x af=>by
 have aU:=Nn dI;have sj:=aX.room;have ab:=mL m;unfold mf at af;by_cases h1:a.kind=1
 .rw[if_pos h1] at af;obtain⟨_,v,aD,iJ⟩:=aU.set h1;have hg:a.to.toNat<m.vars.length:=(List.getElem?_eq_some_iff.1 aD).1;have fa:m.vars[a.to.toNat]=v:=(List.getElem?_eq_some_iff.1 aD).2
  have:=rJ hg
  have e:cells m.vars[a.to.toNat] m.scalars=1:=by rw[fa];unfold cells;rw[if_pos iJ]
  have:=sB.1 af
  omega
 rw[if_neg h1] at af;by_cases I:a.kind=2
 .rw[if_pos I] at af;have hg:a.to.toNat<m.vars.length:=(aU.item I).2.1;refine amY aX hg (fun ak=>?_) x af;obtain⟨v,aD,aJ⟩:=ae6 aX.aq dI I ak;obtain⟨_,fa⟩:=List.getElem?_eq_some_iff.1 aD;obtain⟨y,bK,aY⟩:∃y,a.index=[y]/\y.op=5:=by
   unfold sD at ak;split at ak
   .rename_i y bK;exact⟨y,bK,by simpa using ak⟩
   .cases ak
  have pJ:=((aU.item I).2.2.node 0 (by rw[bK];simp)).1.self (by simp[bK,aY])
  have:(inner (m.procs[p]'(aX.aq)) (eF m)).self=(m.procs[p]'(aX.aq)).over:=rfl
  exact⟨by rw[fa];exact aJ,Aw⟩
 rw[if_neg I] at af;by_cases zx:a.kind=3
 .rw[if_pos zx] at af;have aY:a.to.toNat<(m.procs[p]'(aX.aq)).vars.length:=(aU.loc zx).2
  have:=sB.1 af
  omega
 rw[if_neg zx] at af;by_cases aE:a.kind=4
 .rw[if_pos aE] at af
  have:=kX (m:=m) (aU.chan (.inl aE)).2
  have:=sB.1 af
  omega
 rw[if_neg aE] at af;by_cases aY:a.kind=5
 .rw[if_pos aY] at af;have bz:a.loc.toNat<(m.procs[p]'(aX.aq)).vars.length:=(aU.recv aY).2
  have:=kX (m:=m) (aU.chan (.inr aY)).2
  rcases List.mem_append.1 af with af | af
  .have:=sB.1 af;omega
  .have:=sB.1 af;omega
 .rw[if_neg aY] at af;cases af
theorem aei{m:Model}{ref:Int}{q p k:Nat}(bq:ez m ref q p k):∀x∈l6 m q (bx m p k) (bx m p k).bE.length,0<=x/\x<c6 m:=fun x af=>by
 have aX:=bq.inst;have ZT:=agQ bq.ok bq.at_.aq bq.at_.hk;rw[<-vK bq.at_.aq bq.at_.hk] at ZT;have sj:=aX.room;unfold l6 at af;rw[AF1] at af;rcases List.mem_append.1 af with af | af
 .have:=sB.1 af;omega
 .obtain⟨a,aU,Q1⟩:=List.mem_flatMap.1 af;obtain⟨j,aC,rfl⟩:=List.mem_iff_getElem.1 aU;exact ae4 aX (ZT.act j aC aX.aq) x Q1
theorem acH{m:Model}{ref:Int}{q p k:Nat}(bq:ez m ref q p k){s u:C_ Int}{l:C_ Int}(av:Fits m s)(hu:Fits m u)
  (aG:∀x∈ow m q (bx m p k) (bx m p k).bE.length,x∈l)(hw:∀x∈l6 m q (bx m p k) (bx m p k).bE.length,x∈l)(aU:jD s u l):C7 l (fA m s q (bx m p k)) (fA m u q (bx m p k)):=by
 refine agN rfl rfl bq.inst ?_ bq.cin aU (av.len.trans hu.len.symm) av.len aG hw;by_cases h:(m.procs[p]'(bq.inst.aq)).over=0
 .exact .inr h
 .exact .inl h
theorem asU(c:dr)(l:C_ dg):0<ways c l:=by
 unfold ways;split
 .split
  .split<;>omega
  .omega
 .omega
theorem NY{m:Model}(h:(check m).cC=0):(data m).cC=0/\(mr m).cC=0/\(pL m).cC=0:=by
 unfold check at h;by_cases h1:(data m).cC≠0
 .rw[if_pos h1] at h;exact absurd h h1
 rw[if_neg h1] at h;by_cases I:(mr m).cC≠0
 .rw[if_pos I] at h;exact absurd h I
 rw[if_neg I] at h;exact⟨by simpa using h1,by simpa using I,h⟩
theorem apF{m:Model}(h:(check m).cC=0):m.props.length<=8:=by
 obtain⟨_,_,ab⟩:=NY h;have aG:=Lw ab;refine Classical.byContradiction fun ax=>?_;have dF:=aG 8 Aw;rw[D1 Aw,if_pos Aw] at dF;cases dF
theorem acg{m:Model}(h:(check m).cC=0){j:Nat}(aC:j<m.props.length):sK (eF m) m.props[j].expr:=by
 obtain⟨_,_,ab⟩:=NY h;have dF:=Lw ab j aC;rw[D1 aC] at dF;refine aa2 (Classical.byContradiction fun ax=>?_)
 repeat' split at dF
 all_goals first | omega | (exact absurd dF ax) | skip
 all_goals contradiction
def vb(m:Model):C_ Int:=m.props.flatMap fun p=>FX m p.expr
def oy(m:Model):C_ Bool:=if (check m).cC=0 then (List.range (c6 m)).map fun(c:Nat)=>decide ((c:Int)∈vb m) else []
structure oL(n:Nat)(L:List Int)(ae:List Bool):Prop where
 len:ae.length=n
 at_:∀(c:Nat) (h:c<ae.length),ae[c]=decide ((c:Int)∈L)
theorem oL.start(n:Nat):oL n [] (List.replicate n false):=⟨Bh,fun c h=>Bh⟩
theorem oL.put{n c:Nat}{L:C_ Int}{ae:C_ Bool}(h:oL n L ae)(ai:c<n):oL n (L++[(c:Int)]) (ae.set c true):=by
 refine⟨by rw[AE8];exact h.len,fun d a6=>?_⟩;rw[AE8] at a6;rw[List.getElem_set];by_cases e:c=d
 .subst e;simp
 .rw[if_neg e,h.at_ d a6]
  have:¬(d:Int)=(c:Int):=Aw
  simp[this]
theorem oL.congr{n:Nat}{L nd:C_ Int}{ae:C_ Bool}(h:oL n L ae)(e:∀x,x∈L↔x∈nd):oL n nd ae:=⟨h.len,fun c ai=>by rw[h.at_ c ai];exact decide_eq_decide.2 (e _)⟩
theorem oL.eq{n:Nat}{L:C_ Int}{ae o':C_ Bool}(h:oL n L ae)(bk:oL n L o'):ae=o':=by
 refine AK9 (by rw[h.len,bk.len]) fun c h1 I=>by rw[h.at_ c h1,bk.at_ c I]
theorem oL.arp{m:Model}{ae:C_ Bool}(hk:(check m).cC=0)(h:oL (c6 m) (vb m) ae):ae=oy m:=by
 unfold oy;rw[if_pos hk];exact h.eq ⟨Bh,fun c ai=>Bh⟩
def jj(a b:C_ Int):Prop := ∃x,x∈a/\x∈b
instance(a b:C_ Int):Decidable (jj a b):=decidable_of_iff (a.any (fun x=>b.contains x)=true) (by simp[jj,List.any_eq_true])
theorem jj.comm{a b:C_ Int}:jj a b↔jj b a:=⟨fun⟨x,h1,I⟩=>⟨x,I,h1⟩,fun⟨x,h1,I⟩=>⟨x,I,h1⟩⟩
theorem jj.aok(b:C_ Int):¬jj [] b:=fun⟨_,h,_⟩=>by cases h
theorem jj.aol(a:C_ Int):¬jj a []:=fun⟨_,_,h⟩=>by cases h
theorem apP{a:C_ Int}(aU:a.Pairwise (· < ·)){i:Nat}(h:i<a.length):∀x∈a.drop i,a[i]<=x:=fun x af=>by
 rw[AF3 h] at af;rcases List.mem_cons.1 af with e | e
 .omega
 .have aq:=aU.sublist (List.drop_sublist i a);rw[AF3 h,AJ1] at aq
  have:=aq.1 x e
  omega
theorem adS{a b:C_ Int}(an:b.Pairwise (· < ·)){i k:Nat}(h1:i<a.length)(I:k<b.length)(h:a[i]<b[k]):jj (a.drop i) (b.drop k)↔jj (a.drop (i+1)) (b.drop k):=by
 constructor
 .rintro⟨x,cq,cB⟩;rw[AF3 h1] at cq;rcases List.mem_cons.1 cq with e | e
  .have:=apP an I x cB;omega
  .exact⟨x,e,cB⟩
 .rintro⟨x,cq,cB⟩;exact⟨x,by rw[AF3 h1];exact AH6 _ cq,cB⟩
theorem Gu{a b:C_ Int}(aU:a.Pairwise (· < ·)){i k:Nat}(h1:i<a.length)(I:k<b.length)(h:b[k]<a[i]):jj (a.drop i) (b.drop k)↔jj (a.drop i) (b.drop (k+1)):=by
 rw[jj.comm,adS aU I h1 h,jj.comm]
theorem asn{a b:C_ Int}{i k:Nat}(h1:i<a.length)(I:k<b.length)(h:a[i]=b[k]):jj (a.drop i) (b.drop k) :=
 ⟨a[i],by rw[AF3 h1];exact AG2 ..,by rw[AF3 I,h];exact AG2 ..⟩
theorem aso{a b:C_ Int}{i k:Nat}(h:¬(i<a.length/\k<b.length)):¬jj (a.drop i) (b.drop k):=by
 by_cases h1:i<a.length
 .have e:b.drop k=[]:=AF0 Aw;rw[e];exact jj.aol _
 .have e:a.drop i=[]:=AF0 Aw;rw[e];exact jj.aok _
def rQ(r w r' w':C_ Int):Prop:=jj w w'\/jj w r'\/jj r w'
instance(r w r' w':C_ Int):Decidable (rQ r w r' w'):=inferInstanceAs (Decidable (_\/_\/_))
end o
end
section
namespace Go.Proofs.R
open Go Go.RowKit a7
theorem Gu(dn lH:B_)(a b:C_ Int)(w:A_)(aU:dc w dn a)(an:dc w lH b)(tP:a.Pairwise (· < ·))(sx:b.Pairwise (· < ·)) :
  Dz F.HQ #[dn,lH] w fun v w'=>v = .bool (decide (o.jj a b))/\Ext w w':=by
 obtain⟨aO,fz,rfl,qD⟩:=aU.form;obtain⟨yE,xT,rfl,hL⟩:=an.form;refine bl E.HQ ?_;refine J ?_;refine _P [0,1] (fun x:Nat×Nat=>[(5,.I x.1),(6,.I x.2)]) (0,0) (fun x W=>Ext w W/\x.1<=a.length/\x.2<=b.length/\(o.jj a b↔o.jj (a.drop x.1) (b.drop x.2))) (fun x=>(a.length - x.1)+(b.length - x.2)) a8 ⟨Ext.refl _,AG0 _,AG0 _,Iff.rfl⟩ ?_;rintro⟨i,k⟩ S w1 ⟨ah,U,hk,hm⟩;dsimp only at U hk hm ⊢;have no:¬(i<a.length/\k<b.length)->decide (o.jj a b)=false:=fun h=>decide_eq_false (by rw[hm];exact o.aso h);refine J ?_;apply I_<;>intro g1;rotate_left
 .refine J ?_;exact⟨by rw[no Aw],ah⟩
 refine J ?_;apply I_<;>intro g2;rotate_left
 .refine J ?_;exact⟨by rw[no Aw],ah⟩
 have qt:i<a.length:=Aw
 have cI:k<b.length:=Aw
 obtain⟨vy,rfl⟩:=aU.addr;obtain⟨p7,rfl⟩:=an.addr;have YK:=aU.ext Flat.ext ah;have cF:=an.ext Flat.ext ah;refine J ?_;intro aB aj;have e2:=ah.trans aj;refine J ?_;apply I_<;>intro g3
 .have yes:decide (o.jj a b)=true:=decide_eq_true (by rw[hm];exact o.asn qt cI g3);refine J ?_;exact⟨by rw[yes],e2⟩
 have at5:=YK.ext Flat.ext aj;have db:=cF.ext Flat.ext aj;clear YK cF;refine J ?_;intro aK ag;have a1:=e2.trans ag;refine J ?_;apply I_<;>intro g4
 .refine J ?_;exact⟨(i+1,k),⟨aL,aL,trivial⟩,⟨a1,by simp only;omega,hk,hm.trans (o.adS sx qt cI g4)⟩,by simp only;omega⟩
 .refine J ?_;exact⟨(i,k+1),⟨aL,aL,trivial⟩,⟨a1,U,by simp only;omega,hm.trans (o.Gu tP qt cI Aw)⟩,by simp only;omega⟩
theorem aoO(v1 v2 v3 v4:B_)(a b cp fG:C_ Int)(w:A_)(h1:dc w v1 a)(I:dc w v2 b)(ab:dc w v3 cp)(aE:dc w v4 fG)(tP:a.Pairwise (· < ·))(sx:b.Pairwise (· < ·))(apl:cp.Pairwise (· < ·))(ab9:fG.Pairwise (· < ·)) :
  Dz F.xN #[.agg #[v1,v2],.agg #[v3,v4]] w fun v w'=>v = .bool (decide (o.rQ a b cp fG))/\Ext w w':=by
 obtain⟨bI,c1,rfl,_⟩:=h1.form;obtain⟨bO,c2,rfl,_⟩:=I.form;obtain⟨bQ,bp,rfl,_⟩:=ab.form;obtain⟨bZ,bB,rfl,_⟩:=aE.form;refine bl E.xN ?_;refine J ?_;intro w1 bP db ah au;refine J ?_;intro aB bR e9 aj bh;replace au:=aj.obj au;have e2:=ah.trans aj;refine J ?_;refine J_ (Gu _ _ b fG aB (I.ext Flat.ext e2) (aE.ext Flat.ext e2) sx ab9) ?_;rintro _ aK ⟨rfl,ag⟩;have a1:=e2.trans ag;replace au:=ag.obj au;replace bh:=ag.obj bh;refine J ?_;apply I_<;>intro g1
 .have yes:decide (o.rQ a b cp fG)=true:=decide_eq_true (.inl g1);refine J ?_;exact⟨by rw[yes],a1⟩
 refine J ?_;refine J_ (Gu _ _ b cp aK (I.ext Flat.ext a1) (ab.ext Flat.ext a1) sx apl) ?_;rintro _ aR ⟨rfl,aw⟩;have bC:=a1.trans aw;replace au:=aw.obj au;replace bh:=aw.obj bh;refine J ?_;apply I_<;>intro g2
 .have yes:decide (o.rQ a b cp fG)=true:=decide_eq_true (.inr (.inl g2));refine J ?_;exact⟨by rw[yes],bC⟩
 refine J ?_;refine J_ (Gu _ _ a fG aR (h1.ext Flat.ext bC) (aE.ext Flat.ext bC) tP ab9) ?_;rintro _ bo ⟨rfl,aF⟩;have bF:=bC.trans aF;have last:decide (o.rQ a b cp fG)=decide (o.jj a fG):=decide_eq_decide.2 ⟨fun h=>h.elim (fun h=>absurd h g1) fun h=>h.elim (fun h=>absurd h g2) id,fun h=>.inr (.inr h)⟩;refine J ?_;exact⟨by rw[last],bF⟩
end Go.Proofs.R
end
section
namespace o
open Go
structure ng(m:Model)(n:Nat)(L:List (List Int×List Int)):Prop where
 len:L.length=n
 is:∀i (h:i<L.length),kz m i L[i].1 L[i].2
theorem ng.nil(m:Model):ng m 0 []:=⟨rfl,fun i h=>absurd h (LC _)⟩
theorem ng.snoc{m:Model}{n:Nat}{L:C_ (C_ Int×C_ Int)}{a b:C_ Int}(h:ng m n L)(aG:kz m n a b):ng m (n+1) (L++[(a,b)]):=by
 refine⟨by rw[Lk,h.len];rfl,fun i U=>?_⟩;by_cases e:i<L.length
 .rw[AI5 e];exact h.is i e
 .have e2:i=L.length:=by simp at U;omega
  subst e2;rw[AI6 (Gf _)];simp only[Nat.sub_self,List.getElem_cons_zero];rw[h.len];exact aG
theorem ng.eq{m:Model}{n:Nat}{L nd:C_ (C_ Int×C_ Int)}(h:ng m n L)(bk:ng m n nd):L=nd:=by
 refine AK9 (h.len.trans bk.len.symm) fun i h1 I=>?_;obtain⟨e1,e2⟩:=(h.is i h1).eq (bk.is i I);exact Prod.ext e1 e2
end o
namespace Go.Proofs.R
open Go Go.RowKit a7
def GK(w:A_)(cs:C_ B_)(x:C_ Int×C_ Int):Prop := ∃v1 v2,cs=[v1,v2]/\dc w v1 x.1/\dc w v2 x.2
def Vu(w:A_)(a:Addr)(x:C_ Int×C_ Int):Prop := ∃v1 v2,e7 w a [v1,v2]/\dc w v1 x.1/\dc w v2 x.2
theorem abQ{w:A_}{v:B_}{l:C_ Int}(h:dc w v l):v.oneCell'=true:=by
 obtain⟨ae,c,rfl,_⟩:=h.form;rfl
instance:Rel Vu GK 2 where
 out:=fun⟨v1,v2,h,h1,I⟩=>⟨_,h,v1,v2,rfl,h1,I⟩
 om:=fun h ⟨v1,v2,e,h1,I⟩=>⟨v1,v2,e ▸ h,h1,I⟩
 len:=fun⟨v1,v2,e,_⟩=>by rw[e];rfl
 one:=fun⟨v1,v2,e,h1,I⟩ u hu=>by
  rw[e] at hu;simp only[List.mem_cons,List.not_mem_nil,or_false] at hu;rcases hu with rfl | rfl
  .exact abQ h1
  .exact abQ I
 ext:=fun he ⟨v1,v2,e,h1,I⟩=>⟨v1,v2,e,h1.ext Flat.ext he,I.ext Flat.ext he⟩
theorem abJ{w w1:A_}{v:B_}{l:C_ Int}(h:aP cE T.a 1 w.heap.size w1 v l):ed w (fun W=>dc W v l) w1:=fun W m =>
 aP.hA (enc:=cE) (fun _=>rfl) (aP.mod h m fun k hk a=>by have:=(aP.lt h k hk).1;omega)
theorem asB(cs:C_ B_)(m:o.Model)(w:A_)(h:o.dU w cs m)(aH:m.cA)(aJ:gF w)(cM:o.vt m) :
  Dz F.xM #[.agg cs.toArray] w fun v w'=>(∃L base,o.ng m (o.refs m).length L/\w.heap.size<=base/\base<=w'.heap.size/\eI GK T.p8 2 base w' v L)/\Ext w w':=by
 have cX:=h;obtain⟨bW,bu,bI,c1,bO,c2,bQ,bp,bZ,bB,rfl,_⟩:=h.form;have iI:=o.tU cM;refine bl E.xM ?_;refine J ?_;intro w1 br cF ah al;refine J ?_;refine J_ (yL _ m w1 (cX.ext ah) cM) ?_;rintro ho aB ⟨iZ,aj⟩;obtain⟨fm,qb,rfl,_⟩:=iZ.form;replace al:=aj.obj al;have e2:=ah.trans aj;have z2:=e2.size;clear iZ;refine J ?_;refine L_ 10 (o.refs m).length [1,9] (fun u:B_=>[(3,u)]) (.slice none 0 0) (fun k u W => ∃L,o.ng m k L/\eI GK T.p8 2 aB.heap.size W u L/\Ext aB W) a8 a8 ⟨[],o.ng.nil m,eI.nil _ _ _ _ _,Ext.refl _⟩ ?_;rintro k u S aK hk ⟨L,ju,bD,ag⟩;have a1:=e2.trans ag;have jv:=ag.obj al;refine J ?_;apply I_<;>intro g1;rotate_left
 .have jw:k=(o.refs m).length:=Aw
  rw[jw] at ju;refine J ?_;exact⟨⟨L,_,ju,z2,ag.size,bD⟩,a1⟩
 have cI:k<(o.refs m).length:=Aw
 have ajO:=ju.len;obtain⟨u6,tc,rfl,_⟩:=bD.form;refine J ?_;refine J_ (U1 _ m k aK (cX.ext a1) aH (aJ.ext a1)) ?_;rintro _ aR ⟨⟨dn,lH,a,b,rfl,fW,Qj,ajG⟩,aw⟩;have ax:=((abJ fW).and (abJ Qj)).imp (q:=fun W=>GK W [dn,lH] (a,b)) fun W h=>⟨dn,lH,rfl,h.1,h.2⟩;obtain⟨aO,fz,rfl,_⟩:=fW.form;obtain⟨yE,xT,rfl,_⟩:=Qj.form;have z3:=ag.size;have z4:=aw.size;clear fW Qj;refine J ?_;intro bo ND kI aF bY;have z5:=aF.size;have Ek:=(bD.ext aw).ext aF;refine J ?_;refine _I Ek (gN bY) ((ed.ext ax aF z4).own bD z3) rfl (by simp[Value.oneCell']) Aw (by unfold maxLen;omega) Aw fun bS bt uD iq=>?_;have aI:=Ek.k2 ((ag.trans aw).trans aF) iq (Gf _);refine J ?_;exact⟨cI,aL,_,⟨rfl,trivial⟩,_,ju.snoc ajG,uD,aI⟩
end Go.Proofs.R
end
section
namespace o
open Go
def M8(s:Scope)(x:Node):Prop:=x.op=3->∃v,s.vars[x.n.toNat]? = some v/\v.over≠0
theorem anC{s:Scope}{x:Node}{top:Int}(h:(jc x s top).2=0):M8 s x:=by
 intro a1;unfold jc at h;rw[if_neg Aw,if_pos Aw] at h;simp only at h;by_cases ao:(gg (if x.op=4 then s.locals else s.vars) x.n s).2.2=false
 .rw[if_pos ao] at h;cases h
 rw[if_neg ao] at h;obtain⟨v,cq,cB,e5,hK,uX,Cn⟩:=abc (by simpa using ao);obtain⟨bI,bO,bQ⟩:=aa4 Cn;rw[hK] at h;simp only at h;by_cases ab:(x.op=3/\((hy v.over s).1=0\/top≠(hy v.over s).1))\/(x.op≠3/\(hy v.over s).1≠0)
 .rw[if_pos ab] at h;cases h
 .refine⟨v,?_,fun ad=>ab (.inl ⟨a1,.inl ?_⟩)⟩
  .rw[if_neg Aw] at cB;exact cB
  .rw[bQ,if_pos ad]
theorem am9{e:C_ Node}{s:Scope}(h:(kind e s).2=0):∀k (hk:k<e.length),M8 s e[k]:=by
 unfold kind lh at h;by_cases h1:e.length > 24
 .rw[if_pos h1] at h;cases h
 rw[if_neg h1] at h;by_cases I:e.length=0
 .exact fun k hk=>Aw
 rw[if_neg I] at h;by_cases ab:(eP (fk s) e []).1≠0
 .rw[if_pos ab] at h;exact absurd h ab
 have ab:(eP (fk s) e []).1=0:=by simpa using ab
 intro k hk;have si:∀j,(eP (fk s) (e.take j) []).1=0:=fun j=>Classical.byContradiction fun ax=>by
  have:=Su (f:=fk s) (e:=e) (k:=j) rfl ax
  rw[this] at ab;exact ax ab
 have fS:eP (fk s) (e.take k) []=(0,(eP (fk s) (e.take k) []).2):=Prod.ext (si k) rfl;have aE:=w4 hk fS;have aY:=si (k+1);rw[aE] at aY;unfold stepG at aY;by_cases cO:fe e[k].op<0
 .rw[if_pos cO] at aY;cases aY
 rw[if_neg cO] at aY;by_cases de:((eP (fk s) (e.take k) []).2.length:Int)<fe e[k].op
 .rw[if_pos de] at aY;cases aY
 rw[if_neg de] at aY;by_cases dQ:(fk s e[k] (eP (fk s) (e.take k) []).2).2≠0
 .rw[if_pos dQ] at aY;exact absurd aY dQ
 have dQ:(fk s e[k] (eP (fk s) (e.take k) []).2).2=0:=by simpa using dQ
 by_cases aJ:yv e[k].op=false
 .unfold fk at dQ;rw[RR aJ] at dQ;exact anC dQ
 .intro a1;simp only[yv,decide_eq_false_iff_not] at aJ;omega
theorem apG{m:Model}(h:(check m).cC=0){j:Nat}(aC:j<m.props.length):(kind m.props[j].expr (eF m)).2=0:=by
 obtain⟨_,_,ab⟩:=NY h;have dF:=Lw ab j aC;rw[D1 aC] at dF;refine Classical.byContradiction fun ax=>?_
 repeat' split at dF
 all_goals first | omega | (exact absurd dF ax) | skip
 all_goals contradiction
theorem amK{m:Model}{q:Nat}(h:q<(insts m).length):da m q+1<=c6 m:=by
 obtain⟨p,aq⟩:=Fq h
 have:=aq.room
 omega
theorem adZ{m:Model}{v:Nat}(h:v<m.vars.length):gp m v+o4 m v<=c6 m:=by
 have:=rJ h
 rw[rv h]
 have:=mL m
 omega
theorem afX{m:Model}{c:Nat}(h:c<m.ar.length):b6 m c+(1+fH m c)<=c6 m:=by
 have:=vF h
 rw[oN h]
 have:=mL m
 omega
structure A7(m:Model)(x:Node):Prop where
 node:A0 (eF m) x
 over:M8 (eF m) x
theorem A7.var{m:Model}(aS:eD m){x:Node}(h:A7 m x)(e:x.op=2):∃ax:x.n.toNat<m.vars.length,0<=x.n/\o4 m x.n.toNat=1:=by
 obtain⟨ad,v,aD,iJ⟩:=h.node.var e;have eT:m.vars[x.n.toNat]? = some v:=aD;obtain⟨h1,I⟩:=List.getElem?_eq_some_iff.1 eT;refine⟨h1,ad,?_⟩;rw[rv h1,I];unfold cells;rw[if_pos iJ];rfl
theorem A7.item{m:Model}(aS:eD m){x:Node}(h:A7 m x)(e:x.op=3):∃ax:x.n.toNat<m.vars.length,0<=x.n/\∃aJ:((m.vars[x.n.toNat]).over - 1).toNat<m.scalars.length,1<=(m.vars[x.n.toNat]).over/\(m.scalars[((m.vars[x.n.toNat]).over - 1).toNat]).size=(o4 m x.n.toNat:Nat)/\o4 m x.n.toNat<=4:=by
 obtain⟨ad,_⟩:=h.node.item e;obtain⟨v,aD,iJ⟩:=h.over e;have eT:m.vars[x.n.toNat]? = some v:=aD;obtain⟨h1,I⟩:=List.getElem?_eq_some_iff.1 eT;have c5:=aS.var _ (Gy h1);have ak:size (m.vars[x.n.toNat]).over m.scalars≠0:=by
  rcases c5.ep with q | q
  .rw[I] at q;exact absurd q iJ
  .exact q
 have ai:cells (m.vars[x.n.toNat]) m.scalars=size (m.vars[x.n.toNat]).over m.scalars:=by
  unfold cells;rw[if_neg (by rw[I];exact iJ)]
 refine⟨h1,ad,?_⟩;rw[rv h1,ai];unfold size at ak ⊢;cases hk:m.scalars[((m.vars[x.n.toNat]).over - 1).toNat]? with
 | none=>rw[hk] at ak;exact absurd rfl ak
 | some y =>
  rw[hk] at ak;simp only at ak ⊢;obtain⟨g1,g2⟩:=List.getElem?_eq_some_iff.1 hk;by_cases q:1<=(m.vars[x.n.toNat]).over/\1<=y.size/\y.size<=4
  .rw[if_pos q];refine⟨g1,q.1,?_,?_⟩
   .rw[g2];omega
   .omega
  .rw[if_neg q] at ak;exact absurd rfl ak
theorem apH{m:Model}(h:(check m).cC=0){j:Nat}(aC:j<m.props.length){x:Node}(af:x∈m.props[j].expr):A7 m x:=by
 obtain⟨k,hk,rfl⟩:=List.mem_iff_getElem.1 af;exact⟨((acg h aC).node k hk).1,am9 (apG h aC) k hk⟩
def zp(x:Nat×Nat):C_ B_:=[.slice (some ⟨x.1,0,none⟩) x.2 x.2]
def qn(m:Model)(bs:C_ Nat):C_ (Nat×Nat):=bs.zip (m.procs.map fun p=>p.b2.toNat)
theorem yg{m:Model}{bs:C_ Nat}(h:bs.length<=m.procs.length):(qn m bs).length=bs.length:=by simp[qn];omega
theorem EH{m:Model}{bs:C_ Nat}{k:Nat}(h:k<bs.length)(aq:k<m.procs.length):(qn m bs)[k]? = some (bs[k],m.procs[k].b2.toNat):=by
 simp[qn,List.getElem?_zip_eq_some,h,aq]
theorem akO{m:Model}{bs:C_ Nat}{b:Nat}(aq:bs.length<m.procs.length):qn m (bs++[b])=qn m bs++[(b,m.procs[bs.length].b2.toNat)]:=by
 apply List.ext_getElem?;intro i;by_cases h1:i<bs.length
 .rw[EH (by simp;omega) Aw,List.getElem?_append_left (by rw[yg Aw];exact h1),EH h1 Aw];simp[List.getElem_append_left h1]
 .by_cases I:i=bs.length
  .subst I;rw[EH Bh aq,List.getElem?_append_right (by rw[yg Aw];exact Gf _),yg Aw];simp
  .rw[List.getElem?_eq_none (by rw[yg (by simp;omega)];simp;omega),List.getElem?_eq_none (by rw[Lk,yg Aw];simp;omega)]
end o
namespace Go.Proofs.R
open Go Go.RowKit a7
structure nM(m:o.Model)(base:Nat)(bs:List Nat)(nm:Nat->List Int)(v:Value)(W:World):Prop where
 row:aP o.zp T.b 1 base W v (o.qn m bs)
 low:∀b∈bs,base<=b
 nodup:bs.Nodup
 cm:∀p (h:p<bs.length),W.heap[bs[p]]? = some (.cells (nE (nm p)).toArray T.a)
theorem nM.ext{m:o.Model}{base:Nat}{bs:C_ Nat}{nm:Nat->C_ Int}{v:B_}{w w':A_}(h:nM m base bs nm v w)(he:Ext w w'):nM m base bs nm v w' :=
 ⟨h.row.ext he,h.low,h.nodup,fun p aq=>he.obj (h.cm p aq)⟩
theorem nM.mod{m:o.Model}{base:Nat}{bs:C_ Nat}{nm:Nat->C_ Int}{v:B_}{w w':A_}{A:Nat->Prop}(h:nM m base bs nm v w)(hm:Mod A w w')(c4:∀k,A k->k<base):nM m base bs nm v w' :=
 ⟨h.row.mod hm fun k hk a=>by have:=(h.row.lt k hk).1;have:=c4 k a;omega,h.low,h.nodup,fun p aq=>hm.obj (fun a=>by have:=h.low _ (Gy aq);have:=c4 _ a;omega) (h.cm p aq)⟩
theorem aos{l:C_ Nat}(h:l.Nodup){i j:Nat}(U:i<l.length)(aC:j<l.length)(e:l[i]=l[j]):i=j:=by
 rcases Nat.lt_trichotomy i j with h1 | h1 | h1
 .exact absurd e (List.pairwise_iff_getElem.1 h i j U aC h1)
 .exact h1
 .exact absurd e.symm (List.pairwise_iff_getElem.1 h j i aC U h1)
theorem ahv(x:Nat×Nat):∀u∈o.zp x,u.oneCell'=true:=by simp[o.zp,Value.oneCell']
theorem nM.step{m:o.Model}{base:Nat}{bs:C_ Nat}{nm N3:Nat->C_ Int}{v:B_}{w w':A_}{q:Nat}(h:nM m base bs nm v w)(ao:q<bs.length)(hw:di bs[q] w w')(ai:w'.heap[bs[q]]? = some (.cells (nE (N3 q)).toArray T.a))
  (ak:∀p,p<bs.length->p≠q->N3 p=nm p):nM m base bs N3 v w':=by
 refine⟨h.row.mod (hw.mod (A:=fun i=>i=bs[q]) rfl) fun k hk e=>?_,h.low,h.nodup,fun p aq=>?_⟩
 .obtain⟨cur,h1⟩:=h.row.cm k hk;have I:=h.cm q ao;rw[e,I] at h1;injection h1 with h1
  injection h1 with _ h1
  revert h1;decide
 .by_cases e:p=q
  .subst e;exact ai
  .rw[ak p aq e];exact hw.obj (h.cm p aq) fun e2=>e (aos h.nodup aq ao e2)
theorem nM.snoc{m:o.Model}{base:Nat}{bs:C_ Nat}{nm:Nat->C_ Int}{v bS:B_}{w w':A_}{b:Nat}(h:nM m base bs nm v w)(hk:bs.length<m.procs.length)(lX:aP o.zp T.b 1 base w' bS (o.qn m bs++[(b,m.procs[bs.length].b2.toNat)]))
  (aH:w.grownBy w' v.ownBlock)(an:base<=b)(E2:∀p (aq:p<bs.length),bs[p]≠b)(ai:w.heap[b]? = some (.cells (nE (nm bs.length)).toArray T.a)):nM m base (bs++[b]) nm bS w':=by
 refine⟨by rw[o.akO hk];exact lX,fun x af=>?_,?_,fun p aq=>?_⟩
 .rcases List.mem_append.1 af with af | af
  .exact h.low x af
  .rw[AG4] at af;omega
 .rw[AK0];refine⟨h.nodup,Bh,fun a aU c ai e=>?_⟩;rw[AG4] at ai;obtain⟨p,aq,rfl⟩:=List.mem_iff_getElem.1 aU;exact E2 p aq (by rw[e,ai])
 .by_cases wz:p<bs.length
  .rw[AI5 wz];exact h.row.box aH (h.cm p wz) BJ
  .have e:p=bs.length:=by simp at aq;omega
   subst e;rw[AI6 (Gf _)];simpa using h.row.box aH ai BJ
theorem nM.aox{m:o.Model}{base:Nat}{bs:C_ Nat}{nm:Nat->C_ Int}{v:B_}{W:A_}{L:C_ (C_ Int)}(h:nM m base bs nm v W)(an:bs.length=m.procs.length)(cM:L.length=m.procs.length)
  (az:∀p (aq:p<m.procs.length),(nm p).length=m.procs[p].b2.toNat/\m.procs[p].b2.toNat<=12)(ai:∀p,p<m.procs.length->L[p]? = some (nm p)):xB W v L:=by
 obtain⟨aO,cap,rfl,h1,I,ab,aE⟩:=(aP.jg (enc:=o.zp) (sz:=1) (fun _=>rfl) h.row).ex;have cN:=o.yg (m:=m) (bs:=bs) Aw;refine⟨aO,cap,by rw[cN,an,cM],Aw,I,fun ax=>ab (by intro e;rw[e] at cN;simp at cN;exact ax (AG1 Aw)),fun a aU i U=>?_⟩;have cw:i<m.procs.length:=Aw
 have aH:=o.EH (m:=m) (bs:=bs) (k:=i) Aw cw;obtain⟨b4,PZ⟩:=List.getElem?_eq_some_iff.1 aH;have gj:=aE a aU i b4 0 _ (show(o.zp (o.qn m bs)[i])[0]? = some _ from rfl);rw[PZ,add_zero] at gj;refine⟨_,gj,?_⟩;obtain⟨_,ajx⟩:=List.getElem?_eq_some_iff.1 (ai i cw);rw[ajx];exact RL (h.cm i Aw) (az i cw).1.symm (by have:=az i cw;unfold maxLen;omega)
end Go.Proofs.R
end
section
namespace a7
open Go Go.RowKit
def aev(_:A_)(cs:C_ B_)(x:Nat):Prop:=cs=ux x
instance avk:Rel (Flat ux) aev 1 where
 out h:=⟨_,h,rfl⟩
 om h k:=by cases k;exact h
 len h:=by cases h;rfl
 one h:=by cases h;exact ahu _
 ext _ h:=h
end a7
end
section
end