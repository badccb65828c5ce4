/- Parts. -/
import Derived.Test.YtakmdjclehkglaaGreatDoorQaup
set_option linter.all false
set_option maxRecDepth 8000
set_option maxHeartbeats 32000000
section
namespace o
theorem Mc(m:Model)(s:C_ Int)(c:Nat):(s.drop (cq m c)).take (cq m c+(1+gN m c) - cq m c)=chanOf m s c:=by
 unfold chanOf;rw[show cq m c+(1+gN m c) - cq m c=1+gN m c from by omega]
end o
namespace Go.Proofs.R
open Go Go.RowKit bb
theorem agO{w0:A_}(cn c3 g c q p base:Nat)(m:o.Model)(s:C_ Int)(a:o.Act)(bM b7:B_)(w:A_)(b3:k1 w0 w cn c3 g c q base m s)(gb:(o.check m).cA=0)(ax:o.Fits m s)(hIn:o.fI m q p)
  (aV:o.nD (o.inner (m.procs[p]'(hIn.ar)) (o.ey m)) a)(lf:a.kind=5)(U:o.eV w bM a.index)(aG:o.eV w b7 a.value) :
  a7 Tryz.prog F.dP #[.agg (a.enc bM b7).toArray,.pointer (some ⟨cn,0,none⟩)] w fun u w'=>j6 base g (.slice (some ⟨g,0,none⟩) s.length c) (o.jf m s q a) u w w':=by
 obtain⟨cx,ci,rfl,_⟩:=U.form;obtain⟨uD,tO,rfl,_⟩:=aG.form;have a1:=o.ir gb;obtain⟨f6,f7,f8⟩:=o.s6 m;have done:o.jf m s q a=o.Cd m s q a:=by unfold o.jf;rw[if_pos lf]
 rw[done];unfold o.Cd;clear done;obtain⟨gF,fa⟩:=aV.chan (.inr lf);have gP:a.to.toNat<m.aw.length:=fa;have h3:a.to=(a.to.toNat:Nat):=by omega
 have dR:(o.chanOf m s a.to.toNat).length=1+o.gN m a.to.toNat:=o.tM (by rw[ax.len];exact o.o5 gP);have akh:=o.o5 gP;obtain⟨eU,Of⟩:=aV.recv lf;have IP:a.loc.toNat<(m.procs[p]'(hIn.ar)).vars.length:=Of;have asV:=hIn.room;have hlen:=ax.len;have mz:o.dW m<=64:=o.kt a1;have au:=hIn.au;obtain⟨fp,iG⟩:=o.rV au;unfold o.Act.enc;rw[h3,Int.toNat_natCast];have BE:=b3.Dg;refine bn E.dP ?_;refine aa ?_;intro w1 bR dt al av;replace b3:=b3.ext al;have pe:=b3.box;refine aa ?_;refine P_ (.tuple #[.int .i64 (o.cq m a.to.toNat),.int .i64 (o.cq m a.to.toNat+(1+o.gN m a.to.toNat):Nat)]) (fun w' e=>ML c3 m a.to.toNat w' (b3.CC.ext (b3.hx.trans e)) a1 gP) ?_;refine aa ?_;intro aH ao;replace b3:=b3.ext ao;replace av:=ao.obj av;replace pe:=b3.box;have aI:=al.trans ao;refine aa ?_;refine _c (k:=.i64) (k':=.i64) (o.cq m a.to.toNat) (o.cq m a.to.toNat+(1+o.gN m a.to.toNat)) b3.zU (by simp[dp,bL]) (by simp[dp,bL]) (by omega) (by omega) fun bO c1 _ xX=>?_;rw[o.Mc] at xX;refine aa ?_;refine J_ (aev _ _ aH xX (by omega)) ?_;rintro _ aP ⟨ahU,aj⟩;replace b3:=b3.ext aj;replace av:=aj.obj av;replace pe:=b3.box;have ba:=aI.trans aj;have aK:=b3.Dg;rcases ahU with ⟨hg,rfl⟩ | ⟨r,x,ad,iz,s3,rfl,Ow⟩
 .rw[hg];refine aa ?_;refine _c (k:=.i64) (k':=.i64) (o.cq m a.to.toNat) (o.cq m a.to.toNat+(1+o.gN m a.to.toNat)) b3.zU (by simp[dp,bL]) (by simp[dp,bL]) (by omega) (by omega) fun bV c2 il _=>?_;refine aa ?_;refine _d (p:=o.cq m a.to.toNat) (xs:=[]) b3.own bh.nil (by simp only[dp,bL];rfl) (by simp only[dp,bL];rfl) il (by omega) (by kernel_rfl) (by kernel_rfl) fun u aR du eR=>?_;refine aa ?_;intro bq aJ;refine aa ?_;have hm:Mod (fun i=>i=g) w bq:=((Ext.mod (A:=fun i=>i=g) ba).trans (du.mod rfl)).trans aJ.mod;exact⟨.inr ⟨rfl,aU⟩,hm⟩
 .rw[s3];have kr:=o.Q1 s3;rw[dR] at kr;refine aa ?_;refine _c (k:=.i64) (k':=.i64) (o.cq m a.to.toNat) (o.cq m a.to.toNat+(1+o.gN m a.to.toNat)) b3.zU (by simp[dp,bL]) (by simp[dp,bL]) (by omega) (by omega) fun bV c2 il _=>?_;refine aa ?_;refine _d (p:=o.cq m a.to.toNat) b3.own (oL Ow) (by simp only[dp,bL];rfl) (by simp only[dp,bL];rfl) il (by omega) (by kernel_rfl) (by kernel_rfl) fun u aR du eR=>?_;rw[List.take_of_length_le (by omega)] at eR;have lJ:(o.jY s (o.cq m a.to.toNat) r).length=s.length:=o.EO (by omega);replace b3:=b3.mod (du.mod rfl) eR lJ;have bH:=du.obj av (by omega);have jB:Mod (fun i=>i=g) w aR:=ba.mod.trans (du.mod rfl);clear pe xX av;refine aa ?_;intro bq aJ;replace b3:=b3.ext aJ;replace bH:=aJ.obj bH;have xF:=b3;obtain⟨hold,xS,⟨zs,ak,h5⟩,rI,fB⟩:=b3;obtain⟨ff,d0,dZ,d1,eK,d2,e5,d3,fu,d4,cd,bw,bO,c1,amI,adY,b2,br,cj,bF,yd,xk,gR,pP,rfl,_,_,eF,eb,dG,fg,gq,af,h1,I,ab,a8,bE⟩:=h5.form;replace ak:=hold.obj ak;obtain⟨oz,rfl⟩:=dG.addr;replace dG:=dG.ext Flat.ext hold;rw[lJ] at rI;clear eF eb fg gq af h1 I ab a8 bE h5;refine aa ?_;rw[iG];refine aa ?_;refine J_ (HR cn c3 g c q base m _ (o.dj m q+1+a.loc.toNat) _ x bq xF a1 (by omega) (by omega) (by omega)) ?_;rintro u bB ⟨tX,jC⟩;rw[lJ] at tX;have hm:Mod (fun i=>i=g) w bB:=(jB.trans aJ.mod).trans jC;rcases tX with ⟨t,h1,rfl,I⟩ | ⟨h1,rfl⟩
  .refine aa ?_;exact⟨.inl ⟨t,h1,aU,I⟩,hm⟩
  .refine aa ?_;exact⟨.inr ⟨h1,aU⟩,hm⟩
theorem agS{w0:A_}(cn c3 g c q p base:Nat)(m:o.Model)(s:C_ Int)(a:o.Act)(bM b7:B_)(w:A_)(b3:k1 w0 w cn c3 g c q base m s)(gb:(o.check m).cA=0)(ax:o.Fits m s)(hIn:o.fI m q p)
  (aV:o.nD (o.inner (m.procs[p]'(hIn.ar)) (o.ey m)) a)(lf:a.kind=4)(U:o.eV w bM a.index)(aG:o.eV w b7 a.value) :
  a7 Tryz.prog F.cF #[.agg (a.enc bM b7).toArray,.pointer (some ⟨cn,0,none⟩)] w fun u w'=>j6 base g (.slice (some ⟨g,0,none⟩) s.length c) (o.jf m s q a) u w w':=by
 obtain⟨cx,ci,rfl,_⟩:=U.form;obtain⟨uD,tO,rfl,_⟩:=aG.form;have a1:=o.ir gb;obtain⟨f6,f7,f8⟩:=o.s6 m;have done:o.jf m s q a=if (o.eval a.value (o.cr m s q)).2≠0 then none else o.z6 m s a.to.toNat (o.eval a.value (o.cr m s q)).1:=by
  unfold o.jf;rw[if_neg (show ¬a.kind=5 by omega),if_neg (show ¬a.kind=1 by omega),if_neg (show ¬a.kind=2 by omega),if_neg (show ¬a.kind=3 by omega)]
 rw[done];clear done;obtain⟨gF,fa⟩:=aV.chan (.inl lf);have gP:a.to.toNat<m.aw.length:=fa;have h3:a.to=(a.to.toNat:Nat):=by omega
 have dR:(o.chanOf m s a.to.toNat).length=1+o.gN m a.to.toNat:=o.tM (by rw[ax.len];exact o.o5 gP);have akh:=o.o5 gP;have hlen:=ax.len;have mz:o.dW m<=64:=o.kt a1;unfold o.Act.enc;rw[h3,Int.toNat_natCast];have BE:=b3.Dg;refine bn E.cF ?_;refine aa ?_;intro w1 bR dt al av;replace b3:=b3.ext al;refine aa ?_;refine J_ (Bm cn c3 g c q p base m s _ a.value w1 b3 gb ax hIn (aG.ext al)) ?_;rintro _ aH ⟨rfl,ao⟩;replace b3:=b3.ext ao;replace av:=ao.obj av;have aI:=al.trans ao;obtain⟨n,ug⟩:∃n,n=(o.eval a.value (o.cr m s q)).1:=⟨_,rfl⟩;obtain⟨e,uc⟩:∃e,e=(o.eval a.value (o.cr m s q)).2:=⟨_,rfl⟩;rw[<-ug,<-uc];refine aa ?_;intro aP aj;replace b3:=b3.ext aj;replace av:=aj.obj av;have ba:=aI.trans aj;obtain⟨zs,rH,h5⟩:=b3.CC;obtain⟨ff,d0,dZ,d1,eK,d2,e5,d3,fu,d4,cd,bw,bO,c1,amI,adY,b2,br,cj,bF,yd,xk,gR,pP,rfl,_,_,eF,eb,dG,fg,gq,af,h1,I,ab,a8,bE⟩:=h5.form;obtain⟨qw,rfl⟩:=I.addr;have ak:=b3.hx.obj rH;have pe:=b3.box;have eo:=((I.at a.to.toNat gP).cells).ext b3.hx;have Ih:=af.ext b3.hx;clear eF eb dG fg gq af h1 I ab a8 bE rH h5;refine aa ?_;intro aR ho h6 aA c9;refine⟨aA,?_⟩;refine T_ c9 rfl rfl (by simp[Value.oneCell',o.dv.enc]) fun bq fb cc=>?_;have aJ:Ext aP bq:=fb.ext aA h6;replace b3:=b3.ext aJ;replace ak:=aJ.obj ak;replace pe:=b3.box;replace av:=aJ.obj av;replace Ih:=Ih.ext aJ;have bU:=ba.trans aJ;clear c9 fb eo;obtain⟨aO,jl⟩:∃aO,aO=(o.e7 m.aw[a.to.toNat].scalar m.aw[a.to.toNat].aO m.aw[a.to.toNat].U m.scalars).aO:=⟨_,rfl⟩;obtain⟨cE,xO⟩:∃U,U=(o.e7 m.aw[a.to.toNat].scalar m.aw[a.to.toNat].aO m.aw[a.to.toNat].U m.scalars).U:=⟨_,rfl⟩;have vE:o.z6 m s a.to.toNat n=if n<aO\/cE<n then none else (o.q1 (o.chanOf m s a.to.toNat) n).map (o.jY s (o.cq m a.to.toNat)):=by
  unfold o.z6 o.Du;rw[List.getElem?_eq_getElem gP,jl,xO]
 rw[vE];clear vE;refine aa ?_;refine P_ (.tuple #[.int .i64 aO,.int .i64 cE]) (fun w' e'=>by
  rw[jl,xO,show o.e7 m.aw[a.to.toNat].scalar m.aw[a.to.toNat].aO m.aw[a.to.toNat].U m.scalars=_ from o.yU ⟨⟨#[]⟩,m.aw[a.to.toNat].scalar,0,m.aw[a.to.toNat].aO,m.aw[a.to.toNat].U,0⟩ m.scalars];exact GO ⟨⟨#[]⟩,m.aw[a.to.toNat].scalar,0,m.aw[a.to.toNat].aO,m.aw[a.to.toNat].U,0⟩ _ m.scalars w' (Ih.ext e')) ?_
 refine aa ?_;intro bB aT;replace b3:=b3.ext aT;replace ak:=aT.obj ak;replace pe:=b3.box;replace av:=aT.obj av;have c8:=bU.trans aT;clear cc Ih;refine aa ?_;refine I_ (fun cC=>?_) (fun cC=>?_);rotate_left
 .refine aa ?_;exact j6.none (by rw[if_pos cC]) c8
 rw[if_neg (show ¬e≠0 by omega)];refine aa ?_;refine I_ (fun cS=>?_) (fun cS=>?_)
 .refine aa ?_;exact j6.none (by rw[if_pos (.inl cS)]) c8
 refine aa ?_;refine I_ (fun eT=>?_) (fun eT=>?_)
 .refine aa ?_;exact j6.none (by rw[if_pos (.inr (by omega))]) c8
 rw[if_neg (by omega)];refine aa ?_;refine P_ (.tuple #[.int .i64 (o.cq m a.to.toNat),.int .i64 (o.cq m a.to.toNat+(1+o.gN m a.to.toNat):Nat)]) (fun w' e'=>ML c3 m a.to.toNat w' (b3.CC.ext (b3.hx.trans e')) a1 gP) ?_;refine aa ?_;intro bQ bz;replace b3:=b3.ext bz;replace pe:=b3.box;have dQ:=c8.trans bz;clear ak av;refine aa ?_;refine _c (k:=.i64) (k':=.i64) (o.cq m a.to.toNat) (o.cq m a.to.toNat+(1+o.gN m a.to.toNat)) b3.zU (by simp[dp,bL]) (by simp[dp,bL]) (by omega) (by omega) fun bO c1 _ xX=>?_;rw[o.Mc] at xX;refine aa ?_;refine J_ (aeu _ _ n bQ xX (by omega)) ?_;rintro _ de ⟨ahJ,bP⟩;replace b3:=b3.ext bP;replace pe:=b3.box;have gm:=dQ.trans bP;rcases ahJ with ⟨hg,rfl⟩ | ⟨r,ad,iz,s3,rfl,Ow⟩
 .rw[hg];refine aa ?_;refine _c (k:=.i64) (k':=.i64) (o.cq m a.to.toNat) (o.cq m a.to.toNat+(1+o.gN m a.to.toNat)) b3.zU (by simp[dp,bL]) (by simp[dp,bL]) (by omega) (by omega) fun bV c2 il _=>?_;refine aa ?_;refine _d (p:=o.cq m a.to.toNat) (xs:=[]) b3.own bh.nil (by simp only[dp,bL];rfl) (by simp only[dp,bL];rfl) il (by omega) (by kernel_rfl) (by kernel_rfl) fun u dc hG hs=>?_;refine aa ?_;exact⟨.inr ⟨rfl,aU⟩,(Ext.mod (A:=fun i=>i=g) gm).trans (hG.mod rfl)⟩
 .rw[s3];have kr:=o.Qe s3;rw[dR] at kr;refine aa ?_;refine _c (k:=.i64) (k':=.i64) (o.cq m a.to.toNat) (o.cq m a.to.toNat+(1+o.gN m a.to.toNat)) b3.zU (by simp[dp,bL]) (by simp[dp,bL]) (by omega) (by omega) fun bV c2 il _=>?_;refine aa ?_;refine _d (p:=o.cq m a.to.toNat) b3.own (oL Ow) (by simp only[dp,bL];rfl) (by simp only[dp,bL];rfl) il (by omega) (by kernel_rfl) (by kernel_rfl) fun u dc hG hs=>?_;rw[List.take_of_length_le (by omega)] at hs;refine aa ?_;exact⟨.inl ⟨_,rfl,aU,hs⟩,(Ext.mod (A:=fun i=>i=g) gm).trans (hG.mod rfl)⟩
end Go.Proofs.R
end
section
namespace bb
open Go Go.RowKit
theorem _o{P:D_}{ty:F_}{v:B_}{m:String}{f:E_}{r:B_}{args:C_ B_}{w:A_}{R:B_->A_->Prop}{cW:B_->A_->Prop}{t}(ax:okF P f=true)(hm:∀w',(method (P.types.size+Made.depth) ty v m).run P w' = .ok (f,r) w')
  (h:a7 P f (r :: args).toArray w R)(hk:∀v w',R v w'->cW v w'):wQ P (.iface ty v) m args w cW t:=by unfold wQ;exact ad4 ax hm h hk
theorem aW.amK{α:Type}{enc:α->C_ B_}{e:F_}{sz base:Nat}{w:A_}{v:B_}{cm:C_ (e1 sz)}{xs:C_ α}(h:oV e sz base w v cm)(aF:cm.length=xs.length)(he:∀i (h1:i<cm.length) (I:i<xs.length),cm[i].1=enc xs[i]):aW enc e sz base w v xs:=by
 have hm:cm.map jR=xs.map enc:=List.ext_getElem (by simp[aF]) fun i h1 I=>by
  rw[List.getElem_map,List.getElem_map];exact he i (by simpa using h1) (by simpa using I)
 have:cm.flatMap jR=xs.flatMap enc:=by rw[List.flatMap_def,List.flatMap_def,hm]
 unfold aW at *;rw[<-this,<-aF];exact h
end bb
namespace Go.Proofs.R
open Go Go.RowKit bb
theorem Pg(v:B_)(xs:C_ Int)(w:A_)(h:ee w v xs)(ak:o.ei xs.length 8) :
  a7 Tryz.prog F.f6 #[v] w fun b9 w'=>ou w.heap.size w' b9 xs/\Ext w w' :=
 (Vb lj E.f6 (by kernel_rfl) v xs w h (by unfold o.ei at ak;omega)).mono fun b9 w' ⟨⟨cm,aF,aM,ah⟩,he⟩=>⟨aW.amK aM aF fun i h1 I=>ah i h1 I,he⟩
def kI(k:Int):F_:=if k=1 then T.sA else if k=2 then T.sB else if k=3 then T.am else if k=4 then T.sD else T.sE
def F9(w:A_)(cs:C_ B_)(x:o.Act):Prop := ∃bM b7,cs=[.iface (kI x.kind) (.agg (x.enc bM b7).toArray)]/\o.eV w bM x.index/\o.eV w b7 x.value
theorem agy{w0:A_}(v:B_)(xs:C_ o.Act)(w:A_)(h:o.mQ w0 v xs)(dK:Ext w0 w)(hk:∀x∈xs,1<=x.kind/\x.kind<=5)(ak:xs.length<=100000) :
  a7 Tryz.prog F.HB #[v] w fun u w'=>(∃cm:C_ (e1 1),cm.length=xs.length/\oV T.a5 1 w.heap.size w' u cm/\∀i (h1:i<cm.length) (I:i<xs.length),F9 w0 cm[i].1 xs[i])/\Ext w w':=by
 obtain⟨e4,fL,rfl,fH⟩:=h.form;refine bn E.HB ?_;refine aa ?_;refine L_ 8 xs.length [6,7] (fun v:hc=>[(3,.slice v.1 v.2.1 v.2.2)]) (none,0,0) (fun k v W=>Ext w W/\∃cm:C_ (e1 1),cm.length=k/\oV T.a5 1 w.heap.size W (.slice v.1 v.2.1 v.2.2) cm/\∀i (h1:i<cm.length) (I:i<xs.length),F9 w0 cm[i].1 xs[i]) bc bc ⟨Ext.refl _,[],rfl,aW.nil _ _ _ _ _,fun i h=>absurd h (Nat.not_lt_zero _)⟩ ?_;rintro k Rk S aH oG ⟨ao,cm,lg,fo,h4⟩;refine aa ?_;apply I_<;>intro g1;rotate_left
 .have kq:xs.length=k:=by omega
  refine aa ?_;exact⟨⟨cm,by omega,fo,h4⟩,ao⟩
 have aZ:k<xs.length:=by omega
 obtain⟨a,rfl⟩:=h.addr;obtain⟨bM,b7,tY,qR,rP⟩:=h.at k aZ;obtain⟨cC,B0⟩:=hk _ (List.getElem_mem aZ);obtain⟨x,ag⟩:∃x,x=xs[k]:=⟨_,rfl⟩;rw[<-ag] at tY qR rP cC B0;obtain⟨cx,ci,rfl,_⟩:=qR.form;obtain⟨uD,tO,rfl,_⟩:=rP.form;replace tY:=tY.ext (dK.trans ao);unfold o.Act.enc at tY;refine aa ?_;intro aP dx k9 aj cc;have eu:=fo.ext aj;have ba:=ao.trans aj;clear tY;have step:∀(y:e1 1),F9 w0 y.1 xs[k]->∀i (h1:i<(cm++[y]).length) (I:i<xs.length),F9 w0 ((cm++[y])[i]).1 xs[i]:=fun y bS i h1 I=>by
  by_cases U:i<cm.length
  .rw[List.getElem_append_left U];exact h4 i U I
  .have e:i=cm.length:=by simp at h1;omega
   subst e;subst lg;rw[List.getElem_append_right (Nat.le_refl _)];simpa using bS
 have auN:=ba.size;refine aa ?_;apply I_<;>intro g2
 .refine aa ?_;intro aR cF fy aA bH;refine aa ?_;have vF:kI x.kind=T.sA:=by unfold kI;rw[if_pos (show x.kind=1 by omega)]
  refine V_ (enc:=jR) (y:=(⟨[.iface T.sA (.agg (x.enc (.slice cx x.index.length ci) (.slice uD x.value.length tO)).toArray)],rfl,by simp[Value.oneCell']⟩:e1 1)) (eu.ext aA) bH rfl jS sN (by omega) (by unfold maxLen;omega) (by have:=aA.size;omega) fun aQ n c bq dL iE=>?_;refine aa ?_;exact⟨aZ,aU,(aQ,n,c),⟨rfl,trivial⟩,(ba.trans aA).grown iE fun i U=>(eu.lt i U).1,_,by simp[lg],dL,step _ ⟨_,_,by rw[<-ag,vF],by rw[<-ag];exact qR,by rw[<-ag];exact rP⟩⟩
 refine aa ?_;apply I_<;>intro g3
 .refine aa ?_;intro aR cF fy aA bH;refine aa ?_;have vF:kI x.kind=T.sB:=by unfold kI;rw[if_neg (show ¬x.kind=1 by omega),if_pos (show x.kind=2 by omega)]
  refine V_ (enc:=jR) (y:=(⟨[.iface T.sB (.agg (x.enc (.slice cx x.index.length ci) (.slice uD x.value.length tO)).toArray)],rfl,by simp[Value.oneCell']⟩:e1 1)) (eu.ext aA) bH rfl jS sN (by omega) (by unfold maxLen;omega) (by have:=aA.size;omega) fun aQ n c bq dL iE=>?_;refine aa ?_;exact⟨aZ,aU,(aQ,n,c),⟨rfl,trivial⟩,(ba.trans aA).grown iE fun i U=>(eu.lt i U).1,_,by simp[lg],dL,step _ ⟨_,_,by rw[<-ag,vF],by rw[<-ag];exact qR,by rw[<-ag];exact rP⟩⟩
 refine aa ?_;apply I_<;>intro g4
 .refine aa ?_;intro aR cF fy aA bH;refine aa ?_;have vF:kI x.kind=T.am:=by unfold kI;rw[if_neg (show ¬x.kind=1 by omega),if_neg (show ¬x.kind=2 by omega),if_pos (show x.kind=3 by omega)]
  refine V_ (enc:=jR) (y:=(⟨[.iface T.am (.agg (x.enc (.slice cx x.index.length ci) (.slice uD x.value.length tO)).toArray)],rfl,by simp[Value.oneCell']⟩:e1 1)) (eu.ext aA) bH rfl jS sN (by omega) (by unfold maxLen;omega) (by have:=aA.size;omega) fun aQ n c bq dL iE=>?_;refine aa ?_;exact⟨aZ,aU,(aQ,n,c),⟨rfl,trivial⟩,(ba.trans aA).grown iE fun i U=>(eu.lt i U).1,_,by simp[lg],dL,step _ ⟨_,_,by rw[<-ag,vF],by rw[<-ag];exact qR,by rw[<-ag];exact rP⟩⟩
 refine aa ?_;apply I_<;>intro g5
 .refine aa ?_;intro aR cF fy aA bH;refine aa ?_;have vF:kI x.kind=T.sD:=by unfold kI;rw[if_neg (show ¬x.kind=1 by omega),if_neg (show ¬x.kind=2 by omega),if_neg (show ¬x.kind=3 by omega),if_pos (show x.kind=4 by omega)]
  refine V_ (enc:=jR) (y:=(⟨[.iface T.sD (.agg (x.enc (.slice cx x.index.length ci) (.slice uD x.value.length tO)).toArray)],rfl,by simp[Value.oneCell']⟩:e1 1)) (eu.ext aA) bH rfl jS sN (by omega) (by unfold maxLen;omega) (by have:=aA.size;omega) fun aQ n c bq dL iE=>?_;refine aa ?_;exact⟨aZ,aU,(aQ,n,c),⟨rfl,trivial⟩,(ba.trans aA).grown iE fun i U=>(eu.lt i U).1,_,by simp[lg],dL,step _ ⟨_,_,by rw[<-ag,vF],by rw[<-ag];exact qR,by rw[<-ag];exact rP⟩⟩
 refine aa ?_;intro aR cF fy aA bH;refine aa ?_;have vF:kI x.kind=T.sE:=by unfold kI;rw[if_neg (show ¬x.kind=1 by omega),if_neg (show ¬x.kind=2 by omega),if_neg (show ¬x.kind=3 by omega),if_neg (show ¬x.kind=4 by omega)]
 refine V_ (enc:=jR) (y:=(⟨[.iface T.sE (.agg (x.enc (.slice cx x.index.length ci) (.slice uD x.value.length tO)).toArray)],rfl,by simp[Value.oneCell']⟩:e1 1)) (eu.ext aA) bH rfl jS sN (by omega) (by unfold maxLen;omega) (by have:=aA.size;omega) fun aQ n c bq dL iE=>?_;refine aa ?_;exact⟨aZ,aU,(aQ,n,c),⟨rfl,trivial⟩,(ba.trans aA).grown iE fun i U=>(eu.lt i U).1,_,by simp[lg],dL,step _ ⟨_,_,by rw[<-ag,vF],by rw[<-ag];exact qR,by rw[<-ag];exact rP⟩⟩
theorem agx{w0:A_}(cn c3 g c q p base:Nat)(m:o.Model)(s:C_ Int)(a:o.Act)(bM b7:B_)(w:A_)(cQ:B_->A_->Prop){t}(b3:k1 w0 w cn c3 g c q base m s)(gb:(o.check m).cA=0)(ax:o.Fits m s)(hIn:o.fI m q p)
  (aV:o.nD (o.inner (m.procs[p]'(hIn.ar)) (o.ey m)) a)(U:o.eV w bM a.index)(aG:o.eV w b7 a.value)
  (iV:∀u w',j6 base g (.slice (some ⟨g,0,none⟩) s.length c) (o.jf m s q a) u w w'->cQ u w') :
  wQ Tryz.prog (.iface (kI a.kind) (.agg (a.enc bM b7).toArray)) "lariat/fire.do" [.pointer (some ⟨cn,0,none⟩)] w cQ t:=by
 obtain⟨cC,B0⟩:=aV.kind;by_cases bt:a.kind=1
 .rw[show kI a.kind=T.sA from by unfold kI;rw[if_pos bt]];exact _o (f:=F.bo) (by kernel_rfl) (fun w'=>by kernel_rfl) (agT cn c3 g c q p base m s a bM b7 w b3 gb ax hIn aV bt U aG) iV
 by_cases aI:a.kind=2
 .rw[show kI a.kind=T.sB from by unfold kI;rw[if_neg bt,if_pos aI]];exact _o (f:=F.bR) (by kernel_rfl) (fun w'=>by kernel_rfl) (agF cn c3 g c q p base m s a bM b7 w b3 gb ax hIn aV aI U aG) iV
 by_cases ba:a.kind=3
 .rw[show kI a.kind=T.am from by unfold kI;rw[if_neg bt,if_neg aI,if_pos ba]];exact _o (f:=F.b0) (by kernel_rfl) (fun w'=>by kernel_rfl) (agM cn c3 g c q p base m s a bM b7 w b3 gb ax hIn aV ba U aG) iV
 by_cases bG:a.kind=4
 .rw[show kI a.kind=T.sD from by unfold kI;rw[if_neg bt,if_neg aI,if_neg ba,if_pos bG]];exact _o (f:=F.cF) (by kernel_rfl) (fun w'=>by kernel_rfl) (agS cn c3 g c q p base m s a bM b7 w b3 gb ax hIn aV bG U aG) iV
 .rw[show kI a.kind=T.sE from by unfold kI;rw[if_neg bt,if_neg aI,if_neg ba,if_neg bG]];exact _o (f:=F.dP) (by kernel_rfl) (fun w'=>by kernel_rfl) (agO cn c3 g c q p base m s a bM b7 w b3 gb ax hIn aV (by omega) U aG) iV
theorem agw(b:Nat)(m:o.Model)(ref:Int)(q p k:Nat)(w:A_)(h:o0 w b m)(bC:o.eM m ref q p k) :
  ∃gy ga aQ fD,o.eV w (.slice gy (o.bI m p k).guard.length ga) (o.bI m p k).guard/\o.mQ w (.slice aQ (o.bI m p k).bY.length fD) (o.bI m p k).bY /\
   ∀W,Ext w W->a7 Tryz.prog F.h #[.pointer (some ⟨b,0,none⟩),.int .i64 ref] W fun u w'=>u = .agg ((o.bI m p k).enc (.slice gy (o.bI m p k).guard.length ga) (.slice aQ (o.bI m p k).bY.length fD)).toArray/\Ext W w':=by
 obtain⟨zs,ak,h⟩:=h;obtain⟨ff,d0,dZ,d1,eK,d2,e5,d3,fu,d4,cd,bw,bO,c1,bV,c2,b2,br,cj,bF,cx,ci,gR,iz,rfl,_,_,_,_,_,_,_,_,_,_,ab,a8,bE⟩:=h.form;have au:=bC.at_.U;have ar:=bC.at_.ar;have oG:=bC.at_.hk;have pg:=bC.at_.ip;obtain⟨r,rfl⟩:=Int.eq_ofNat_of_zero_le bC.aO;have aL:r<(o.refs m).length:=bC.U;have gD:(o.refs m)[r].inst=(q:Int):=bC.at_.pw;have rS:(o.refs m)[r].cmd=(k:Int):=bC.at_.uH;obtain⟨kD,rfl⟩:=bE.addr;obtain⟨iP,rfl⟩:=a8.addr;obtain⟨a3,rfl⟩:=ab.addr;obtain⟨lM,b7,ec,dD,e2,fO⟩:=ab.at p ar;obtain⟨Fi,Dq,rfl,EY⟩:=fO.form;obtain⟨ac,rfl⟩:=fO.addr;obtain⟨eQ,gu,ea,hf,kP,iX⟩:=fO.at k oG;obtain⟨gy,ga,rfl,_⟩:=kP.form;obtain⟨wv,vi,rfl,_⟩:=iX.form;unfold o.dz.enc at dD;unfold o.dI.enc at hf;have la:=o.xl ar oG;refine⟨gy,ga,wv,vi,by rw[la];exact kP,by rw[la];exact iX,fun W sT=>?_⟩;replace ak:=sT.obj ak;replace bE:=bE.ext Flat.ext sT;replace a8:=a8.ext Flat.ext sT;replace dD:=dD.ext sT;replace hf:=hf.ext sT;refine bn E.h ?_;refine aa ?_;intro w1 bR dt al av;replace ak:=al.obj ak;have Nf:=bE.ext Flat.ext al;refine aa ?_;intro aH cF fy ao bH;have tR:(o.refs m)[r].enc=[.int .i64 q,.int .i64 k]:=by unfold o.Ref.enc;rw[gD,rS]
 rw[tR] at bH;have z4:=cy av;replace av:=ao.obj av;replace ak:=ao.obj ak;have aI:=al.trans ao;have zf:=a8.ext Flat.ext aI;have Ez:=dD.ext aI;have Ed:=hf.ext aI;clear Nf;refine aa ?_;intro aP aj;replace av:=aj.obj av;replace bH:=aj.obj bH;replace ak:=aj.obj ak;replace zf:=zf.ext Flat.ext aj;replace Ez:=Ez.ext aj;replace Ed:=Ed.ext aj;refine aa ?_;refine K_ p (by rw[pg]) ar ?_;refine aa ?_;intro aR du cc;refine aa ?_;exact⟨by rw[la];rfl,du.ext (aI.trans aj) (by omega)⟩
theorem agv(c3:Nat)(v:B_)(m:o.Model)(s:C_ Int)(ref:Int)(q p k:Nat)(w:A_)(gO:o0 w c3 m)(an:ee w v s)(ax:o.Fits m s)(bC:o.eM m ref q p k) :
  a7 Tryz.prog F.Ho #[.pointer (some ⟨c3,0,none⟩),v,.int .i64 ref] w fun u w'=>((o.hp m s q (o.bI m p k)=none/\u = .tuple #[.slice none 0 0,.bool false])\/(∃t ad c,o.hp m s q (o.bI m p k)=some t/\u = .tuple #[.slice ad t.length c,.bool true]/\ou w.heap.size w' (.slice ad t.length c) t))/\Ext w w':=by
 have gb:=bC.ok;have a1:=o.ir gb;have hIn:=bC.inst;have rL:=bC.cin;have sU:=rL.gU;have au:=hIn.au;have hlen:=ax.len;have mz:o.dW m<=64:=o.kt a1;have II:=hIn.room;obtain⟨f6,f7,f8⟩:=o.s6 m;obtain⟨IH,sW⟩:=o.rV au;have xG:=gO;obtain⟨zs,ak,h5⟩:=gO;obtain⟨ff,d0,dZ,d1,eK,d2,e5,d3,fu,d4,cd,bw,bO,c1,bV,c2,b2,br,cj,bF,yd,xk,gR,iz,rfl,_,_,eF,eb,dG,fg,gq,af,h1,I,ab,a8,bE⟩:=h5.form;obtain⟨e4,fL,rfl,fH⟩:=an.form;obtain⟨r,rfl⟩:=Int.eq_ofNat_of_zero_le bC.aO;have aL:r<(o.refs m).length:=bC.U;have gD:(o.refs m)[r].inst=(q:Int):=bC.at_.pw;obtain⟨kD,rfl⟩:=bE.addr;obtain⟨a2,rfl⟩:=dG.addr;obtain⟨UB,rfl⟩:=an.addr;obtain⟨c,Ee⟩:∃c,c=o.bI m p k:=⟨_,rfl⟩;obtain⟨gy,ga,aQ,fD,kP,iX,la⟩:=agw c3 m r q p k w xG bC;rw[<-Ee] at rL sU ⊢;simp only[<-Ee] at la kP iX;clear eF eb fg gq af h1 I ab a8 h5;have BV:∀{W},Ext w W->W.heap[c3]? = _:=fun e=>e.obj ak;refine bn E.Ho ?_;simp -dsimp only[cB];refine eh ?_;refine S_ [0,1,2] (fun iR:Nat=>[(8,.pointer (some ⟨iR,0,none⟩)),(9,.int .i64 q)]) (fun iR W=>w.heap.size<=iR/\Ext w W/\W.heap[iR]? = some (.cells (c.enc (.slice gy c.guard.length ga) (.slice aQ c.bY.length fD)).toArray T.k)) ?_ ?_
 .refine aa ?_;intro w1 al;replace ak:=al.obj ak;replace bE:=bE.ext Flat.ext al;refine aa ?_;refine⟨?_,?_⟩
  .refine J_ (la w1 al) ?_;rintro _ aH ⟨rfl,ao⟩;refine⟨ao,?_⟩;refine aa ?_;intro aP iR oC aj c4;refine⟨ao.trans aj,?_⟩;refine T_ c4 rfl rfl (by simp[Value.oneCell',o.dI.enc]) fun aR du bH=>?_;have aA:Ext aH aR:=du.ext aj oC;refine⟨ao.trans aA,?_⟩;refine aa ?_
   have:=al.size
   have:=ao.size
   exact⟨iR,⟨rfl,by first | trivial | (rw[gD];trivial) | simp[gD,Has],trivial⟩,by omega,al.trans (ao.trans aA),bH⟩
  .refine aa ?_;intro aH iR oC ao c4;refine⟨ao,?_⟩;refine aa ?_;refine J_ (la aH (al.trans ao)) ?_;rintro _ aP ⟨rfl,aj⟩;replace c4:=aj.obj c4;have VJ:=ao.trans aj;refine⟨VJ,?_⟩;refine aa ?_;intro aR du bH;have aA:Ext w1 aR:=du.ext VJ oC;refine⟨aA,?_⟩;refine aa ?_
   have:=al.size
   exact⟨iR,⟨rfl,by first | trivial | (rw[gD];trivial) | simp[gD,Has],trivial⟩,by omega,al.trans aA,bH⟩
 clear la ak;rintro iR S w1 ⟨oC,al,c4⟩;have auJ:=cy c4;have ak:=BV al;have fP:=an.ext Flat.ext al;have vN:s[o.dj m q]? = some (s[o.dj m q]'(by omega)):=List.getElem?_eq_getElem (by omega);refine aa ?_;refine J_ (Pg _ s w1 fP (by unfold o.ei;omega)) ?_;rintro u aH ⟨fo,ao⟩;replace ak:=ao.obj ak;replace c4:=ao.obj c4;have aI:=al.trans ao;obtain⟨amO,Dt,rfl,_⟩:=(oL fo).form;obtain⟨g,rfl⟩:∃g,amO=some ⟨g,0,none⟩:=by
  rcases fo.2 with ⟨ay,af⟩ | ⟨g,cap,cur,h1,_⟩
  .exfalso;injection ay with _ I _;omega
  .injection h1 with h1 _ _;exact⟨g,h1⟩
 refine aa ?_;intro aP tJ Bv aj ko;have ba:=aI.trans aj;have W3:k1 w1 aP tJ c3 g Dt q w1.heap.size m s:=⟨ao.trans aj,Nat.le_refl _,xG.ext al,ko,fo.ext aj⟩;replace ak:=aj.obj ak;replace c4:=aj.obj c4;have gE:=an.ext Flat.ext ba;have aoc:=dG.ext Flat.ext ba;clear fP fo;refine eh ?_;refine _8 ak (Ext.refl _) rfl ?_;refine eh ?_;simp -dsimp only[cB];refine eh ?_;refine K_ (o.dj m q) (by rw[sW]) (by omega) ?_;refine eh ?_;intro aR aA;have zj:=W3.ext aA;replace c4:=aA.obj c4;replace ak:=aA.obj ak;have bG:=ba.trans aA;clear gE aoc W3 ko;refine eh ?_;apply I_<;>intro g1;rotate_left
 .refine aa ?_;exact⟨.inl ⟨by unfold o.hp;rw[vN,if_pos (by simpa using g1)],aU⟩,bG⟩
 have zo:o.hp m s q c=if 0<c.guard.length/\((o.eval c.guard (o.cr m s q)).2≠0\/(o.eval c.guard (o.cr m s q)).1=0) then none else (o.kh m q c.bY s).map fun t=>t.set (o.dj m q) c.to:=by
  unfold o.hp;rw[vN,if_neg (by simpa using g1)]
 have Xg:=c4;refine eh ?_;refine S_ [0,2,8,9,10,11] (fun _:Unit=>[]) (fun _ W=>Ext aR W/\¬(0<c.guard.length/\((o.eval c.guard (o.cr m s q)).2≠0\/(o.eval c.guard (o.cr m s q)).1=0))) ?_ ?_
 .refine aa ?_;apply I_<;>intro g2;rotate_left
  .refine aa ?_;exact⟨(),trivial,Ext.refl _,fun cU=>by omega⟩
  refine aa ?_;refine J_ (Bm tJ c3 g Dt q p w1.heap.size m s _ c.guard aR zj gb ax hIn (kP.ext bG)) ?_;rintro _ bq ⟨rfl,aJ⟩;obtain⟨n,ug⟩:∃n,n=(o.eval c.guard (o.cr m s q)).1:=⟨_,rfl⟩;obtain⟨e,uc⟩:∃e,e=(o.eval c.guard (o.cr m s q)).2:=⟨_,rfl⟩;rw[<-ug,<-uc];rw[<-ug,<-uc] at zo;refine aa ?_;refine I_ (fun qW=>?_) (fun qW=>?_);rotate_left
  .refine aa ?_;exact⟨.inl ⟨by rw[zo,if_pos ⟨by omega,.inl qW⟩],aU⟩,bG.trans aJ⟩
  refine aa ?_;refine I_ (fun mI=>?_) (fun mI=>?_)
  .refine aa ?_;exact⟨.inl ⟨by rw[zo,if_pos ⟨by omega,.inr mI⟩],aU⟩,bG.trans aJ⟩
  .refine aa ?_;exact⟨(),trivial,aJ,fun cU=>by rcases cU.2 with h | h;exact h qW;exact mI h⟩
 clear c4 ak;rintro _ S bq ⟨aJ,xN⟩;have il:o.hp m s q c=(o.kh m q c.bY s).map fun t=>t.set (o.dj m q) c.to:=by rw[zo,if_neg xN]
 rw[il];clear zo xN il;have c4:=aJ.obj Xg;have Nh:=zj.ext aJ;have bU:=bG.trans aJ;refine aa ?_;refine J_ (agy _ c.bY bq (iX.ext al) (ao.trans (aj.trans (aA.trans aJ))) (fun x ag=>(o.GI rL x ag).kind) (by omega)) ?_;rintro u bB ⟨⟨cm,lg,Ou,h4⟩,aT⟩;obtain⟨ob,k5,rfl,_⟩:=(aW.jH jS Ou).form;have ahS:=Nh.ext aT;have Nx:=aT.obj c4;have c8:=bU.trans aT;have BI:=Nh.Dg;have z5:=aT.size;clear c4 Xg zj Nh;refine aa ?_;refine L_ 69 cm.length [0,2,8,9,10,11,67,68] (fun _:C_ Int=>[]) s (fun n t W=>Mod (fun i=>i=g) bB W/\o.kh m q (c.bY.take n) s=some t/\o.Fits m t/\k1 w1 W tJ c3 g Dt q w1.heap.size m t) bc bc ⟨Mod.refl _ _,rfl,ax,ahS⟩ ?_;rintro n t aX bQ ay ⟨h8,aB,vJ,DY⟩;have aiX:g≠iR:=by omega
 have Bx:=h8.obj (fun h=>aiX h.symm) Nx;have ajJ:=aW.mod Ou h8 fun i U h=>by have:=(aW.lt Ou i U).1;omega
 refine aa ?_;apply I_<;>intro g2
 .have l8:n<cm.length:=by omega
  have xV:n<c.bY.length:=by omega
  have W1:=aW.jH jS ajJ;obtain⟨ac,rfl⟩:=W1.addr;obtain⟨bM,b7,gx,qR,rP⟩:=h4 n l8 xV;have gC:bQ.cell? (ac.add (n*1))=some (.iface (kI c.bY[n].kind) (.agg (c.bY[n].enc bM b7).toArray)):=by
   have:=W1.at n l8 0 _ (by show(cm[n].1)[0]? = _;rw[gx];rfl)
   rwa[add_zero] at this
  have ze:Ext w1 bQ:=h8.ext (ao.trans (aj.trans (aA.trans (aJ.trans aT)))) fun i U h=>by omega
  have rI:=DY.box;refine aa ?_;refine M_ gC ?_;refine aa ?_;refine agx tJ c3 g Dt q p w1.heap.size m t c.bY[n] bM b7 bQ _ DY gb vJ hIn (o.GI rL _ (List.getElem_mem xV)) (qR.ext ze) (rP.ext ze) fun u de bE=>?_;obtain⟨bE,iF⟩:=bE;have Ya:Mod (fun i=>i=g) bB de:=h8.trans iF;rcases bE with ⟨t2,h1,rfl,I⟩ | ⟨h1,rfl⟩
  .have XL:=o.Um a1 hIn (o.GI rL _ (List.getElem_mem xV)) vJ h1;refine aa ?_;exact⟨l8,aU,t2,trivial,Ya,by rw[o.Up m q c.bY s xV,aB];exact h1,XL,DY.mod iF I (by rw[XL.len,vJ.len])⟩
  .have hg:o.kh m q c.bY s=none:=o.Un m q c.bY s (n+1) (by rw[o.Up m q c.bY s xV,aB];exact h1);refine aa ?_;exact⟨.inl ⟨by rw[hg];rfl,aU⟩,Ya.ext c8 fun i U h=>by have:=al.size;omega⟩
 have pj:n=c.bY.length:=by omega
 rw[pj,List.take_length] at aB;rw[aB];have rI:=DY.box;have ch:=vJ.len;have gK:Ext w bQ:=h8.ext c8 fun i U h=>by have:=al.size;omega
 have gj:=al.size;refine aa ?_;intro de bP;have Ni:=DY.ext bP;have asq:=Ni.box;replace Bx:=bP.obj Bx;clear rI;refine aa ?_;refine K_ (o.dj m q) (by rw[sW]) (by omega) ?_;refine aa ?_;refine _1 (k:=o.dj m q) Ni.own (by omega) fun dc hG hs=>?_;have ahT:=Ni.mod (hG.mod rfl) hs (List.length_set ..);have ah6:=ahT.box;rw[List.length_set] at ah6;refine aa ?_;refine⟨.inr ⟨_,some ⟨g,0,none⟩,Dt,rfl,by rw[List.length_set],by rw[List.length_set];exact aW.low gj hs⟩,hG.ext (gK.trans bP) (by show w.heap.size<=g;omega)⟩
def w3(w:A_)(cs:C_ B_)(x:o.kZ):Prop := ∃v,cs=[.int .i64 x.cmd,.int .i64 x.gJ,v]/\ee w v x.to
def yD(w:A_)(a:Addr)(x:o.kZ):Prop := ∃v,e0 w a [.int .i64 x.cmd,.int .i64 x.gJ,v]/\ee w v x.to
instance atn:Rel yD w3 3 where
 out h:=by
  obtain⟨v,h1,I⟩:=h;exact⟨_,h1,v,rfl,I⟩
 n1 h k:=by
  obtain⟨v,rfl,k⟩:=k;exact⟨v,h,k⟩
 len h:=by obtain⟨v,rfl,_⟩:=h;rfl
 one h:=by obtain⟨v,rfl,h⟩:=h;simpa[Value.oneCell'] using h.one
 ext e h:=let ⟨v,h1,I⟩:=h; ⟨v,h1,I.ext Flat.ext e⟩
theorem yD.ext{w w':A_}{a:Addr}{x:o.kZ}(he:Ext w w')(h:yD w a x):yD w' a x :=
 let ⟨v,h1,I⟩:=h; ⟨v,h1.ext he,I.ext Flat.ext he⟩
abbrev si(w:A_)(v:B_)(l:C_ o.kZ):Prop:=bh 3 yD w v l
end Go.Proofs.R
end
section
namespace o
open Go
def jx(m:Model)(s:C_ Int)(q:Nat)(c:dI):C_ (C_ Int):=match hp m s q c with
 | none=>[]
 | some t=>t :: if ways c m.aw=2 then [lost m s t c] else []
theorem afB(m:Model)(s:C_ Int)(q:Nat)(c:dI):(jx m s q c).length<=2:=by
 unfold jx;cases hp m s q c with
 | none=>simp
 | some t=>by_cases h:ways c m.aw=2<;>simp[h]
theorem eM.ends{m:Model}{r q p k:Nat}(h:eM m r q p k)(s:C_ Int):(o.lp m s r).length=(jx m s q (bI m p k)).length/\∀j (h1:j<(o.lp m s r).length) (I:j<(jx m s q (bI m p k)).length),(o.lp m s r)[j]=⟨r,j,(jx m s q (bI m p k))[j]⟩:=by
 have e:=h.lp s;cases ah:hp m s q (bI m p k) with
 | none =>
  rw[ah] at e;have aI:jx m s q (bI m p k)=[]:=by unfold jx;rw[ah]
  rw[e,aI];exact⟨rfl,fun j h1=>absurd h1 (Nat.not_lt_zero _)⟩
 | some t =>
  rw[ah] at e;by_cases hw:ways (bI m p k) m.aw=2
  .have aI:jx m s q (bI m p k)=[t,lost m s t (bI m p k)]:=by unfold jx;rw[ah];simp[hw]
   have ba:o.lp m s r=[⟨r,0,t⟩,⟨r,1,lost m s t (bI m p k)⟩]:=by rw[e];simp[hw]
   rw[aI,ba];refine⟨rfl,fun j h1 I=>?_⟩
   match j,h1 with
   | 0,_=>rfl
   | 1,_=>rfl
   | j+2,h1=>exact absurd h1 (by simp)
  .have aI:jx m s q (bI m p k)=[t]:=by unfold jx;rw[ah];simp[hw]
   have ba:o.lp m s r=[⟨r,0,t⟩]:=by rw[e];simp[hw]
   rw[aI,ba];refine⟨rfl,fun j h1 I=>?_⟩
   match j,h1 with
   | 0,_=>rfl
   | j+1,h1=>exact absurd h1 (by simp)
end o
namespace Go.Proofs.R
open Go Go.RowKit bb
structure wV(base:Nat)(w:World)(u:Value)(cm:List (e1 1))(l:List (List Int)):Prop where
 len:cm.length=l.length
 row:oV T.b 1 base w u cm
 at_:∀i (h1:i<cm.length) (I:i<l.length),∃ad c,cm[i].1=[.slice ad l[i].length c]/\ou base w (.slice ad l[i].length c) l[i]
theorem wV.ext{base:Nat}{w w':A_}{u:B_}{cm:C_ (e1 1)}{l:C_ (C_ Int)}(he:Ext w w')(h:wV base w u cm l):wV base w' u cm l :=
 ⟨h.len,h.row.ext he,fun i h1 I=>let ⟨ad,c,e,k⟩:=h.at_ i h1 I; ⟨ad,c,e,k.ext he⟩⟩
theorem wV.mod{base:Nat}{w w':A_}{u:B_}{cm:C_ (e1 1)}{l:C_ (C_ Int)}{A:Nat->Prop}(h:wV base w u cm l)(hm:Mod A w w')(dh:∀k (x:Array B_) (e:F_),base<=k->w.heap[k]? = some (.cells x e)->e=T.b\/e=T.a->¬A k):wV base w' u cm l :=
 ⟨h.len,aW.mod h.row hm fun k hk=>let ⟨x,q⟩:=aW.cu h.row k hk;dh k x _ (aW.lt h.row k hk).1 q (.inl rfl),fun i h1 I=>let ⟨ad,c,e,k⟩:=h.at_ i h1 I; ⟨ad,c,e,aW.mod k hm fun j aE=>let ⟨x,q⟩:=aW.cu k j aE;dh j x _ (aW.lt k j aE).1 q (.inr rfl)⟩⟩
theorem agJ(c3:Nat)(ea ly:B_)(m:o.Model)(s t:C_ Int)(ref:Int)(q p k:Nat)(w:A_)(gO:o0 w c3 m)(an:ee w ea s)(aB:ee w ly t)(asQ:s.length=o.dW m)(ch:t.length=o.dW m)(bC:o.eM m ref q p k)(po:o.ways (o.bI m p k) m.aw=2) :
  a7 Tryz.prog F.Hp #[.pointer (some ⟨c3,0,none⟩),ea,ly,.int .i64 ref] w fun u w'=>ou w.heap.size w' u (o.lost m s t (o.bI m p k))/\Ext w w':=by
 obtain⟨j,aE,np⟩:=o.K6 po;have a1:=o.ir bC.ok;have rT:=o.o5 np;have mz:o.dW m<=64:=o.kt a1;have dR:(o.chanOf m s j).length=1+o.gN m j:=o.tM (by omega);obtain⟨bO,c1,rfl,_⟩:=an.form;obtain⟨bV,c2,rfl,_⟩:=aB.form;refine bn E.Hp ?_;refine aa ?_;refine J_ (V8 c3 m ref q p k w gO bC) ?_;rintro _ w1 ⟨⟨gy,ga,aQ,fD,rfl,kP,iX⟩,al⟩;refine aa ?_;refine J_ (Vh (o.bI m p k) _ _ w1 (iX.ext al)) ?_;rintro _ aH ⟨rfl,ao⟩;rw[aE];have aI:=al.trans ao;refine aa ?_;refine J_ (Pg _ t aH (aB.ext Flat.ext aI) (by unfold o.ei;omega)) ?_;rintro u aP ⟨eu,aj⟩;have ba:=aI.trans aj;obtain⟨amP,arR,rfl,_⟩:=(oL eu).form;obtain⟨g,rfl⟩:∃g,amP=some ⟨g,0,none⟩:=by
  rcases eu.2 with ⟨ay,af⟩ | ⟨g,cap,cur,h1,_⟩
  .exfalso;injection ay with _ I _;omega
  .injection h1 with h1 _ _;exact⟨g,h1⟩
 refine aa ?_;refine J_ (ML c3 m j aP (gO.ext ba) a1 np) ?_;rintro _ aR ⟨rfl,aA⟩;have bG:=ba.trans aA;have eR:=eu.ext aA;refine aa ?_;intro bq aJ;have bU:=bG.trans aJ;have dL:=eR.ext aJ;have sZ:=an.ext Flat.ext bU;refine aa ?_;refine _c (k:=.i64) (k':=.i64) (o.cq m j) (o.cq m j+(1+o.gN m j)) (oL dL) (by simp[dp,bL]) (by simp[dp,bL]) (by omega) (by omega) fun PX sG aiD _=>?_;refine aa ?_;refine _b (k:=.i64) (k':=.i64) (o.cq m j) (o.cq m j+(1+o.gN m j)) sZ (by simp[dp,bL]) (by simp[dp,bL]) (by omega) (by omega) fun atI mZ BQ=>?_;rw[o.Mc] at BQ;refine aa ?_;refine _d (p:=o.cq m j) dL BQ (by simp only[dp,bL];rfl) (by simp only[dp,bL];rfl) aiD (by omega) (by kernel_rfl) (by kernel_rfl) fun u bB gn dB=>?_;rw[List.take_of_length_le (by omega)] at dB;have aK:=(aW.lt dL g rfl).1
 have:=aI.size
 refine aa ?_;refine⟨?_,gn.ext bU (by omega)⟩;have jl:o.lost m s t (o.bI m p k)=o.jY t (o.cq m j) (o.chanOf m s j):=by unfold o.lost;rw[aE,Int.toNat_natCast]
 rw[jl];exact aW.low aI.size dB
theorem Wt(c3:Nat)(v:B_)(m:o.Model)(s:C_ Int)(ref:Int)(q p k:Nat)(w:A_)(gO:o0 w c3 m)(an:ee w v s)(ax:o.Fits m s)(bC:o.eM m ref q p k) :
  a7 Tryz.prog F.cX #[.pointer (some ⟨c3,0,none⟩),v,.int .i64 ref] w fun u w'=>(∃cm:C_ (e1 1),wV w.heap.size w' u cm (o.jx m s q (o.bI m p k)))/\Ext w w':=by
 have a1:=o.ir bC.ok;obtain⟨e4,fL,rfl,fH⟩:=an.form;have xG:=gO;obtain⟨zs,ak,h5⟩:=gO;obtain⟨ff,d0,dZ,d1,eK,d2,e5,d3,fu,d4,cd,bw,bO,c1,bV,c2,b2,br,cj,bF,yd,xk,gR,iz,rfl,_,_,eF,eb,dG,fg,gq,af,h1,I,ab,a8,bE⟩:=h5.form;clear eF eb dG fg gq af h1 ab a8 bE h5;refine bn E.cX ?_;refine aa ?_;refine J_ (agv c3 _ m s ref q p k w xG an ax bC) ?_;rintro _ w1 ⟨km,al⟩;have gj:=al.size;rcases km with ⟨hg,rfl⟩ | ⟨t,Ko,A9,s3,rfl,ajQ⟩
 .have he:o.jx m s q (o.bI m p k)=[]:=by unfold o.jx;rw[hg]
  refine aa ?_;exact⟨⟨[],⟨by rw[he];rfl,aW.nil _ _ _ _ _,fun i h=>absurd h (Nat.not_lt_zero _)⟩⟩,al⟩
 have ch:=o.aeQ bC ax s3;replace ak:=al.obj ak;refine aa ?_;intro aH bR dt ao av;have aI:=al.trans ao;replace ak:=ao.obj ak;have z2:=ao.size;have fo:oV T.b 1 w.heap.size aH (.slice (some ⟨bR,0,none⟩) 1 1) [(⟨[.slice Ko t.length A9],rfl,by simp[Value.oneCell']⟩:e1 1)]:=aW.AZ _ av (by omega) rfl jS rfl (by show 1<=maxLen;unfold maxLen;decide);clear av;refine aa ?_;intro aP aj;replace ak:=aj.obj ak;have eu:=fo.ext aj;have ba:=aI.trans aj;refine aa ?_;refine J_ (V8 c3 m ref q p k aP (xG.ext ba) bC) ?_;rintro _ aR ⟨⟨gy,ga,aQ,fD,rfl,kP,iX⟩,aA⟩;refine⟨aA,?_⟩;have bG:=ba.trans aA;refine aa ?_;refine J_ (aqX (o.bI m p k) _ _ _ m.aw aR (iX.ext aA) (I.ext bG)) ?_;rintro _ bq ⟨rfl,aJ⟩;have bU:=bG.trans aJ;have dL:=eu.ext (aA.trans aJ);have Ox:=((ajQ.ext ao).ext aj).ext (aA.trans aJ);obtain⟨auj,akB⟩:∃x,x=o.ways (o.bI m p k) m.aw:=⟨_,rfl⟩;have I8:=o.K7 (o.bI m p k) m.aw;rw[<-akB] at I8 ⊢;refine aa ?_;refine I_ (fun mI=>?_) (fun mI=>?_);rotate_left
 .have he:o.jx m s q (o.bI m p k)=[t]:=by unfold o.jx;rw[s3];simp only;rw[if_neg (by omega)]
  refine aa ?_;refine⟨⟨_,⟨by rw[he];rfl,dL,fun i cV dq=>?_⟩⟩,bU⟩
  have:i=0:=by simp at cV;omega
  subst this;simp only[he,List.getElem_cons_zero];exact⟨_,_,rfl,Ox⟩
 have po:o.ways (o.bI m p k) m.aw=2:=by omega
 have he:o.jx m s q (o.bI m p k)=[t,o.lost m s t (o.bI m p k)]:=by unfold o.jx;rw[s3];simp only;rw[if_pos po]
 refine aa ?_;refine J_ (agJ c3 _ _ m s t ref q p k bq (xG.ext bU) (an.ext Flat.ext bU) (oL Ox) ax.len ch bC po) ?_;rintro u bB ⟨dB,aT⟩;obtain⟨ani,y3,rfl,_⟩:=(oL dB).form;have c8:=bU.trans aT;have z5:=bU.size;have Aq:=aT.size;refine aa ?_;intro bQ ho h6 bz c9;have dQ:=c8.trans bz;have dS:=dL.ext (aT.trans bz);refine V_ (enc:=jR) (y:=(⟨[.slice ani (o.lost m s t (o.bI m p k)).length y3],rfl,by simp[Value.oneCell']⟩:e1 1)) dS c9 rfl jS sN (by simp) (by unfold maxLen;simp) (by have:=dQ.size;omega) fun atL n8 UY de hr zt=>?_;refine aa ?_;have ajn:∀i,(Value.slice (some ⟨bR,0,none⟩) 1 1).ownBlock=some i->w.heap.size<=i:=fun i U=>(aW.lt dS i U).1;have key:∀{v:B_} {l:C_ Int},ou w.heap.size bQ v l->ou w.heap.size de v l:=fun h=>aW.mod h (Mod.grown zt fun k hk=>hk) fun k hk au=>by
  obtain⟨j0,h1⟩:=aW.cu h k hk;obtain⟨kX,I⟩:=aW.cu dS k au;rw[h1] at I;injection I with I
  injection I with _ I
  revert I;decide
 have df:=key (Ox.ext (aT.trans bz));have a2:=key ((aW.low z5 dB).ext bz);refine⟨⟨_,⟨by rw[he];rfl,hr,fun i cV dq=>?_⟩⟩,dQ.grown zt ajn⟩
 match i,cV with
 | 0,_ =>
  simp only[he,List.getElem_cons_zero];exact⟨_,_,rfl,df⟩
 | 1,_ =>
  simp only[he,List.getElem_cons_succ,List.getElem_cons_zero];exact⟨_,_,rfl,a2⟩
 | i+2,cV=>exact absurd cV (by simp)
theorem agK(c3:Nat)(v:B_)(m:o.Model)(s:C_ Int)(w:A_)(gO:o0 w c3 m)(hk:(o.check m).cA=0)(an:ee w v s)(ax:o.Fits m s) :
  a7 Tryz.prog F.c6 #[.pointer (some ⟨c3,0,none⟩),v] w fun u w'=>eO w3 T.p 3 w.heap.size w' u (o.hT m s)/\Ext w w':=by
 have a1:=o.ir hk;have kr:=o.yh a1.lim;obtain⟨e4,fL,rfl,fH⟩:=an.form;have xG:=gO;obtain⟨zs,ak,h5⟩:=gO;obtain⟨ff,d0,dZ,d1,eK,d2,e5,d3,fu,d4,cd,bw,bO,c1,bV,c2,b2,br,cj,bF,yd,xk,gR,iz,rfl,_,_,eF,eb,dG,fg,gq,af,h1,I,ab,a8,bE⟩:=h5.form;clear eF eb dG fg gq af h1 I ab a8 bE h5;refine bn E.c6 ?_;refine aa ?_;refine L_ 14 (o.refs m).length [0,1,13] (fun v:hc=>[(5,.slice v.1 v.2.1 v.2.2)]) (none,0,0) (fun k v W=>Ext w W/\eO w3 T.p 3 w.heap.size W (.slice v.1 v.2.1 v.2.2) (o.oa m s k)) bc bc ⟨Ext.refl _,eO.nil _ _ _ _ _⟩ ?_;clear ak;rintro k Rk S aH aZ ⟨ao,fo⟩;have iq:=o.ZT m s k;refine aa ?_;refine I_ (fun qW=>?_) (fun qW=>?_)
 .have Od:k<(o.refs m).length:=by omega
  obtain⟨q,p,nu,bC⟩:=o.o8 (m:=m) (ref:=k) ⟨hk,by omega,by omega⟩;obtain⟨ar3,DR⟩:=bC.ends s;have ue:=o.afB m s q (o.bI m p nu);refine aa ?_;refine J_ (Wt c3 _ m s k q p nu aH (xG.ext ao) (an.ext Flat.ext ao) ax bC) ?_;rintro u aP ⟨⟨cm,H8⟩,aj⟩;have z2:=ao.size;have z3:=aj.size;have lg:=H8.len;obtain⟨ob,k5,rfl,_⟩:=(aW.jH jS H8.row).form;have eu:=fo.ext aj;have ba:=ao.trans aj;refine aa ?_;refine L_ 22 cm.length [0,1,6,13,14,20,21] (fun v:hc=>[(5,.slice v.1 v.2.1 v.2.2)]) Rk (fun j v W=>Ext w W/\wV aH.heap.size W (.slice ob cm.length k5) cm (o.jx m s q (o.bI m p nu))/\eO w3 T.p 3 w.heap.size W (.slice v.1 v.2.1 v.2.2) (o.oa m s k++(o.lp m s k).take j)) bc bc ⟨ba,H8,by simpa using eu⟩ ?_;clear H8 eu fo;rintro j v S aR aE ⟨aA,M5,eR⟩;have W2:=aW.jH jS M5.row;refine aa ?_;refine I_ (fun mI=>?_) (fun mI=>?_);rotate_left
  .have asI:j=cm.length:=by omega
   rw[List.take_of_length_le (by omega),<-o.ZU] at eR;refine aa ?_;exact⟨Od,aU,v,⟨aU,trivial⟩,aA,eR⟩
  have et:j<cm.length:=by omega
  obtain⟨ac,rfl⟩:=W2.addr;obtain⟨P1,Mt,gx,fB⟩:=M5.at_ j et (by omega);have gC:aR.cell? (ac.add (j*1))=some (.slice P1 (o.jx m s q (o.bI m p nu))[j].length Mt):=by
   have:=W2.at j et 0 (.slice P1 (o.jx m s q (o.bI m p nu))[j].length Mt) (by show(cm[j].1)[0]? = _;rw[gx];rfl)
   rwa[add_zero] at this
  refine aa ?_;refine M_ gC ?_;refine aa ?_;intro bq dx k9 aJ cc;have dL:=eR.ext aJ;have Oy:=fB.ext aJ;have ahr:=M5.ext aJ;have z4:=aA.size;have z5:=aJ.size;have hlen:(o.oa m s k++(o.lp m s k).take j).length<=2*k+2:=by rw[List.length_append,List.length_take];omega
  have OT:∀i,(Value.slice v.1 v.2.1 v.2.2).ownBlock=some i->∃x,bq.heap[i]? = some (.cells x T.p):=fun i U=>by
   obtain⟨ae4,_,mD,_⟩:=dL.ex;exact aW.cu mD i U
  have cw:∀(k:Nat) (x:Array B_) (e:F_),bq.heap[k]? = some (.cells x e)->e=T.b\/e=T.a->(Value.slice v.1 v.2.1 v.2.2).ownBlock=some k->False:=fun k x e h1 I ab=>by
   obtain⟨kX,dq⟩:=OT k ab;rw[h1] at dq;injection dq with dq
   injection dq with _ dq
   subst dq
   revert I;decide
  refine _Y (x:=(⟨k,j,(o.jx m s q (o.bI m p nu))[j]⟩:o.kZ)) (cs:=[.int .i64 k,.int .i64 j,.slice P1 (o.jx m s q (o.bI m p nu))[j].length Mt]) dL (hA cc)
   (fun W gO=>⟨_,rfl,oL (aW.mod Oy gO fun i U au=>by
    obtain⟨j0,cV⟩:=aW.cu Oy i U;rcases au with au | au
    .exact cw i _ _ cV (.inr rfl) au
    .have:=(aW.lt Oy i U).1
     omega)⟩) rfl (by simp[Value.oneCell']) (by omega) (by unfold maxLen;omega) (by omega) fun b9 bB xY jA=>?_
  have iM:=dL.mw (aA.trans aJ) jA (Nat.le_refl _);have DQ:=ahr.mod (Mod.grown jA fun k hk=>hk) fun k x e _ h1 I ab=>cw k x e h1 I ab;obtain⟨tj,xg,rfl,_⟩:=xY.form;refine aa ?_;refine⟨et,aU,(tj,_,xg),⟨rfl,trivial⟩,iM,DQ,?_⟩;rw[List.take_succ_eq_append_getElem (by omega),<-List.append_assoc,DR j (by omega) (by omega)];exact xY
 .have kq:k=(o.refs m).length:=by omega
  subst kq;obtain⟨atN,co,ajI,_⟩:=fo.form;obtain⟨am9,atG,ae5⟩:=Rk;cases ajI;refine aa ?_;refine I_ (fun mI=>?_) (fun mI=>?_)
  .have IW:o.oa m s (o.refs m).length=[]:=List.eq_nil_of_length_eq_zero (by omega);have pn:o.hT m s=o.oa m s (o.refs m).length++[⟨-1,0,s⟩]:=by unfold o.hT;rw[IW];rfl
   replace fo:eO w3 T.p 3 w.heap.size aH (.slice am9 (o.oa m s (o.refs m).length).length ae5) (o.oa m s (o.refs m).length):=fo;have IM:(o.oa m s (o.refs m).length).length=0:=by rw[IW];rfl
   have eE:=an.ext Flat.ext ao;have z2:=ao.size;have mz:o.dW m<=64:=o.kt a1;have lI:=ax.len;refine aa ?_;refine J_ (Pg _ s aH eE (by unfold o.ei;omega)) ?_;rintro u aR ⟨eR,eA⟩;obtain⟨hy,Rf,rfl,_⟩:=(oL eR).form;have ajA:=aW.new (enc:=cR) (fun _=>rfl) eR;have aka:=fo.ext eA;have z4:=eA.size;refine aa ?_;intro bq dx k9 aJ cc;have EC:=aka.ext aJ;have z5:=aJ.size;refine _Y (x:=(⟨-1,0,s⟩:o.kZ)) (cs:=[.int .i64 (-1),.int .i64 0,.slice hy s.length Rf]) EC (hA cc)
    (((eD.own (w1:=aR) ajA fo (by omega)).imp fun w h=>⟨_,rfl,h⟩).ext aJ fun i U hk=>by have:=fo.under (by omega) i hk;omega) rfl (by simp[Value.oneCell']) (by omega) (by unfold maxLen;omega) (by omega) fun b9 bB xY jA=>?_
   have acF:=EC.mw ((ao.trans eA).trans aJ) jA (Nat.le_refl _);obtain⟨tj,xg,rfl,_⟩:=xY.form;refine aa ?_;exact⟨by rw[pn];exact xY,acF⟩
  .have pn:o.hT m s=o.oa m s (o.refs m).length:=by
    unfold o.hT;split
    .rename_i ay;rw[ay] at mI;simp at mI
    .rfl
   refine aa ?_;exact⟨by rw[pn];exact fo,ao⟩
def Gw(m:o.Model)(s:C_ Int)(ref:Int)(t:Bool):Prop:=t=true↔(o.hb m s/\o.Told m ref/\∀q p k,o.eM m ref q p k->o.hp m s q (o.bI m p k)≠none)
end Go.Proofs.R
end
section
namespace bb
open Go Go.RowKit
theorem eO.low{α:Type}{C:A_->C_ B_->α->Prop}{e:F_}{sz base ve:Nat}{w:A_}{v:B_}{xs:C_ α}(ak:ve<=base)(h:eO C e sz base w v xs):eO C e sz ve w v xs:=by
 obtain⟨cm,h1,I,ab⟩:=h.ex;exact⟨cm,h1,aW.low ak I,fun i cV dq=>(ab i cV dq).mono fun k _ hk=>by
  rcases hk with hk | hk
  .exact .inl hk
  .exact .inr (by omega)⟩
end bb
namespace Go.Proofs.R
open Go Go.RowKit bb
theorem V7(cs:C_ B_)(v:B_)(m:o.Model)(s:C_ Int)(w:A_)(h:o.dV w cs m)(aK:m.cN)(aM:gB w)(an:ee w v s) :
  a7 Tryz.prog F.fL #[.agg cs.toArray,v] w fun u w'=>((o.hb m s/\∃b,u = .tuple #[.pointer (some ⟨b,0,none⟩),.bool true]/\o0 w' b m)\/(¬o.hb m s/\∃ad,u = .tuple #[.pointer ad,.bool false]))/\Ext w w':=by
 have dw:=h;obtain⟨cd,bw,bO,c1,bV,c2,b2,br,cj,bF,rfl,_⟩:=h.form;obtain⟨os,Dw,rfl,_⟩:=an.form;refine bn E.fL ?_;refine aa ?_;intro w1 bR dt al av;refine aa ?_;refine J_ (agL _ m w1 (dw.ext al) aK (aM.ext al)) ?_;rintro _ aH ⟨hO,ao⟩;replace av:=ao.obj av;have aI:=al.trans ao;rcases hO with ⟨hk,rfl⟩ | ⟨hk,b,rfl,ak,gO⟩
 .refine aa ?_;exact⟨.inr ⟨fun bE=>hk bE.1,_,aU⟩,aI⟩
 refine aa ?_;refine J_ (abF _ m _ s aH (dw.ext aI) aK (aM.ext aI) (an.ext Flat.ext aI)) ?_;rintro _ aP ⟨⟨t,rfl,aB⟩,aj⟩;have ba:=aI.trans aj;cases t with
 | false =>
  refine aa ?_;exact⟨.inr ⟨fun bE=>(by have:=aB.2 bE;cases this),_,aU⟩,ba⟩
 | true =>
  refine aa ?_;exact⟨.inl ⟨aB.1 rfl,b,aU,gO.ext aj⟩,ba⟩
theorem agA(c3:Nat)(m:o.Model)(ref:Int)(w:A_)(gO:o0 w c3 m) :
  a7 Tryz.prog F.G4 #[.pointer (some ⟨c3,0,none⟩),.int .i64 ref] w fun u w'=>(∃t:Bool,u = .bool t/\(t=true↔0<=ref/\ref<(o.refs m).length))/\Ext w w':=by
 obtain⟨zs,ak,h5⟩:=gO;obtain⟨ff,d0,dZ,d1,eK,d2,e5,d3,fu,d4,cd,bw,bO,c1,bV,c2,b2,br,cj,bF,yd,xk,gR,iz,rfl,_⟩:=h5.form;clear h5;refine bn E.G4 ?_;refine aa ?_;refine I_ (fun g=>?_) (fun g=>?_)
 .refine aa ?_;exact⟨⟨_,aU,by rw[decide_eq_true_eq];exact⟨fun h=>⟨by omega,h⟩,fun h=>h.2⟩⟩,Ext.refl _⟩
 .refine aa ?_;exact⟨⟨false,aU,by simp only[Bool.false_eq_true,false_iff];omega⟩,Ext.refl _⟩
theorem ags(cs:C_ B_)(v:B_)(m:o.Model)(s:C_ Int)(ref:Int)(w:A_)(h:o.dV w cs m)(aK:m.cN)(aM:gB w)(an:ee w v s) :
  a7 Tryz.prog F.GV #[.agg cs.toArray,v,.int .i64 ref] w fun u w'=>(∃t:Bool,u = .bool t/\Gw m s ref t)/\Ext w w':=by
 have dw:=h;obtain⟨cd,bw,bO,c1,bV,c2,b2,br,cj,bF,rfl,_⟩:=h.form;obtain⟨os,Dw,rfl,_⟩:=an.form;have no:∀{P:Prop},¬P->(false=true↔P):=fun h=>⟨fun k=>(by cases k),fun k=>absurd k h⟩;refine bn E.GV ?_;refine aa ?_;intro w1 b0 fW al bu;refine aa ?_;refine J_ (V7 _ _ m s w1 (dw.ext al) aK (aM.ext al) (an.ext Flat.ext al)) ?_;rintro _ aH ⟨dh,ao⟩;have aI:=al.trans ao;rcases dh with ⟨bE,b,rfl,gO⟩ | ⟨bE,ad,rfl⟩
 rotate_left
 .refine aa ?_;exact⟨⟨false,aU,no fun cU=>bE cU.1⟩,aI⟩
 refine aa ?_;refine J_ (agA b m ref aH gO) ?_;rintro _ aP ⟨⟨t,rfl,aB⟩,aj⟩;have ba:=aI.trans aj;cases t with
 | false =>
  refine aa ?_;exact⟨⟨false,aU,no fun cU=>by have:=aB.2 cU.2.1.2;cases this⟩,ba⟩
 | true =>
 have b3:o.Told m ref:=⟨bE.1,aB.1 rfl⟩;obtain⟨q,p,k,bC⟩:=o.o8 b3;refine aa ?_;refine J_ (Wt b _ m s ref q p k aP (gO.ext aj) (an.ext Flat.ext ba) bE.2 bC) ?_;rintro u aR ⟨⟨cm,dK⟩,aA⟩;obtain⟨ob,k5,rfl,_⟩:=(aW.jH jS dK.row).form;have lg:=dK.len;refine aa ?_;refine⟨⟨_,aU,?_⟩,ba.trans aA⟩;unfold Gw;rw[decide_eq_true_eq];constructor
 .intro BH;refine⟨bE,b3,fun eX gz k' xA ay=>?_⟩;obtain⟨rfl,rfl,rfl⟩:=bC.one xA
  have:o.jx m s q (o.bI m p k)=[]:=by unfold o.jx;rw[ay]
  have af:cm.length=0:=by rw[lg,this];rfl
  omega
 .rintro⟨_,_,ab⟩;have aD:=ab q p k bC;cases ah:o.hp m s q (o.bI m p k) with
  | none=>exact absurd ah aD
  | some t =>
   have:0<(o.jx m s q (o.bI m p k)).length:=by unfold o.jx;rw[ah];simp
   omega
theorem agr(cs:C_ B_)(v:B_)(m:o.Model)(s:C_ Int)(w:A_)(h:o.dV w cs m)(aK:m.cN)(aM:gB w)(an:ee w v s) :
  a7 Tryz.prog F.ga #[.agg cs.toArray,v] w fun u w'=>((o.hb m s/\eO w3 T.p 3 w.heap.size w' u (o.hT m s))\/(¬o.hb m s/\u = .slice none 0 0))/\Ext w w':=by
 have dw:=h;obtain⟨cd,bw,bO,c1,bV,c2,b2,br,cj,bF,rfl,_⟩:=h.form;obtain⟨os,Dw,rfl,_⟩:=an.form;refine bn E.ga ?_;refine aa ?_;intro w1 b0 fW al bu;refine aa ?_;refine J_ (V7 _ _ m s w1 (dw.ext al) aK (aM.ext al) (an.ext Flat.ext al)) ?_;rintro _ aH ⟨dh,ao⟩;have aI:=al.trans ao;rcases dh with ⟨bE,b,rfl,gO⟩ | ⟨bE,ad,rfl⟩
 rotate_left
 .refine aa ?_;exact⟨.inr ⟨bE,aU⟩,aI⟩
 refine aa ?_;refine J_ (agK b _ m s aH gO bE.1 (an.ext Flat.ext aI) bE.2) ?_;rintro u aP ⟨aL,aj⟩;obtain⟨aQ,fD,rfl,_⟩:=aL.form;refine aa ?_;exact⟨.inl ⟨bE,eO.low aI.size aL⟩,aI.trans aj⟩
structure aru(w:World)(vf n base:Nat)(bs:List Nat)(M:List (List Bool)):Prop where
 len:bs.length=M.length
 le:bs.length<=n
 row:w.heap[vf]? = some (.cells (bs.map (fun b=>Value.slice (some ⟨b,0,none⟩) n n)++List.replicate (n - bs.length) (Value.slice none 0 0)).toArray T.iP)
 rows:∀j (h:j<bs.length) (bd:j<M.length),w.heap[bs[j]]? = some (.cells (nQ M[j]).toArray T.n)/\M[j].length=n
 low:∀b∈bs,base<=b
end Go.Proofs.R
namespace o
open Go
theorem kf.mO{m:Model}{ref:Int}{a b:C_ Int}(h:kf m ref a b):a.Pairwise (· < ·)/\b.Pairwise (· < ·):=by
 by_cases aB:Told m ref
 .obtain⟨q,p,k,bC⟩:=o8 aB;obtain⟨h1,I⟩:=h.there q p k bC;exact⟨h1.mO,I.mO⟩
 .obtain⟨rfl,rfl⟩:=h.none aB;exact⟨List.Pairwise.nil,List.Pairwise.nil⟩
end o
end
section
namespace bb
open Go Go.RowKit
def afA(b:Bool):C_ B_:=[.bool b]
end bb
namespace Go.Proofs.R
open Go Go.RowKit bb
def aiM(n:Nat)(vs:Nat->H_ Addr×Nat×Nat):C_ B_:=(List.range n).map fun j=>ct (vs j)
structure arv(w:World)(vf n base:Nat)(vs:Nat->Option Addr×Nat×Nat)(xs:Nat->List Bool):Prop where
 head:w.heap[vf]? = some (.cells (aiM n vs).toArray T.iP)
 rows:ix afA T.n 1 base w n vs xs
end Go.Proofs.R
end
section
namespace bb
open Go Go.RowKit
section
variable{P:Program}{S:Fr}{w:World}
theorem gk.aoR{α:Type}{enc:α->B_}{g:G_}{p:Nat}{a b:eC}{Q:H_ Nat->ed->Fr->A_->Prop}{jz:Nat}{hJ:Array B_}{ij:A_->A_->Prop}{nL pJ:C_ α->Prop}{N:Nat}{w0:A_}
  (aK:aS S g = .func (.func jz) #[] hJ)(di:okF P jz=true)(s0:SeqStopsK Fence.wide 0 P jz hJ (fun x=>#[enc x]) ij nL pJ N w0)(he:Ext w0 w)(sQ:CR ij w.heap.size)
  (c5 Gh:C_ α->A_->Prop)(a8:OwnFrom w.heap.size c5)(M9:OwnFrom w.heap.size Gh)(af:c5 [] w)
  (ED:∀pre x W,c5 pre W->pre.length<N->dO P a (hY (fun tF iy=>KeepsFrom w.heap.size W iy/\ij W iy/\∀eP,tE w.heap.size iy eP ->
   dO P b (hY (fun _ b6=>KeepsFrom w.heap.size eP b6/\ij eP b6/\c5 (pre++[x]) b6) (fun e _ b6=>e = .ret/\KeepsFrom w.heap.size eP b6/\Gh (pre++[x]) b6) ⟨⟩) tF eP ⟨⟩) (fun _ _ _=>False) ⟨⟩) (bW S p (enc x)) W ⟨⟩)
  (zp:∀D xs W,w.heap.size<=D->nL xs->c5 xs W->W.heap[D]? = some (.deferred (some []))->Q (some D) .normal S W)
  (akf:∀D xs W,w.heap.size<=D->Gh xs W->W.heap[D]? = some (.deferred (some []))->Q (some D) .ret S W):oe P (.ts g p a b) Q S w:=by
 refine⟨α,enc,jz,hJ,ij,nL,pJ,N,w0,aK,di,s0,he,sQ,c5,fun e xs W=>e = .ret/\Gh xs W,a8,fun e s A B row an qN aL=>⟨an.1,M9 s A B row an.2 qN aL⟩,af,fun pre x W U aF=>?_,zp,fun D e pre W _ h4 _ h a6=>?_⟩
 .have h:=ED pre x W U aF;unfold dO hY at h;refine pz a _ _ _ W (fun e tF iy _ h1=>?_) h;cases e with
  | normal =>
   obtain⟨cC,cS,eT⟩:=h1;refine⟨cC,cS,fun eP aL=>?_⟩;have I:=eT eP aL;refine pz b _ _ _ eP (fun e kB nN _ ab=>?_) I;cases e with
   | normal=>exact ab
   | exit _=>exact absurd ab.1 (by simp)
   | ret=>exact⟨ab.2.1,rfl,ab.2.2⟩
   | gf _=>exact absurd ab.1 (by simp)
  | exit _=>exact h1.elim
  | ret=>exact h1.elim
  | gf _=>exact h1.elim
 .obtain⟨rfl,U⟩:=h;exact akf D pre W h4 U a6
theorem gk.hB{β:Type}{a:eC}{b:sm}{Q:H_ Nat->ed->Fr->A_->Prop}(cz:C_ Nat)(M:β->C_ (Nat×B_))(N:β->A_->Prop)(h1:dO P a (hY (fun fE bK => ∃x,Has fE (M x)/\N x bK) (Q none) ⟨⟩) S w ⟨⟩)
  (I:∀x aX w',N x w'->oe P b Q (uL (M x) (uu S cz aX)) w')(a6:(cz.all fun t => !a.fG.contains t)=true:=by rfl):oe P (.iJ a b) Q S w:=by
 unfold dO hY at h1;show ec P a (uO (fun S w=>oe P b Q S w) (Q none)) S w;refine pz a _ _ _ w (fun e tF iy hk h=>?_) h1;cases e with
 | normal =>
  obtain⟨x,a1,fV⟩:=h;have h:=I x tF iy fV;rw[EU cz fun t aB=>hk t (Ki a6 t aB),FF _ a1] at h;exact h
 | exit _=>exact h
 | ret=>exact h
 | gf _=>exact h
theorem mn.mod{hK:Nat}{cz:C_ F_}{W b6:A_}(h:mn hK cz W b6):Mod (fun k => ¬∃c t f,W.heap[k]? = some (.cells c t f)/\t∈cz) W b6 :=
 ⟨h.1.os,h.1.tape,h.1.output,h.1.size,fun k _ ay=>by
  obtain⟨c,t,f,h1,I⟩:=Classical.not_not.1 ay;exact h.2 k c t f h1 I⟩
theorem mn.ext{w:A_}{cz:C_ F_}{W b6:A_}(h:mn w.heap.size cz W b6)(he:Ext w W):Ext w b6:=Below.trans he h.1
theorem mn.own{α:Type}{enc:α->C_ B_}{e:F_}{sz base hK:Nat}{cz:C_ F_}{W b6:A_}{v:B_}{xs:C_ α}(h:mn hK cz W b6)(aM:aW enc e sz base W v xs)(he:e∈cz):aW enc e sz base b6 v xs :=
 aM.mod h.mod fun k hk a=>by
  obtain⟨cur,ah⟩:=aM.cu k hk;exact a ⟨_,_,_,ah,he⟩
theorem mn.obj{hK:Nat}{cz:C_ F_}{W b6:A_}(h:mn hK cz W b6){k:Nat}{c:Array B_}{t:F_}{f:Nat×Nat}(hk:W.heap[k]? = some (.cells c t f))(aB:t∈cz):b6.heap[k]? = some (.cells c t f):=(h.2 k c t f hk aB).trans hk
end
end bb
end
section
namespace o
open Go
abbrev C4(m:Model)(q l:Int):={i:Nat // i<(refs m).length/\nH m q l i}
end o
namespace Go.Proofs.R
open Go Go.RowKit bb
abbrev agQ:C_ F_:=[T.i,T.e,T.a,T.g]
theorem agR{oO w0:A_}{cK mY o3:Nat}{cs:C_ B_}{m:o.Model}{q l:Int}(ni:w0.heap[cK]? = some (.cells cs.toArray T.g))(Xx:w0.heap[mY]? = some (.cells #[.int .i64 q] T.a))(dR:w0.heap[o3]? = some (.cells #[.int .i64 l] T.a))
  (h:o.dV oO cs m)(p3:Ext oO w0)(aK:m.cN)(gb:(o.check m).cA=0) :
  SeqStopsK Fence.wide 0 Tryz.prog F.ac #[.pointer (some ⟨cK,0,none⟩),.pointer (some ⟨mY,0,none⟩),.pointer (some ⟨o3,0,none⟩)] (fun x:o.C4 m q l=>#[.int .i64 (x.1:Nat)]) (mn oO.heap.size agQ) (fun xs => ∀i,o.nH m q l i->i∈xs.map Subtype.val) (fun _=>True) (o.refs m).length w0:=by
 intro wm iO Lv W ak qJ ahz bS IJ;have Bz:Ext oO W:=p3.trans ak;have Xw:=Ext.obj (w:=w0) ak ni;have XA:=Ext.obj (w:=w0) ak Xx;have Xt:=Ext.obj (w:=w0) ak dR;have dw:=h;have jU:=o.ir gb;have kr:=o.yh jU.lim;obtain⟨cd,bw,bO,c1,bV,c2,b2,br,cj,bF,rfl,af,h1,I,ab,aD,eU,ek,ev,ef,ew⟩:=h.form;refine callsIn_wide.2 (Calls.mono (show a7 Tryz.prog F.ac #[.func (.yield wm) #[] #[],.pointer (some ⟨cK,0,none⟩),.pointer (some ⟨mY,0,none⟩),.pointer (some ⟨o3,0,none⟩)] W (fun _ b6=>(∃xs,(∀i,o.nH m q l i->i∈xs.map Subtype.val)/\iO xs b6)\/(∃pre:C_ (o.C4 m q l),True/\Lv pre b6)) from ?_) fun e b6 ⟨v,bt,aI⟩=>⟨⟨v,bt⟩,aI⟩);have Bp:∀{pre:C_ (o.C4 m q l)} {w w':A_},iO pre w->Ext w w'->iO pre w':=fun {pre w w'} aE e=>qJ pre w w' none aE e.Wx (fun r e=>by cases e);clear ni Xx dR;refine bn E.ac ?_;refine aa ?_;refine J_ (v7 _ m W (dw.ext Bz) aK) ?_;rintro bM w1 ⟨fp,al⟩;obtain⟨cx,ci,rfl,_⟩:=fp.form;have bt:=Bz.trans al;refine aa ?_;refine J_ (yi _ m w1 (dw.ext bt) jU.lim) ?_;rintro lS aH ⟨n0,ao⟩;obtain⟨gR,pP,rfl,_⟩:=n0.form;have aI:=bt.trans ao;have sM:=al.trans ao;have Iu:=sM.obj Xw;have Iv:=sM.obj XA;have It:=sM.obj Xt;have YB:=fp.ext ao;have l7:=Bp IJ sM;clear Xw XA Xt fp IJ;refine aa ?_;refine L_ 13 (o.refs m).length [0,1,2,3,5,11,12] (fun _=>[]) ([]:C_ (o.C4 m q l)) (fun k pre w'=>(Ext oO w'/\w'.heap[cK]? = aH.heap[cK]? /\ w'.heap[mY]? = aH.heap[mY]? /\ w'.heap[o3]? = aH.heap[o3]? /\ aW o.cZ.enc T.e 2 W.heap.size w' (.slice cx (o.insts m).length ci) (o.insts m)/\aW o.Ref.enc T.i 2 w1.heap.size w' (.slice gR (o.refs m).length pP) (o.refs m)/\iO pre w')/\pre.length<=k/\∀i,i<k->o.nH m q l i->i∈pre.map Subtype.val) bc bc
  ⟨⟨aI,rfl,rfl,rfl,YB,n0,l7⟩,Nat.le_refl _,fun i h=>absurd h (Nat.not_lt_zero _)⟩ ?_
 rintro k pre S aP hk ⟨⟨ba,NG,NL,ND,OX,O0,xP⟩,rQ,e9⟩;rw[Iu] at NG;rw[Iv] at NL;rw[It] at ND;refine aa ?_;apply I_<;>intro g1;rotate_left
 .refine aa ?_;exact .inl ⟨pre,fun i U=>e9 i (by have:=U.lt;omega) U,xP⟩
 have cH:k<(o.refs m).length:=by omega
 have k7:bh 2 (Flat o.Ref.enc) aP _ _:=aW.iv (enc:=o.Ref.enc) (fun _=>rfl) O0;have WM:ke aP _ (o.insts m):=aW.iv (enc:=o.cZ.enc) (fun _=>rfl) OX;obtain⟨kD,rfl⟩:=k7.addr;obtain⟨eX,gz,k',bC⟩:=o.o8 (m:=m) (ref:=k) ⟨gb,by omega,by omega⟩;have gD:(o.refs m)[k].inst=(eX:Int):=bC.at_.pw;have rS:(o.refs m)[k].cmd=(k':Int):=bC.at_.uH;have NW:=o.Wr (q:=q) (l:=l) bC;have gC:=k7.at k cH;obtain⟨x,ag⟩:∃x,x=(o.refs m)[k]:=⟨_,rfl⟩;rw[<-ag] at gD rS gC;have gC:e0 aP (kD.add (k*2)) x.enc:=gC;unfold o.Ref.enc at gC;refine aa ?_;intro wn ho h6 fm eQ;refine aa ?_;intro aR du c9;replace c9:aR.heap[ho]? = some (.cells #[.int .i64 x.inst,.int .i64 x.cmd] T.i):=by rw[ag];exact c9
 have aA:Ext aP aR:=du.ext fm h6;have bG:=ba.trans aA;have Xu:=aA.obj NG;have Xy:=aA.obj NL;have Xr:=aA.obj ND;have WN:=WM.ext Flat.ext aA;clear eQ fm NG NL ND;refine aa ?_;intro bq aJ;have bU:=bG.trans aJ;have NH:=aJ.obj Xu;have NM:=aJ.obj Xy;have NF:=aJ.obj Xr;have Eb:=aJ.obj c9;have WO:=WN.ext Flat.ext aJ;have Lo:=aA.trans aJ;have Ep:=Bp xP Lo;have OY:=OX.ext Lo;have O1:=O0.ext Lo;clear Xu Xy Xr c9 WN OX O0;have skip:¬o.nH m q l k->∀i,i<k+1->o.nH m q l i->i∈pre.map Subtype.val:=fun ay i U ax=>by
  rcases Nat.lt_or_ge i k with h | h
  .exact e9 i h ax
  .obtain rfl:i=k:=by omega
   exact absurd ax ay
 refine aa ?_;apply I_<;>intro g2;rotate_left
 .refine aa ?_;exact⟨cH,aU,pre,trivial,⟨bU,NH.trans Iu.symm,NM.trans Iv.symm,NF.trans It.symm,OY,O1,Ep⟩,by omega,skip fun ax=>by rw[NW] at ax;omega⟩
 refine aa ?_;have eo:a7 Tryz.prog F.g #[.agg #[.slice cd m.scalars.length bw,.slice bO m.vars.length c1,.slice bV m.aw.length c2,.slice b2 m.procs.length br,.slice cj m.props.length bF],.slice cx (o.insts m).length ci,.agg #[.int .i64 x.inst,.int .i64 x.cmd]] bq fun u w'=>(∃gy ga aQ fD,u = .agg #[.string (o.bI m gz k').name,.int .i64 (o.bI m gz k').from_,.int .i64 (o.bI m gz k').to,.slice gy (o.bI m gz k').guard.length ga,.slice aQ (o.bI m gz k').bY.length fD,.bool (o.bI m gz k').fair])/\Ext bq w':=(Vy _ _ m k eX gz k' bq (dw.ext bU) WO bC x gD rS).mono fun u w' ⟨⟨gu,ea,hu,ay,aV⟩,hR⟩=>by
  obtain⟨gy,ga,rfl,_⟩:=ay.form;obtain⟨aQ,fD,rfl,_⟩:=aV.form;exact⟨⟨gy,ga,aQ,fD,hu⟩,hR⟩
 refine J_ eo ?_;clear eo;rintro _ bB ⟨⟨gy,ga,aQ,fD,rfl⟩,aT⟩;have c8:=bU.trans aT;have BM:=Bp Ep aT;have Xv:=aT.obj NH;have Xz:=aT.obj NM;have Xs:=aT.obj NF;have YC:=OY.ext aT;have EK:=O1.ext aT;refine⟨aT,?_⟩;clear NH NM NF Eb OY O1 WO k7 WM gC;refine aa ?_;refine _A (v:=.int .i64 (o.bI m gz k').from_) rfl ?_;refine aa ?_;apply I_<;>intro g3;rotate_left
 .refine aa ?_;exact⟨cH,aU,pre,trivial,⟨c8,Xv.trans Iu.symm,Xz.trans Iv.symm,Xs.trans It.symm,YC,EK,BM⟩,by omega,skip fun ax=>by rw[NW] at ax;omega⟩
 have ax:o.nH m q l k:=NW.2 ⟨by omega,g3⟩;refine aa ?_;refine _y (bS pre ⟨k,cH,ax⟩ bB BM (by omega)) ?_;rintro e bQ (⟨rfl,N8,zv⟩ | ⟨rfl,N8⟩)
 .refine⟨.bool true,rfl,?_⟩;refine aa ?_;refine⟨cH,aU,pre++[⟨k,cH,ax⟩],trivial,⟨zv.ext c8,(zv.obj Xv (by decide)).trans Iu.symm,(zv.obj Xz (by decide)).trans Iv.symm,(zv.obj Xs (by decide)).trans It.symm,zv.own YC (by decide),zv.own EK (by decide),N8⟩,by simp;omega,fun i U NY=>?_⟩;rw[List.map_append,List.mem_append];rcases Nat.lt_or_ge i k with h | h
  .exact .inl (e9 i h NY)
  .obtain rfl:i=k:=by omega
   exact .inr (by simp)
 .refine⟨.bool false,rfl,?_⟩;refine aa ?_;exact .inr ⟨_,trivial,N8⟩
theorem alU(x:o.Ref)(mY:Nat)(q:Int)(w:A_)(h:w.heap[mY]? = some (.cells #[.int .i64 q] T.a)) :
  a7 Tryz.prog F.y #[.agg #[.int .i64 x.inst,.int .i64 x.cmd],.pointer (some ⟨mY,0,none⟩)] w fun v w'=>v = .bool (!decide (x.inst=q))/\Ext w w':=by
 refine bn E.y ?_;refine aa ?_;intro w1 bo cT al ai;have Yq:=al.obj h;refine aa ?_;exact⟨aU,al⟩
theorem agP(cs:C_ B_)(m:o.Model)(q l:Int)(w:A_)(h:o.dV w cs m) :
  a7 Tryz.prog F.a5 #[.agg cs.toArray,.int .i64 q,.int .i64 l] w fun v w'=>(∃cK mY o3,v = .func (.func F.ac) #[] #[.pointer (some ⟨cK,0,none⟩),.pointer (some ⟨mY,0,none⟩),.pointer (some ⟨o3,0,none⟩)]/\w'.heap[cK]? = some (.cells cs.toArray T.g)/\w'.heap[mY]? = some (.cells #[.int .i64 q] T.a)/\w'.heap[o3]? = some (.cells #[.int .i64 l] T.a))/\Ext w w':=by
 obtain⟨cd,bw,bO,c1,bV,c2,b2,br,cj,bF,rfl,_⟩:=h.form;refine bn E.a5 ?_;refine aa ?_;intro w1 b0 fW al ai;refine aa ?_;intro aH cF fy ao av;refine aa ?_;intro aP dx k9 aj bu;refine aa ?_;exact⟨⟨_,_,_,aU,(ao.trans aj).obj ai,aj.obj av,bu⟩,(al.trans ao).trans aj⟩
def acG(m:o.Model)(q:Int)(L:C_ (C_ Int×C_ Int))(i:Nat):Prop := ∀j (aE:j<(o.refs m).length),(o.refs m)[j].inst≠q->∀x y,L[i]? = some x->L[j]? = some y->¬o.sj x.1 x.2 y.1 y.2
theorem afb(cs:C_ B_)(m:o.Model)(q l:Int)(w:A_)(h:o.dV w cs m)(aK:m.cN)(aM:gB w) :
  a7 Tryz.prog F.qB #[.agg cs.toArray,.int .i64 q,.int .i64 l] w fun u w'=>(∃t,u = .bool t/\o.ot m q l t)/\Ext w w':=by
 have dw:=h;obtain⟨cd,bw,bO,c1,bV,c2,b2,br,cj,bF,rfl,af,h1,I,ab,aD,eU,ek,ev,ef,ew⟩:=h.form;refine gk.start lj CO.qB (args:=[_,_,_]) (Nat.le_of_ble_eq_true rfl) ?_;dsimp only[D.qB,ae,cf,js,bD,ez,bN,cb,e6,bT,aq,fe,bl,bp,dE,ys,j2,cv,cp,qh,fU,gZ,oR,oj,cJ,jL,h0,pC,Lg,CE,nC,uS,uR,rf,lz,wO,List.map_cons,List.map_nil];refine gk.iJ ?_;refine aa ?_;intro w1 b0 fW al bu;refine aa ?_;intro aH cF fy ao bH;refine aa ?_;intro aP dP fX aj b4;have ba:=(al.trans ao).trans aj;replace bu:=(ao.trans aj).obj bu;replace bH:=aj.obj bH;have j1:=al.size;have jK:=ao.size;have vC:w.heap.size<=dP:=by omega
 refine aa ?_;refine gk.iJ ?_;refine aa ?_;refine J_ (x9 _ m aP (dw.ext ba) aK (aM.ext ba)) ?_;rintro _ aR ⟨rfl,aA⟩;replace bu:=aA.obj bu;replace bH:=aA.obj bH;replace b4:=aA.obj b4;have bG:=ba.trans aA;refine aa ?_;refine _A (v:=.int .i64 (o.check m).cA) rfl ?_;refine aa ?_;apply I_<;>intro g1;rotate_left
 .refine aa ?_;intro bq fb cc;have aJ:=fb.ext bG vC;refine gk.DB ?_;refine aa ?_;exact⟨⟨false,aU,o.ot.no fun k=>g1 k.1⟩,aJ⟩
 have jU:=o.ir g1;have kr:=o.yh jU.lim;refine aa ?_;refine gk.hB [1,2,3,4,6] (fun x:(H_ Addr×Nat)×Nat=>[(7,.slice x.1.1 (o.insts m).length x.1.2),(8,.pointer (some ⟨x.2,0,none⟩))]) (fun x W=>(∃gR pP,W.heap[x.2]? = some (.cells #[.slice gR (o.refs m).length pP] T.c)/\sq W (.slice gR (o.refs m).length pP) (o.refs m))/\ke W (.slice x.1.1 (o.insts m).length x.1.2) (o.insts m)/\Ext aR W) ?_ ?_
 .have vL:∀{W},Ext aR W->a7 Tryz.prog F.b #[.agg #[.slice cd m.scalars.length bw,.slice bO m.vars.length c1,.slice bV m.aw.length c2,.slice b2 m.procs.length br,.slice cj m.props.length bF]] W fun v w'=>(∃cx ci,v = .slice cx (o.insts m).length ci/\aW o.cZ.enc T.e 2 W.heap.size w' v (o.insts m))/\Ext W w':=fun {W} he=>(v7 _ m W (dw.ext (bG.trans he)) aK).mono fun v w' ⟨aG,hR⟩=>by
   obtain⟨cx,ci,rfl,_⟩:=aG.form;exact⟨⟨cx,ci,rfl,aG⟩,hR⟩
  have OH:∀{W},Ext aR W->a7 Tryz.prog F.c #[.agg #[.slice cd m.scalars.length bw,.slice bO m.vars.length c1,.slice bV m.aw.length c2,.slice b2 m.procs.length br,.slice cj m.props.length bF]] W fun v w'=>(∃cx ci,v = .slice cx (o.refs m).length ci/\aW o.Ref.enc T.i 2 W.heap.size w' v (o.refs m))/\Ext W w':=fun {W} he=>(yi _ m W (dw.ext (bG.trans he)) jU.lim).mono fun v w' ⟨aG,hR⟩=>by
   obtain⟨cx,ci,rfl,_⟩:=aG.form;exact⟨⟨cx,ci,rfl,aG⟩,hR⟩
  have Qk:∀{W v base},aW o.cZ.enc T.e 2 base W v (o.insts m)->ke W v (o.insts m):=fun h=>aW.iv (enc:=o.cZ.enc) (fun _=>rfl) h;have Ql:∀{W v base},aW o.Ref.enc T.i 2 base W v (o.refs m)->sq W v (o.refs m):=fun h=>aW.iv (enc:=o.Ref.enc) (fun _=>rfl) h;refine aa ?_;intro bq aJ;replace bu:=aJ.obj bu;refine aa ?_;refine⟨?_,?_⟩
  .refine J_ (vL aJ) ?_;rintro _ bB ⟨⟨cx,ci,rfl,a8⟩,aT⟩;have c8:=aJ.trans aT;refine⟨aT,?_⟩;refine aa ?_;refine⟨?_,?_⟩
   .refine J_ (OH c8) ?_;rintro _ bQ ⟨⟨gR,pP,rfl,bE⟩,bz⟩;have dQ:=c8.trans bz;refine aa ?_;intro de iR oC bP c4;refine⟨(aT.trans bz).trans bP,?_⟩;refine aa ?_;intro dc hG dX;have ck:=hG.ext bP oC;refine aa ?_;exact⟨((cx,ci),iR),⟨aU,aU,trivial⟩,⟨_,_,dX,Ql (bE.ext ck)⟩,Qk (a8.ext (bz.trans ck)),dQ.trans ck⟩
   .refine O_ ?_;intro bQ iR oC bz c4;refine⟨aT.trans bz,?_⟩;have dQ:=c8.trans bz;refine aa ?_;refine J_ (OH dQ) ?_;rintro _ de ⟨⟨gR,pP,rfl,bE⟩,bP⟩;have Bx:=c4;replace c4:=bP.obj c4;refine aa ?_;intro dc hG dX;have ck:Ext bB dc:=hG.ext (bz.trans bP) oC;have Pt:=cy Bx;refine aa ?_;exact⟨((cx,ci),iR),⟨aU,aU,trivial⟩,⟨_,_,dX,Ql (bE.wr hG Pt)⟩,Qk (a8.ext ck),c8.trans ck⟩
  .refine O_ ?_;intro bB iR oC aT c4;have c8:=aJ.trans aT;refine⟨aT,?_⟩;refine aa ?_;refine J_ (vL c8) ?_;rintro _ bQ ⟨⟨cx,ci,rfl,a8⟩,bz⟩;have dQ:=c8.trans bz;refine⟨aT.trans bz,?_⟩;refine aa ?_;refine J_ (OH dQ) ?_;rintro _ de ⟨⟨gR,pP,rfl,bE⟩,bP⟩;have Nx:=c4;have Bx:=bz.obj c4;replace c4:=(bz.trans bP).obj c4;refine aa ?_;intro dc hG dX;have alp:=cy Nx;have Pt:=cy Bx;have ck:Ext bq dc:=hG.ext ((aT.trans bz).trans bP) oC;refine aa ?_;exact⟨((cx,ci),iR),⟨aU,aU,trivial⟩,⟨_,_,dX,Ql (bE.wr hG Pt)⟩,Qk ((a8.ext bP).wr hG alp),aJ.trans ck⟩
 rintro⟨⟨cx,ci⟩,iR⟩ S bq ⟨⟨gR,pP,c4,bE⟩,a8,aJ⟩;dsimp only at c4 a8;replace bu:=aJ.obj bu;replace bH:=aJ.obj bH;replace b4:=aJ.obj b4;have bU:=bG.trans aJ;refine gk.iJ ?_;have bad:∀{W:A_} {aX:Fr},Ext bq W->¬o.oT m q l->True:=fun _ _=>trivial;have as6:=cy b4;refine aa ?_;apply I_<;>intro g2
 .refine aa ?_;intro bB aT;replace b4:=aT.obj b4;refine aa ?_;intro bQ dT c9;refine gk.DB ?_;refine aa ?_;exact⟨⟨false,aU,o.ot.no fun k=>by have:=k.aO;omega⟩,dT.ext (bU.trans aT) vC⟩
 refine aa ?_;apply I_<;>intro g3
 .refine aa ?_;intro bB aT;replace b4:=aT.obj b4;refine aa ?_;intro bQ dT c9;refine gk.DB ?_;refine aa ?_;exact⟨⟨false,aU,o.ot.no fun k=>by have:=k.aO;omega⟩,dT.ext (bU.trans aT) vC⟩
 refine aa ?_;apply I_<;>intro g4
 .refine aa ?_;intro bB aT;replace b4:=aT.obj b4;refine aa ?_;intro bQ dT c9;refine gk.DB ?_;refine aa ?_;exact⟨⟨false,aU,o.ot.no fun k=>by have:=k.aO;omega⟩,dT.ext (bU.trans aT) vC⟩
 obtain⟨q3,rfl⟩:=Int.eq_ofNat_of_zero_le (show 0<=q by omega);have au:q3<(o.insts m).length:=by omega
 obtain⟨p,hIn⟩:=o.BY au;have ar:=hIn.ar;have pg:=hIn.eq;obtain⟨iP,rfl⟩:=a8.addr;obtain⟨a3,rfl⟩:=ab.addr;obtain⟨lM,b7,ec,dD,e2,fO⟩:=ab.at p ar;obtain⟨e4,fL,rfl,_⟩:=e2.form;obtain⟨Fi,Dq,rfl,EY⟩:=fO.form;unfold o.dz.enc at dD;have Ym:=dD.ext bU;refine aa ?_;refine K_ p (by rw[pg]) ar ?_;refine aa ?_;intro bB aT;replace bu:=aT.obj bu;replace bH:=aT.obj bH;replace b4:=aT.obj b4;replace c4:=aT.obj c4;have tX:=bE.ext Flat.ext aT;have c8:=bU.trans aT;apply I_<;>intro g5
 .refine aa ?_;intro bQ dT c9;refine gk.DB ?_;refine aa ?_;exact⟨⟨false,aU,o.ot.no fun k=>by have:=k.lt hIn;omega⟩,dT.ext c8 vC⟩
 have dh:o.oT m q3 l:=o.EZ g1 hIn (by omega) (by omega);clear dD Ym a8 bE;refine aa ?_;refine gk.iJ ?_;refine aa ?_;refine J_ (aqC _ m bB (dw.ext c8) aK (aM.ext c8) jU.lim) ?_;rintro _ bQ ⟨⟨L,base,k8,rH,asb,Ng⟩,bz⟩;obtain⟨atJ,arO,rfl,_⟩:=Ng.form;have Ig:bh 2 TL bQ _ L:=Ng.jH;have ahV:=k8.len;have dQ:=c8.trans bz;replace bu:=bz.obj bu;replace bH:=bz.obj bH;replace b4:=bz.obj b4;replace c4:=bz.obj c4;have ahM:=tX.ext Flat.ext bz;clear Ng tX;refine aa ?_;intro wn j7 l4 fm eQ;refine aa ?_;intro de iH dX;have bP:Ext bQ de:=iH.ext fm l4;clear eQ;have gm:=dQ.trans bP;replace bu:=bP.obj bu;replace bH:=bP.obj bH;replace b4:=bP.obj b4;replace c4:=bP.obj c4;refine aa ?_;refine gk.tu (gk.iJ ?_);refine aa ?_;refine J_ (agP _ m q3 l de (dw.ext gm)) ?_;rintro _ dc ⟨⟨cK,mY,o3,rfl,aiT,aiU,lI⟩,ck⟩;have jQ:=gm.trans ck;replace bH:=ck.obj bH;replace b4:=ck.obj b4;replace c4:=ck.obj c4;replace dX:=ck.obj dX;have ahN:=ahM.ext Flat.ext (bP.trans ck);have afn:=bP.trans ck;clear bu;have Aq:=cy b4;have z4:=cy bH;have acu:=cy c4;have z9:=cy dX;refine aa ?_;refine gk.cu (gk.aoR (w0:=dc) (enc:=fun x:o.C4 m q3 l=>.int .i64 (x.1:Nat)) (by simp[dp,bL]) (by kernel_rfl) (agR aiT aiU lI h jQ aK g1) (Ext.refl _) (mn.ok _ jQ.size)
  (fun pre W=>Ext dc W/\∀x∈pre,acG m q3 L x.1) (fun _ W=>Mod (fun k=>k=dP) dc W/\W.heap[dP]? = some (.cells #[.bool false] T.n)/\¬o.Az m L q3 l) ?_ ?_ ⟨Ext.refl _,fun x ag=>by cases ag⟩ ?_ ?_ ?_)
 .rintro pre W b6 row ⟨he,DT⟩ qN aL;exact⟨he.grown qN fun k hk=>(aL k hk).1,DT⟩
 .rintro _ W b6 row ⟨hm,ah,ay⟩ qN aL;have fA:Mod (fun k=>row=some k) W b6:=Mod.grown qN fun k hk=>hk;refine⟨hm.comp fA (fun _ _ a=>a) fun k hk a=>?_,fA.obj (fun a=>?_) ah,ay⟩
  .have:=(aL k a).1;omega
  .have:=(aL dP a).1;omega
 .rintro pre x W ⟨sT,DT⟩ ch;refine eh ?_;refine⟨(Ext.refl W).keeps _,(Ext.refl W).ib (Nat.le_trans jQ.size sT.size),fun eP vT=>?_⟩;have ao:Ext dc eP:=vT.ext sT (Nat.le_refl _);have hy:=ao.obj bH;have Cc:=ao.obj c4;have Qg:=ao.obj dX;have ahL:=ahN.ext Flat.ext ao;have s5:=x.2.1;have Ja:x.1<L.length:=by omega
  have WY:sq eP _ (o.refs m):=ahL;have ar6:=Ig;have acC:=afn.trans ao;obtain⟨arB,rfl⟩:=Ig.addr;obtain⟨j0,kX,kM,akH,akI⟩:=Ig.at x.1 Ja;obtain⟨anX,anY⟩:=(k8.is x.1 Ja).mO;refine aa ?_;refine L_ 58 (o.refs m).length [4,6,9,10,11,56,57] (fun _:Unit=>[]) () (fun j _ b6=>Ext eP b6/\∀k,k<j->∀(hk:k<(o.refs m).length),(o.refs m)[k].inst≠(q3:Int)->∀y,L[k]? = some y->¬o.sj L[x.1].1 L[x.1].2 y.1 y.2) bc bc ⟨Ext.refl _,fun k h=>absurd h (Nat.not_lt_zero _)⟩ ?_;rintro j _ kB eY aE ⟨cG,Yh⟩;refine aa ?_;apply I_<;>intro g6;rotate_left
  .refine aa ?_;refine⟨cG.keeps _,cG.ib (Nat.le_trans jQ.size ao.size),ao.trans cG,fun v aG=>?_⟩;rcases List.mem_append.1 aG with aG | aG
   .exact DT v aG
   .rw[List.mem_singleton] at aG;subst aG;intro k hk cw a b aV ak;rw[List.getElem?_eq_getElem Ja] at aV;injection aV with aV
    subst aV;exact Yh k (by omega) hk cw b ak
  have IL:j<(o.refs m).length:=by omega
  have IK:j<L.length:=by omega
  obtain⟨kD,rfl⟩:=WY.addr;have gC:=(WY.ext Flat.ext cG).at j IL;obtain⟨r,aL⟩:∃r,r=(o.refs m)[j]:=⟨_,rfl⟩;rw[<-aL] at gC;have gC:e0 eY (kD.add (j*2)) r.enc:=gC;unfold o.Ref.enc at gC;have next:∀{W},Ext eP W->(r.inst≠(q3:Int)->¬o.sj L[x.1].1 L[x.1].2 L[j].1 L[j].2)->Ext eP W/\∀k,k<j+1->∀(hk:k<(o.refs m).length),(o.refs m)[k].inst≠(q3:Int)->∀y,L[k]? = some y->¬o.sj L[x.1].1 L[x.1].2 y.1 y.2:=fun e ay=>⟨e,fun k hk Od cw y bS=>by
   rcases Nat.lt_or_ge k j with h | h
   .exact Yh k h Od cw y bS
   .obtain rfl:k=j:=by omega
    rw[List.getElem?_eq_getElem IK] at bS;injection bS with bS
    subst bS;exact ay (by rw[aL];exact cw)⟩
  have aaC:=cG.obj hy;have aaD:=cG.obj Qg;refine aa ?_;intro wn vd Np fm eQ;refine aa ?_;intro gw ia kL;replace kL:gw.heap[vd]? = some (.cells #[.int .i64 r.inst,.int .i64 r.cmd] T.i):=by first | exact kL | (rw[aL];exact kL)
  have e8:Ext eY gw:=ia.ext fm Np;have an3:=e8.obj aaC;have atT:=e8.obj aaD;have se:=cG.trans e8;clear eQ gC aaC aaD;have call:∀{w':A_},Ext gw w'->a7 Tryz.prog F.y #[.agg #[.int .i64 r.inst,.int .i64 r.cmd],.pointer (some ⟨cF,0,none⟩)] w' fun v bK=>v = .bool (!decide (r.inst=(q3:Int)))/\Ext w' bK:=fun e=>alU r cF q3 _ (e.obj an3);by_cases g7:r.inst=(q3:Int)
  .refine aa ?_;refine _u (.bool false) (fun w' e=>_e (first:=[]) (cap:=[.pointer (some ⟨cF,0,none⟩)]) (by kernel_rfl) (call e) fun v bK ⟨h1,I⟩=>⟨by rw[h1,decide_eq_true g7];rfl,I⟩) ?_;refine aa ?_;intro jr fz;refine aa ?_;exact⟨IL,aU,(),trivial,next (se.trans fz) fun h=>absurd g7 h⟩
  .obtain⟨j1,jK,aiB,akM,akN⟩:=Ig.at j IK;obtain⟨an0,an1⟩:=(k8.is j IK).mO;have Aw:=acC.trans se;have asA:=kM.ext Aw;have asB:=aiB.ext Aw;refine aa ?_;refine _u (.bool true) (fun w' e=>_e (first:=[]) (cap:=[.pointer (some ⟨cF,0,none⟩)]) (by kernel_rfl) (call e) fun v bK ⟨h1,I⟩=>⟨by rw[h1,decide_eq_false g7];rfl,I⟩) ?_;refine aa ?_;refine P_ (.bool (decide (o.sj L[x.1].1 L[x.1].2 L[j].1 L[j].2))) (fun w' e=>amT j0 kX j1 jK _ _ _ _ w' (akH.ext Flat.ext (Aw.trans e)) (akI.ext Flat.ext (Aw.trans e)) (akM.ext Flat.ext (Aw.trans e)) (akN.ext Flat.ext (Aw.trans e)) anX anY an0 an1) ?_;refine aa ?_;intro jr fz;have pE:=se.trans fz;have atS:=(ao.trans pE).obj b4;apply I_<;>intro g8
   .refine aa ?_;intro nA jX ah9;have sX:Mod (fun k=>k=dP) jr nA:=jX.mod rfl;refine aa ?_;refine⟨aU,?_,?_,ah9,fun aF=>aF x.1 x.2.2 j IL (by rw[<-aL];exact g7) _ _ (List.getElem?_eq_getElem Ja) (List.getElem?_eq_getElem IK) g8⟩
    .exact⟨Nat.le_trans pE.size sX.size,fun k ad km hk ah=>sX.obj (fun a=>by subst a;omega) (pE.obj hk)⟩
    .exact Mod.comp (A':=fun k=>k=dP) (ao.trans pE).mod sX (fun _ _ a=>a) fun k hk a=>a
   .refine aa ?_;exact⟨IL,aU,(),trivial,next pE fun _=>g8⟩
 .rintro D xs W h4 bZ ⟨sT,DT⟩ a6;have uG:=sT.obj b4;refine aa ?_;intro eY oI ko;have H9:D≠dP:=by omega
  refine gk.ret (oI.obj a6 H9) ?_;have an:dn D eY (fr eY D (.deferred none)):=dn.fr _ _ _;have aaB:=an.obj ko (Ne.symm H9);have ahE:o.Az m L q3 l:=fun i U j aE cw x y ag bS=>by
   obtain⟨v,aG,rfl⟩:=List.mem_map.1 (bZ i U);exact DT v aG j aE cw x y ag bS
  refine aa ?_;exact⟨⟨true,aU,o.ot.of dh k8 ⟨fun _=>ahE,fun _=>rfl⟩⟩,an.ext (oI.ext (jQ.trans sT) vC) (Nat.le_trans jQ.size h4)⟩
 .rintro D xs W h4 ⟨hm,ah,ay⟩ a6;have H9:D≠dP:=by omega
  refine aa ?_;refine gk.ret a6 ?_;have an:dn D W (fr W D (.deferred none)):=dn.fr _ _ _;have aaB:=an.obj ah (Ne.symm H9);refine aa ?_;exact⟨⟨false,aU,o.ot.of dh k8 ⟨(fun h=>by cases h),fun h=>absurd h ay⟩⟩,an.ext (hm.ext jQ fun k hk a=>by omega) (Nat.le_trans jQ.size h4)⟩
end Go.Proofs.R
end
section
namespace bb
open Go Go.RowKit
theorem aeg{w:A_}{b:Nat}{v:B_}{e:F_}{a:Addr}{n:Int}(ak:w.heap[b]? = some (.cells #[v] e))(aG:∀k:Int,v≠.int .i64 k)(h:w.cell? a=some (.int .i64 n)):a.block≠b:=fun he=>by
 unfold World.cell? at h;rw[he,ak] at h;simp only at h;cases an:a.spot with
 | some x=>simp[an] at h
 | none =>
  simp[an] at h
  have:a.off=0:=by
   cases aM:a.off with
   | zero=>rfl
   | succ k=>rw[aM] at h;simp at h
  rw[this] at h;simp at h;exact aG n h
theorem KH{α:Type}{enc:α->C_ B_}{sz b:Nat}{w w':A_}{v u:B_}{e:F_}{xs:C_ α}(hint:∀x,∀y∈enc x,∃n,y = .int .i64 n)(h:bh sz (Flat enc) w v xs)(ak:w.heap[b]? = some (.cells #[u] e))(hu:∀k:Int,u≠.int .i64 k)(hw:dn b w w'):bh sz (Flat enc) w' v xs:=by
 obtain⟨aQ,cap,bt,h1,I,ab,aD⟩:=h;refine⟨aQ,cap,bt,h1,I,ab,fun a aV i U j y aE=>?_⟩;have ah:=aD a aV i U j y aE;obtain⟨n,rfl⟩:=hint _ y (List.mem_of_getElem? aE);exact hw.cell ah (aeg ak hu ah)
end bb
namespace Go.Proofs.R
open Go Go.RowKit bb
theorem Z0(x:Int):∀y∈cR x,∃n,y = .int .i64 n:=by simp[cR]
theorem aoG(x:o.Ref):∀y∈x.enc,∃n,y = .int .i64 n:=by simp[o.Ref.enc]
theorem akU(x:o.cZ):∀y∈x.enc,∃n,y = .int .i64 n:=by simp[o.cZ.enc]
abbrev aap:C_ Nat:=[5,6,7,26,28,30,31]
def uE(b:Bool)(v:B_):B_:=if b then v else .slice none 0 0
structure ju(fF:Fr)(w0:World)(m:o.Model)(D:List Nat)(S:Fr)(w:World):Prop where
 ext:Ext w0 w
 hC:∀t,¬t∈aap->S t=fF t
 f26:26∈D->sq w (S 26) (o.refs m)
 f28:28∈D->ke w (S 28) (o.insts m)
 f30:30∈D->∃(ys:List Value) (v:Value),S 30 = .agg ys.toArray/\ys[2]? = some v/\bh 1 (Flat cR) w v (o.layout m).insts
 f31:31∈D->bh 1 (Flat cR) w (S 31) (o.layout m).insts
 f7:7∈D->bh 1 (Flat cR) w (S 7) (o.layout m).insts
 f5:5∈D->∃b,w0.heap.size<=b/\S 5 = .pointer (some ⟨b,0,none⟩)/\w.heap[b]? = some (.cells #[uE (decide (1<=D.count 100000)) (S 26)] T.c)
 f6:6∈D->∃b,w0.heap.size<=b/\S 6 = .pointer (some ⟨b,0,none⟩)/\w.heap[b]? = some (.cells #[uE (decide (2<=D.count 100000)) (S 28)] T.d)
 mZ:7∈D->2<=D.count 100000
theorem wx{S:Fr}{D:C_ Nat}{d t:Nat}{v:B_}(h:t∈D)(a6:¬d∈D):bW S d v t=S t:=by
 have cw:t≠d:=fun e=>a6 (e ▸ h);unfold bW;rw[if_neg cw]
section
variable{fF:Fr}{w0 w w':World}{m:o.Model}{D:List Nat}{S:Fr}
theorem ju.mJ(h:ju fF w0 m D S w){d:Nat}{v:B_}(e:Ext w w')(an:d∈aap)(a6:¬d∈D)(ah:D.count 100000=0/\d≠7\/(d=7/\26∈D/\28∈D/\2<=D.count 100000))
  (n26:d=26->sq w' v (o.refs m))(n28:d=28->ke w' v (o.insts m))(n30:d=30->∃(ys:C_ B_) (u:B_),v = .agg ys.toArray/\ys[2]? = some u/\bh 1 (Flat cR) w' u (o.layout m).insts)
  (n31:d=31->bh 1 (Flat cR) w' v (o.layout m).insts)(n7:d=7->bh 1 (Flat cR) w' v (o.layout m).insts)
  (n5:d=5->∃b,w0.heap.size<=b/\v = .pointer (some ⟨b,0,none⟩)/\w'.heap[b]? = some (.cells #[.slice none 0 0] T.c))
  (n6:d=6->∃b,w0.heap.size<=b/\v = .pointer (some ⟨b,0,none⟩)/\w'.heap[b]? = some (.cells #[.slice none 0 0] T.d)):ju fF w0 m (d :: D) (bW S d v) w':=by
 have cw:d≠100000:=fun e=>by rw[e] at an;exact absurd an (by decide)
 have Ef:(d :: D).count 100000=D.count 100000:=List.count_cons_of_ne (by simpa using cw);refine⟨h.ext.trans e,fun t aB=>?_,fun a=>?_,fun a=>?_,fun a=>?_,fun a=>?_,fun a=>?_,fun a=>?_,fun a=>?_,fun a=>?_⟩
 .have cw:t≠d:=fun e=>aB (e ▸ an);rw[<-h.hC t aB];unfold bW;rw[if_neg cw]
 .by_cases q:d=26
  .subst q;simpa[bW] using n26 rfl
  .have cD:26∈D:=by simpa[Ne.symm q] using a
   rw[wx cD a6];exact bh.ext Flat.ext e (h.f26 cD)
 .by_cases q:d=28
  .subst q;simpa[bW] using n28 rfl
  .have cD:28∈D:=by simpa[Ne.symm q] using a
   rw[wx cD a6];exact bh.ext Flat.ext e (h.f28 cD)
 .by_cases q:d=30
  .subst q;simpa[bW] using n30 rfl
  .have cD:30∈D:=by simpa[Ne.symm q] using a
   rw[wx cD a6];obtain⟨ys,u,h1,I,ab⟩:=h.f30 cD;exact⟨ys,u,h1,I,bh.ext Flat.ext e ab⟩
 .by_cases q:d=31
  .subst q;simpa[bW] using n31 rfl
  .have cD:31∈D:=by simpa[Ne.symm q] using a
   rw[wx cD a6];exact bh.ext Flat.ext e (h.f31 cD)
 .by_cases q:d=7
  .subst q;simpa[bW] using n7 rfl
  .have cD:7∈D:=by simpa[Ne.symm q] using a
   rw[wx cD a6];exact bh.ext Flat.ext e (h.f7 cD)
 .by_cases q:d=5
  .subst q;rw[Ef];have af:D.count 100000=0:=by rcases ah with ⟨af,_⟩ | ⟨af,_⟩;exact af;cases af
   rw[af];simpa[bW,uE] using n5 rfl
  .have cD:5∈D:=by simpa[Ne.symm q] using a
   obtain⟨b,h1,I,ab⟩:=h.f5 cD;rw[wx cD a6,Ef];refine⟨b,h1,I,?_⟩;rcases ah with ⟨af,_⟩ | ⟨_,l3,_⟩
   .rw[af] at ab ⊢;simpa[uE] using e.obj ab
   .rw[wx l3 a6];exact e.obj ab
 .by_cases q:d=6
  .subst q;rw[Ef];have af:D.count 100000=0:=by rcases ah with ⟨af,_⟩ | ⟨af,_⟩;exact af;cases af
   rw[af];simpa[bW,uE] using n6 rfl
  .have cD:6∈D:=by simpa[Ne.symm q] using a
   obtain⟨b,h1,I,ab⟩:=h.f6 cD;rw[wx cD a6,Ef];refine⟨b,h1,I,?_⟩;rcases ah with ⟨af,_⟩ | ⟨_,_,MZ,_⟩
   .rw[af] at ab ⊢;simpa[uE] using e.obj ab
   .rw[wx MZ a6];exact e.obj ab
 .rw[Ef];rcases ah with ⟨af,q⟩ | ⟨_,_,_,q⟩
  .have cD:7∈D:=by simpa[Ne.symm q] using a
   exact h.mZ cD
  .exact q
variable{cs:List Value}
theorem anj(a6:¬26∈D)(ah:D.count 100000=0)(a1:o.dV w0 cs m)(aF:o.w2 m)(bZ:fF 25 = .agg cs.toArray):ss Tryz.prog w0 (ju fF w0 m) D ⟨some 26,none,.c (.fn F.c [.tmp 25])⟩:=⟨rfl,fun S w h=>by
 show a7 Tryz.prog F.c #[S 25] w fun v w'=>Ext w0 w'/\ju fF w0 m (26 :: D) (bW S 26 v) w';rw[h.hC 25 (by decide),bZ];exact(yi _ m w (a1.ext h.ext) aF).mono fun v w' ⟨h1,I⟩=>⟨h.ext.trans I,h.mJ I (by decide) a6 (.inl ⟨ah,by decide⟩) (fun _=>aW.iv (enc:=o.Ref.enc) (fun _=>rfl) h1) (fun q=>by cases q) (fun q=>by cases q) (fun q=>by cases q) (fun q=>by cases q) (fun q=>by cases q) (fun q=>by cases q)⟩⟩
theorem ank(a6:¬28∈D)(ah:D.count 100000=0)(a1:o.dV w0 cs m)(aK:m.cN)(bZ:fF 27 = .agg cs.toArray):ss Tryz.prog w0 (ju fF w0 m) D ⟨some 28,none,.c (.fn F.b [.tmp 27])⟩:=⟨rfl,fun S w h=>by
 show a7 Tryz.prog F.b #[S 27] w fun v w'=>Ext w0 w'/\ju fF w0 m (28 :: D) (bW S 28 v) w';rw[h.hC 27 (by decide),bZ];exact(v7 _ m w (a1.ext h.ext) aK).mono fun v w' ⟨h1,I⟩=>⟨h.ext.trans I,h.mJ I (by decide) a6 (.inl ⟨ah,by decide⟩) (fun q=>by cases q) (fun _=>aW.iv (enc:=o.cZ.enc) (fun _=>rfl) h1) (fun q=>by cases q) (fun q=>by cases q) (fun q=>by cases q) (fun q=>by cases q) (fun q=>by cases q)⟩⟩
theorem anl(a6:¬30∈D)(ah:D.count 100000=0)(a1:o.dV w0 cs m)(aK:m.cN)(aM:gB w0)(hk:(o.check m).cA=0)(bZ:fF 29 = .agg cs.toArray):ss Tryz.prog w0 (ju fF w0 m) D ⟨some 30,none,.c (.fn F.a [.tmp 29])⟩:=⟨rfl,fun S w h=>by
 show a7 Tryz.prog F.a #[S 29] w fun v w'=>Ext w0 w'/\ju fF w0 m (30 :: D) (bW S 30 v) w';rw[h.hC 29 (by decide),bZ];exact(EX _ m w (a1.ext h.ext) aK (aM.ext h.ext)).mono fun v w' ⟨⟨ys,h1,cI⟩,I⟩=>⟨h.ext.trans I,h.mJ I (by decide) a6 (.inl ⟨ah,by decide⟩) (fun q=>by cases q) (fun q=>by cases q) (fun _=>by
  rw[o.x7 hk] at cI;obtain⟨ff,d0,dZ,d1,eK,d2,e5,d3,fu,d4,rfl,_,_,dG,_⟩:=cI.here.form;exact⟨_,_,h1,rfl,dG⟩) (fun q=>by cases q) (fun q=>by cases q) (fun q=>by cases q) (fun q=>by cases q)⟩⟩
theorem anm(a6:¬31∈D)(ah:D.count 100000=0)(ar:30∈D):RunT Tryz.prog w0 (ju fF w0 m) D ⟨some 31,none,.p (.gh 2 (.tmp 30))⟩:=⟨rfl,fun S w h=>by
 obtain⟨ys,v,h1,I,ab⟩:=h.f30 ar;show Gc 2 (S 30) fun v=>ju fF w0 m (31 :: D) (bW S 31 v) w;rw[h1];refine⟨ys.toArray,v,rfl,by simpa using I,h.mJ (Ext.refl _) (by decide) a6 (.inl ⟨ah,by decide⟩) (fun q=>by cases q) (fun q=>by cases q) (fun q=>by cases q) (fun _=>ab) (fun q=>by cases q) (fun q=>by cases q) (fun q=>by cases q)⟩⟩
theorem ann(a6:¬5∈D)(ah:D.count 100000=0):ss Tryz.prog w0 (ju fF w0 m) D ⟨some 5,none,.e (.new T.c (.slice none 0 0))⟩:=⟨rfl,fun S w h=>by
 show Ext w0 (w.alloc (.cells #[.slice none 0 0] T.c))/\ju fF w0 m (5 :: D) (bW S 5 (.pointer (some ⟨w.heap.size,0,none⟩))) (w.alloc (.cells #[.slice none 0 0] T.c));exact⟨h.ext.alloc _,h.mJ ((Ext.refl w).alloc _) (by decide) a6 (.inl ⟨ah,by decide⟩) (fun q=>by cases q) (fun q=>by cases q) (fun q=>by cases q) (fun q=>by cases q) (fun q=>by cases q) (fun _=>⟨_,h.ext.size,rfl,heap_alloc_new w _⟩) (fun q=>by cases q)⟩⟩
theorem ano(a6:¬6∈D)(ah:D.count 100000=0):ss Tryz.prog w0 (ju fF w0 m) D ⟨some 6,none,.e (.new T.d (.slice none 0 0))⟩:=⟨rfl,fun S w h=>by
 show Ext w0 (w.alloc (.cells #[.slice none 0 0] T.d))/\ju fF w0 m (6 :: D) (bW S 6 (.pointer (some ⟨w.heap.size,0,none⟩))) (w.alloc (.cells #[.slice none 0 0] T.d));exact⟨h.ext.alloc _,h.mJ ((Ext.refl w).alloc _) (by decide) a6 (.inl ⟨ah,by decide⟩) (fun q=>by cases q) (fun q=>by cases q) (fun q=>by cases q) (fun q=>by cases q) (fun q=>by cases q) (fun q=>by cases q) (fun _=>⟨_,h.ext.size,rfl,heap_alloc_new w _⟩)⟩⟩
theorem anp(a6:¬7∈D)(ar:31∈D/\26∈D/\28∈D/\2<=D.count 100000):RunT Tryz.prog w0 (ju fF w0 m) D ⟨some 7,none,.p (.mM (.tmp 31))⟩:=⟨rfl,fun S w h=>by
 show ju fF w0 m (7 :: D) (bW S 7 (S 31)) w;exact h.mJ (Ext.refl _) (by decide) a6 (.inr ⟨rfl,ar.2⟩) (fun q=>by cases q) (fun q=>by cases q) (fun q=>by cases q) (fun q=>by cases q) (fun _=>h.f31 ar.1) (fun q=>by cases q) (fun q=>by cases q)⟩
theorem ju.store(h:ju fF w0 m D S w){b:Nat}{u:B_}{e:F_}(ak:w.heap[b]? = some (.cells #[u] e))(hu:∀k:Int,u≠.int .i64 k)(jl:w0.heap.size<=b)(hw:dn b w w')(b1:¬7∈D)
  (n5:5∈D->∃b,w0.heap.size<=b/\S 5 = .pointer (some ⟨b,0,none⟩)/\w'.heap[b]? = some (.cells #[uE (decide (1<=(100000 :: D).count 100000)) (S 26)] T.c))
  (n6:6∈D->∃b,w0.heap.size<=b/\S 6 = .pointer (some ⟨b,0,none⟩)/\w'.heap[b]? = some (.cells #[uE (decide (2<=(100000 :: D).count 100000)) (S 28)] T.d)):ju fF w0 m (100000 :: D) S w':=by
 have mem:∀{t:Nat},t≠100000->t∈100000 :: D->t∈D:=fun aB h=>by
  rcases List.mem_cons.1 h with e | e
  .exact absurd e aB
  .exact e
 refine⟨hw.ext h.ext jl,h.hC,fun a=>KH aoG (h.f26 (mem (by decide) a)) ak hu hw,fun a=>KH akU (h.f28 (mem (by decide) a)) ak hu hw,fun a=>?_,fun a=>KH Z0 (h.f31 (mem (by decide) a)) ak hu hw,fun a=>absurd (mem (by decide) a) b1,fun a=>n5 (mem (by decide) a),fun a=>n6 (mem (by decide) a),fun a=>absurd (mem (by decide) a) b1⟩;obtain⟨ys,v,h1,I,ab⟩:=h.f30 (mem (by decide) a);exact⟨ys,v,h1,I,KH Z0 ab ak hu hw⟩
theorem aaq(b:Bool){v:B_}(aG:∃aQ n c,v = .slice aQ n c):∀k:Int,uE b v≠.int .i64 k:=fun k=>by
 obtain⟨aQ,n,c,rfl⟩:=aG;cases b<;>simp[uE]
theorem UT{w:A_}{b gL:Nat}{c kE:Array B_}{e e':F_}(h:w.heap[b]? = some (.cells c e))(bd:w.heap[gL]? = some (.cells kE e'))(he:e≠e'):b≠gL:=fun ak=>by
 rw[ak,bd] at h;injection h with h
 injection h with _ h
 exact he h.symm
theorem anq(ah:D.count 100000=0)(ar:5∈D/\6∈D/\26∈D)(b1:¬7∈D):ss Tryz.prog w0 (ju fF w0 m) D ⟨none,none,.e (.st (.tmp 5) (.tmp 26))⟩:=⟨rfl,fun S w h=>by
 obtain⟨b,h1,I,ab⟩:=h.f5 ar.1;obtain⟨dP,cC,cS,eT⟩:=h.f6 ar.2.1;obtain⟨aQ,n,aG,_⟩:=(h.f26 ar.2.2).form;have cw:dP≠b:=UT eT ab (by decide);have ai:(100000 :: D).count 100000=1:=by rw[List.count_cons_self,ah]
 show u7 (S 5) (S 26) w fun w'=>Ext w0 w'/\ju fF w0 m (100000 :: D) S w';rw[I];have key:=_V (KW:=fun w'=>Ext w0 w'/\ju fF w0 m (100000 :: D) S w') (t:=⟨⟩) (v:=S 26) ab (Nat.zero_lt_one) (by rw[aG];rfl) fun w1 ht cT=>⟨ht.ext h.ext h1,h.store ab (aaq _ ⟨_,_,_,aG⟩) h1 ht b1 (fun _=>⟨b,h1,I,by rw[ai];exact cT⟩) (fun _=>⟨dP,cC,cS,by rw[ai];rw[ah] at eT;exact ht.obj eT cw⟩)⟩;unfold qu at key;exact key⟩
theorem anr(ah:D.count 100000=1)(ar:5∈D/\6∈D/\28∈D)(b1:¬7∈D):ss Tryz.prog w0 (ju fF w0 m) D ⟨none,none,.e (.st (.tmp 6) (.tmp 28))⟩:=⟨rfl,fun S w h=>by
 obtain⟨b,h1,I,ab⟩:=h.f6 ar.2.1;obtain⟨dx,cC,cS,eT⟩:=h.f5 ar.1;obtain⟨aQ,n,aG,_⟩:=(h.f28 ar.2.2).form;have cw:dx≠b:=UT eT ab (by decide);have ai:(100000 :: D).count 100000=2:=by rw[List.count_cons_self,ah]
 show u7 (S 6) (S 28) w fun w'=>Ext w0 w'/\ju fF w0 m (100000 :: D) S w';rw[I];have key:=_V (KW:=fun w'=>Ext w0 w'/\ju fF w0 m (100000 :: D) S w') (t:=⟨⟩) (v:=S 28) ab (Nat.zero_lt_one) (by rw[aG];rfl) fun w1 ht cT=>⟨ht.ext h.ext h1,h.store ab (aaq _ ⟨_,_,_,aG⟩) h1 ht b1 (fun _=>⟨dx,cC,cS,by rw[ai];rw[ah] at eT;exact ht.obj eT cw⟩) (fun _=>⟨b,h1,I,by rw[ai];exact cT⟩)⟩;unfold qu at key;exact key⟩
end
theorem anz(cs:C_ B_)(bM lS:B_)(m:o.Model)(r bR dP dx:Nat)(w:A_)(h:o.dV w cs m)(a8:ke w bM (o.insts m))(k7:sq w lS (o.refs m))(gb:(o.check m).cA=0)(aL:r<(o.refs m).length)
  (av:w.heap[bR]? = some (.cells cs.toArray T.g))(b4:w.heap[dP]? = some (.cells #[bM] T.d))(cc:w.heap[dx]? = some (.cells #[lS] T.c)) :
  a7 Tryz.prog F.x #[.int .i64 r,.pointer (some ⟨bR,0,none⟩),.pointer (some ⟨dP,0,none⟩),.pointer (some ⟨dx,0,none⟩)] w fun u w'=>u = .int .i64 (o.Bk m r)/\Ext w w':=by
 obtain⟨cd,bw,bO,c1,bV,c2,b2,br,cj,bF,rfl,af,h1,I,ab,aD,eU,ek,ev,ef,ew⟩:=h.form;obtain⟨cx,ci,rfl,_⟩:=a8.form;obtain⟨gR,iz,rfl,_⟩:=k7.form;obtain⟨Kv,p,k,bC⟩:=o.o8 (m:=m) (ref:=r) ⟨gb,by omega,by omega⟩;obtain⟨Qx,Qy⟩:=bC.rel;have au:=bC.at_.U;have ar:=bC.at_.ar;have oG:=bC.at_.hk;have pg:=bC.at_.ip;have gD:(o.refs m)[r].inst=(Kv:Int):=bC.at_.pw;have rS:(o.refs m)[r].cmd=(k:Int):=bC.at_.uH;obtain⟨kD,rfl⟩:=k7.addr;obtain⟨iP,rfl⟩:=a8.addr;obtain⟨a3,rfl⟩:=ab.addr;obtain⟨lM,b7,ec,dD,e2,fO⟩:=ab.at p ar;obtain⟨Fi,Dq,rfl,EY⟩:=fO.form;obtain⟨ac,rfl⟩:=fO.addr;obtain⟨eQ,gu,ea,hf,kP,iX⟩:=fO.at k oG;obtain⟨gy,ga,rfl,_⟩:=kP.form;obtain⟨wv,vi,rfl,_⟩:=iX.form;unfold o.dz.enc at dD;unfold o.dI.enc at hf;have la:=o.xl ar oG;refine bn E.x ?_;refine aa ?_;refine K_ Kv (by rw[gD]) (by omega) ?_;refine aa ?_;refine K_ p (by rw[pg]) ar ?_;refine aa ?_;refine K_ k (by rw[rS]) (by omega) ?_;refine aa ?_;intro w1 al;refine aa ?_;exact⟨by rw[Qy,la],al⟩
end Go.Proofs.R
end