/- Parts. -/
import Derived.Test.YtakmdjclehkglaaGreatDoorQaul
import Derived.Shelf.SlGeneric
import Derived.Shelf.SlIterI.Nil
import Derived.Shelf.SortM.Plain
import Derived.Shelf.SortM.SortNone
set_option linter.all false
set_option maxRecDepth 8000
set_option maxHeartbeats 16000000
section
namespace o
open Go
theorem Z6{m:Model}{q:Nat}{own:Bool}{x:Node}(h:x.op=2){v:Var}(aG:m.vars[x.n.toNat]? = some v)(af:v.over=0):pq m q x.n.toNat false=gi m q own x:=by
 obtain⟨h1,I⟩:=List.getElem?_eq_some_iff.1 aG;unfold gi pq;rw[if_pos h,if_neg (by simp),s7 h1,I]
 have:cells v m.scalars=1:=by unfold cells;rw[if_pos af]
 rw[this];rfl
end o
namespace Go.Proofs.R
open Go Go.RowKit bb
structure wP(w:World)(bJ ki b cK:Nat):Prop where
 x:w.heap[bJ]? = some (.cells #[.pointer (some ⟨b,0,none⟩)] T.gM)
 z:w.heap[ki]? = some (.cells #[.map (some cK)] T.s)
theorem wP.mod{w w':A_}{bJ ki b cK:Nat}{L:C_ Int}(h:wP w bJ ki b cK)(an:fi w cK L)(hm:Mod (fun k=>k=cK) w w'):wP w' bJ ki b cK:=by
 obtain⟨es,c,ah,_⟩:=an.ex;have ay:∀{k:Nat} {cs t},w.heap[k]? = some (.cells cs t)->¬k=cK:=fun hk e=>by subst e;rw[hk] at ah;cases ah
 exact⟨hm.obj (ay h.x) h.x,hm.obj (ay h.z) h.z⟩
theorem wP.ext{w w':A_}{bJ ki b cK:Nat}(h:wP w bJ ki b cK)(he:Ext w w'):wP w' bJ ki b cK:=⟨he.obj h.x,he.obj h.z⟩
theorem agb(x:o.Node)(own:Bool)(b cK bJ ki q p:Nat)(L:C_ Int)(m:o.Model)(w0 w:A_)(h:oZ w0 b m q)(he:Ext w0 w)(l5:w0.heap.size<=cK)(an:fi w cK L)(km:wP w bJ ki b cK)(a1:o.eL m)(a8:o.fI m q p)
  (ag:o.AD (o.inner (m.procs[p]'(a8.ar)) (o.ey m)) x)(di:x.ok)(aM:own=true->1<=((o.insts m)[q]'(a8.au)).elem) :
  a7 Tryz.prog F.o4 #[.agg x.enc.toArray,.bool own,.pointer (some ⟨bJ,0,none⟩),.pointer (some ⟨ki,0,none⟩)] w fun _ w'=>fi w' cK (L++o.gi m q own x)/\Mod (fun k=>k=cK) w w':=by
 have au:=a8.au;have mz:=a8.KC a1;have Pb:=di.op;have Pa:=di.n;unfold o.dH at Pb Pa;have nV:=km.x;have vD:=km.z;obtain⟨cd,bw,bO,c1,bV,c2,b2,br,cj,bF,ff,d0,dZ,d1,eK,d2,e5,d3,fu,d4,cx,ci,rH,eF,eb,dG,_,_,_,_,M8⟩:=h.form;refine bn E.o4 ?_;refine aa ?_;intro w1 cF fy al bH;replace nV:=al.obj nV;replace vD:=al.obj vD;have fP:=an.ext al;have jt:=he.trans al;obtain⟨es,ce,fl,_⟩:=fP.ex;have tf:¬cF=cK:=fun e=>by subst e;rw[bH] at fl;cases fl
 have th:¬bJ=cK:=fun e=>by subst e;rw[nV] at fl;cases fl
 have amH:¬ki=cK:=fun e=>by subst e;rw[vD] at fl;cases fl
 clear fl;unfold o.Node.enc at bH;refine aa ?_;apply I_<;>intro g2
 .obtain⟨gF,v,aG,jm⟩:=ag.var g2;have fa:x.n.toNat<m.vars.length:=(List.getElem?_eq_some_iff.1 aG).1;have h3:x.n=(x.n.toNat:Nat):=by omega
  refine aa ?_;rw[h3];refine J_ (FT b cK q x.n.toNat false false L m w0 w1 h jt l5 fP a1 au fa (fun a=>by cases a)) ?_;rintro _ aH ⟨eE,fA⟩;rw[Bool.false_and,o.Z6 g2 aG jm (own:=own)] at eE;refine aa ?_;exact⟨eE,al.mod.trans fA⟩
 refine aa ?_;apply I_<;>intro g3
 .obtain⟨gF,fa⟩:=ag.item g3;have h3:x.n=(x.n.toNat:Nat):=by omega
  refine aa ?_;rw[h3];refine J_ (FT b cK q x.n.toNat true own L m w0 w1 h jt l5 fP a1 au fa (fun _ a=>aM a)) ?_;rintro _ aH ⟨eE,fA⟩;have ba:o.gi m q own x=o.pq m q x.n.toNat (true&&own):=by unfold o.gi;rw[if_neg g2,if_pos g3,Bool.true_and]
  rw[<-ba] at eE;refine aa ?_;exact⟨eE,al.mod.trans fA⟩
 refine aa ?_;apply I_<;>intro g4
 .obtain⟨gF,fa⟩:=ag.loc g4;have gP:x.n.toNat<(m.procs[p]'(a8.ar)).vars.length:=fa;have bG:o.gi m q own x=o.gr (o.dj m q+1+x.n.toNat) 1:=by unfold o.gi;rw[if_neg g2,if_neg g3,if_pos g4]
  rw[bG];refine aa ?_;intro aH ao;refine aa ?_;refine J_ (En b q m aH (h.ext (jt.trans ao)) au) ?_;rintro _ aP ⟨rfl,aj⟩;refine⟨aj,?_⟩;refine aa ?_;refine J_ (tp cK L (o.dj m q+1+x.n.toNat) 1 _ _ aP ((fP.ext ao).ext aj) (by omega) rfl (by omega)) ?_;rintro _ aR ⟨lL,jB⟩;refine aa ?_;exact⟨lL,((al.mod.trans ao.mod).trans aj.mod).trans jB⟩
 refine aa ?_;apply I_<;>intro g6
 .obtain⟨gF,fa⟩:=ag.len g6;have gP:x.n.toNat<m.aw.length:=fa;have Eh:=o.A3 a1 gP;have h3:x.n=(x.n.toNat:Nat):=by omega
  have c8:o.gi m q own x=o.gr (o.cq m x.n.toNat) 1:=by unfold o.gi;rw[if_neg g2,if_neg g3,if_neg g4,if_pos g6]
  rw[c8];obtain⟨kp,fl⟩:=o.vh gP;obtain⟨df,rfl⟩:=eb.addr;have ak:=jt.obj rH;have aoa:=eb.ext Flat.ext jt;rw[h3] at bH;refine aa ?_;intro aH ao;refine aa ?_;refine J_ (tp cK L (o.cq m x.n.toNat) 1 _ _ aH (fP.ext ao) (by rw[fl]) rfl (by omega)) ?_;rintro _ aR ⟨lL,jB⟩;refine aa ?_;exact⟨lL,(al.mod.trans ao.mod).trans jB⟩
 refine aa ?_;apply I_<;>intro g7;rotate_left
 .have gm:o.gi m q own x=[]:=by unfold o.gi;rw[if_neg g2,if_neg g3,if_neg g4,if_neg g6,if_neg g7]
  rw[gm,List.append_nil];refine aa ?_;exact⟨fP,al.mod⟩
 have dQ:o.gi m q own x=o.oy m (x.n.tdiv 16) (o.insts m).length:=by unfold o.gi;rw[if_neg g2,if_neg g3,if_neg g4,if_neg g6,if_pos g7]
 rw[dQ];obtain⟨f6,f7,f8⟩:=o.s6 m;obtain⟨gF,BQ⟩:=ag.at_ g7;have ajT:(x.n.tdiv 16).toNat<m.procs.length:=BQ;have aj3:=Int.tdiv_nonneg gF (show(0:Int)<=16 by omega);have ajW:=a1.procs;have aj2 : -9223372036854775808<=x.n.tdiv 16/\x.n.tdiv 16<=9223372036854775807:=by omega
 have rG:∀{W},Mod (fun k=>k=cK) w1 W->Ext w0 W:=fun hm=>hm.ext jt fun k hk e=>by omega
 have gU:=o.zG a1;have cT:=jt.obj rH;clear eF eb;refine aa ?_;refine L_ 55 (o.insts m).length [2,3,4,53,54] (fun _:Unit=>[]) () (fun k _ W=>Mod (fun i=>i=cK) w1 W/\fi W cK (L++o.oy m (x.n.tdiv 16) k)) bc bc ⟨Mod.refl _ _,by simpa[o.oy] using fP⟩ ?_;have NN:=vD;have kM:=nV;have hf:=bH;clear nV vD bH cT;rintro k _ S aH hk ⟨fA,eE⟩;have nV:=fA.obj th kM;have vD:=fA.obj amH NN;have bH:=fA.obj tf hf;have ak:=(rG fA).obj rH;have zf:=M8.ext Flat.ext (rG fA);refine aa ?_;apply I_<;>intro g1
 .have cH:k<(o.insts m).length:=by omega
  obtain⟨iP,rfl⟩:=M8.addr;obtain⟨IH,sW⟩:=o.rV cH;have II:=o.EN a1 cH;obtain⟨a2,rfl⟩:=dG.addr;have aaI:=dG.ext Flat.ext (rG fA);refine aa ?_;intro wn ho h6 fm eQ;refine aa ?_;intro aP gd c9;have aj:Ext aH aP:=gd.ext fm h6;replace nV:=aj.obj nV;replace vD:=aj.obj vD;replace bH:=aj.obj bH;replace ak:=aj.obj ak;replace aaI:=aaI.ext Flat.ext aj;have gE:=eE.ext aj;have iW:=fA.trans aj.mod;clear eE zf;refine aa ?_;refine _J (by omega) ?_;refine aa ?_;apply I_<;>intro g2
  .refine aa ?_;intro aR aA;refine aa ?_;refine J_ (tp cK _ (o.dj m k) 1 _ _ aR (gE.ext aA) (by rw[sW]) rfl (by omega)) ?_;rintro _ bq ⟨sZ,lh⟩;refine aa ?_;refine⟨cH,aU,(),trivial,(iW.trans aA.mod).trans lh,?_⟩;rw[o.Db cH,if_pos g2,<-List.append_assoc];exact sZ
  .refine aa ?_;refine⟨cH,aU,(),trivial,iW,?_⟩;rw[o.Db cH,if_neg g2,List.append_nil];exact gE
 .have kq:(o.insts m).length=k:=by omega
  rw[kq];refine aa ?_;exact⟨eE,al.mod.trans fA⟩
theorem afr(e:C_ o.Node)(v:B_)(b cK bJ ki q p:Nat)(L:C_ Int)(m:o.Model)(w0 w:A_)(h:oZ w0 b m q)(he:Ext w0 w)(l5:w0.heap.size<=cK)(an:fi w cK L)(km:wP w bJ ki b cK)(a1:o.eL m)(a8:o.fI m q p)
  (ay:o.eV w0 v e)(ag:o.sg (o.inner (m.procs[p]'(a8.ar)) (o.ey m)) e) :
  a7 Tryz.prog F.em #[v,.func (.func F.o4) #[] #[.pointer (some ⟨bJ,0,none⟩),.pointer (some ⟨ki,0,none⟩)]] w fun _ w'=>fi w' cK (L++o.rE m q e e.length)/\Mod (fun k=>k=cK) w w':=by
 obtain⟨aQ,fD,rfl,aF⟩:=ay.form;have rG:∀{W},Mod (fun k=>k=cK) w W->Ext w0 W:=fun hm=>hm.ext he fun k hk e=>by omega
 have hle:=ag.len;refine bn E.em ?_;refine aa ?_;refine L_ 9 e.length [1,7,8] (fun ad:Bool=>[(4,.bool ad)]) false (fun k ad W=>ad=o.Cb e k/\Mod (fun i=>i=cK) w W/\fi W cK (L++o.rE m q e k)) bc bc ⟨rfl,Mod.refl _ _,by simpa[o.rE] using an⟩ ?_;rintro k ad S w1 hk ⟨rfl,rN,fP⟩;have BP:=ay.ext (rG rN);have WH:=km.mod an rN;refine aa ?_;apply I_<;>intro g1
 .have cH:k<e.length:=by omega
  obtain⟨a,rfl⟩:=ay.addr;have hg:=(ay.at k cH).ok;have um:=ag.node k cH;refine aa ?_;intro aH dP fX ao b4;have eE:=fP.ext ao;have fA:=rN.trans ao.mod;have ahq:=WH.ext ao;have n6:¬dP=cK:=fun e=>by subst e;obtain⟨_,_,fl,_⟩:=eE.ex;rw[b4] at fl;cases fl
  clear BP fP WH;refine aa ?_;refine U_ (first:=[]) (cap:=[.pointer (some ⟨bJ,0,none⟩),.pointer (some ⟨ki,0,none⟩)]) (by kernel_rfl) (agb e[k] (o.Cb e k) b cK bJ ki q p _ m w0 aH h (rG fA) l5 eE ahq a1 a8 um.1 hg ?_) ?_
  .intro fB;cases k with
   | zero=>cases fB
   | succ j =>
    rw[o.aah (by omega)] at fB;have aY:=(ag.node j (by omega)).1.self (by simpa using fB);exact a8.elem (by have:(o.inner (m.procs[p]'(a8.ar)) (o.ey m)).self=(m.procs[p]'(a8.ar)).over:=rfl;omega)
  rintro _ aP ⟨gE,iW⟩;have aik:=iW.obj n6 b4;clear b4;refine aa ?_;refine⟨cH,aU,_,⟨rfl,trivial⟩,?_,fA.trans iW,?_⟩
  .rw[o.aah cH]
  .rw[o.V3 cH,<-List.append_assoc];exact gE
 .have kq:e.length=k:=by omega
  rw[kq];refine aa ?_;exact⟨fP,rN⟩
theorem DH(e:C_ o.Node)(v:B_)(b cK q p:Nat)(L:C_ Int)(m:o.Model)(w0 w:A_)(h:oZ w0 b m q)(he:Ext w0 w)(l5:w0.heap.size<=cK)(an:fi w cK L)(a1:o.eL m)(a8:o.fI m q p)
  (ay:o.eV w0 v e)(ag:o.sg (o.inner (m.procs[p]'(a8.ar)) (o.ey m)) e) :
  a7 Tryz.prog F.Hi #[.pointer (some ⟨b,0,none⟩),.map (some cK),v] w fun _ w'=>fi w' cK (L++o.rE m q e e.length)/\Mod (fun k=>k=cK) w w':=by
 refine bn E.Hi ?_;refine aa ?_;intro w1 bJ nV al kM;refine aa ?_;intro aH ki vD ao NN;refine aa ?_;refine J_ (afr e v b cK bJ ki q p L m w0 aH h ((he.trans al).trans ao) l5 ((an.ext al).ext ao) ⟨ao.obj kM,NN⟩ a1 a8 ay ag) ?_;rintro _ aP ⟨gE,iW⟩;refine aa ?_;exact⟨gE,(al.mod.trans ao.mod).trans iW⟩
theorem aoo(a:o.Act)(bM b7:B_)(b cK q p:Nat)(L:C_ Int)(m:o.Model)(w0 w:A_)(h:oZ w0 b m q)(he:Ext w0 w)(l5:w0.heap.size<=cK)(an:fi w cK L)(a1:o.eL m)(a8:o.fI m q p)
  (U:o.eV w0 bM a.index)(aG:o.eV w0 b7 a.value)(aV:o.nD (o.inner (m.procs[p]'(a8.ar)) (o.ey m)) a) :
  a7 Tryz.prog F.Hj #[.pointer (some ⟨b,0,none⟩),.map (some cK),.agg (a.enc bM b7).toArray] w fun _ w'=>fi w' cK (L++o.u9 m q a)/\Mod (fun k=>k=cK) w w':=by
 obtain⟨cd,bw,bO,c1,bV,c2,b2,br,cj,bF,ff,d0,dZ,d1,eK,d2,e5,d3,fu,d4,cx,ci,rH,eF,eb,dG,_,_,_,_,M8⟩:=h.form;have BN:=aV.kind;refine bn E.Hj ?_;refine aa ?_;intro w1 dx k9 al cc;have fP:=an.ext al;have jt:=he.trans al;have ak:=jt.obj rH;obtain⟨es,ce,fl,_⟩:=fP.ex;have n5:¬dx=cK:=fun e=>by subst e;rw[cc] at fl;cases fl
 clear fl;unfold o.Act.enc at cc;refine aa ?_;apply I_<;>intro g2
 .refine aa ?_;refine J_ (DH a.index bM b cK q p L m w0 w1 h jt l5 fP a1 a8 U (aV.item g2).2.2) ?_;rintro _ aH ⟨eE,fA⟩;have D9:=fA.obj n5 cc;clear cc ak;refine aa ?_;refine J_ (DH a.value b7 b cK q p _ m w0 aH h (fA.ext jt fun k hk e=>by omega) l5 eE a1 a8 aG (aV.val (by omega))) ?_;rintro _ aP ⟨gE,iW⟩;refine aa ?_;refine⟨?_,(al.mod.trans fA).trans iW⟩;unfold o.u9;rw[if_neg (by omega),if_pos g2,<-List.append_assoc];exact gE
 refine aa ?_;apply I_<;>intro g4
 .obtain⟨gF,fa⟩:=aV.chan (.inl g4);have gP:a.to.toNat<m.aw.length:=fa;have Eh:=o.A3 a1 gP;have h3:a.to=(a.to.toNat:Nat):=by omega
  obtain⟨kp,fl⟩:=o.vh gP;obtain⟨df,rfl⟩:=eb.addr;have aoa:=eb.ext Flat.ext jt;rw[h3] at cc;refine aa ?_;intro aH ao;have D9:=ao.obj cc;refine aa ?_;refine J_ (tp cK L (o.cq m a.to.toNat) 1 _ _ aH (fP.ext ao) (by rw[fl]) rfl (by omega)) ?_;rintro _ aP ⟨gE,iW⟩;have asv:=iW.obj n5 D9;clear cc D9 ak;refine aa ?_;refine J_ (DH a.value b7 b cK q p _ m w0 aP h (iW.ext (jt.trans ao) fun k hk e=>by omega) l5 gE a1 a8 aG (aV.val (by omega))) ?_;rintro _ aR ⟨lL,jB⟩;refine aa ?_;refine⟨?_,((al.mod.trans ao.mod).trans iW).trans jB⟩;unfold o.u9;rw[if_neg (by omega),if_neg g2,if_pos g4,<-List.append_assoc];exact lL
 refine aa ?_;apply I_<;>intro g5
 .obtain⟨gF,fa⟩:=aV.chan (.inr g5);have gP:a.to.toNat<m.aw.length:=fa;have h3:a.to=(a.to.toNat:Nat):=by omega
  rw[h3] at cc;refine aa ?_;refine J_ (Ri b cK q a.to.toNat L m w0 w1 h jt l5 fP a1 gP) ?_;rintro _ aH ⟨eE,fA⟩;refine aa ?_;refine⟨?_,al.mod.trans fA⟩;unfold o.u9;rw[if_pos g5];exact eE
 .refine aa ?_;refine J_ (DH a.value b7 b cK q p _ m w0 w1 h jt l5 fP a1 a8 aG (aV.val g5)) ?_;rintro _ aH ⟨eE,fA⟩;refine aa ?_;refine⟨?_,al.mod.trans fA⟩;unfold o.u9;rw[if_neg g5,if_neg g2,if_neg g4,List.nil_append];exact eE
theorem aq9(a:o.Act)(bM b7:B_)(b cK q p:Nat)(L:C_ Int)(m:o.Model)(w0 w:A_)(h:oZ w0 b m q)(he:Ext w0 w)(l5:w0.heap.size<=cK)(an:fi w cK L)(a1:o.eL m)(a8:o.fI m q p)
  (U:o.eV w0 bM a.index)(aV:o.nD (o.inner (m.procs[p]'(a8.ar)) (o.ey m)) a) :
  a7 Tryz.prog F.Hk #[.pointer (some ⟨b,0,none⟩),.map (some cK),.agg (a.enc bM b7).toArray] w fun _ w'=>fi w' cK (L++o.nP m q a)/\Mod (fun k=>k=cK) w w':=by
 have BN:=aV.kind;have au:=a8.au;have mz:=a8.KC a1;refine bn E.Hk ?_;refine aa ?_;intro w1 dx k9 al cc;have fP:=an.ext al;have jt:=he.trans al;obtain⟨es,ce,fl,_⟩:=fP.ex;have n5:¬dx=cK:=fun e=>by subst e;rw[cc] at fl;cases fl
 clear fl;obtain⟨cx,ci,rfl,atE⟩:=U.form;unfold o.Act.enc at cc;refine aa ?_;apply I_<;>intro g1
 .obtain⟨gF,v,aG,jm⟩:=aV.set g1;have fa:a.to.toNat<m.vars.length:=(List.getElem?_eq_some_iff.1 aG).1;have h3:a.to=(a.to.toNat:Nat):=by omega
  rw[h3] at cc;refine aa ?_;refine J_ (FT b cK q a.to.toNat false false L m w0 w1 h jt l5 fP a1 au fa (fun a=>by cases a)) ?_;rintro _ aH ⟨eE,fA⟩;refine aa ?_;refine⟨?_,al.mod.trans fA⟩;unfold o.nP;rw[if_pos g1];have e:=o.Z6 (m:=m) (q:=q) (own:=false) (x:=⟨2,a.to⟩) rfl aG jm;unfold o.gi at e;rw[if_pos rfl] at e;rw[Bool.false_and,e] at eE;exact eE
 refine aa ?_;apply I_<;>intro g2
 .obtain⟨gF,fa,XT⟩:=aV.item g2;have gP:a.to.toNat<m.vars.length:=fa;have h3:a.to=(a.to.toNat:Nat):=by omega
  rw[h3] at cc;have MD:o.nP m q a=o.pq m q a.to.toNat (o.r8 a):=by unfold o.nP;rw[if_neg g1,if_pos g2]
  rw[MD];have IG:=U.ext jt;refine aa ?_;intro aH ao;replace cc:=ao.obj cc;replace IG:=IG.ext ao;refine aa ?_;apply I_<;>intro g3
  .obtain⟨iP,rfl⟩:=U.addr;have um:=(XT.node 0 (by omega)).1;have vU:=o.apr (a:=a) (by omega);refine aa ?_;refine K_ 0 rfl (by omega) ?_;refine aa ?_;refine J_ (FT b cK q a.to.toNat true (decide ((a.index[0]'(by omega)).op=5)) L m w0 aH h (jt.trans ao) l5 (fP.ext ao) a1 au gP (fun _ aY=>?_)) ?_
   .have aY:=um.self (by simpa using aY);exact a8.elem (by have:(o.inner (m.procs[p]'(a8.ar)) (o.ey m)).self=(m.procs[p]'(a8.ar)).over:=rfl;omega)
   rintro _ aP ⟨gE,iW⟩;rw[Bool.true_and,<-vU] at gE;refine aa ?_;exact⟨gE,(al.mod.trans ao.mod).trans iW⟩
  .have vU:=o.apq (a:=a) (by omega);refine aa ?_;refine J_ (FT b cK q a.to.toNat true false L m w0 aH h (jt.trans ao) l5 (fP.ext ao) a1 au gP (fun _ aY=>by cases aY)) ?_;rintro _ aP ⟨gE,iW⟩;rw[Bool.and_false,<-vU] at gE;refine aa ?_;exact⟨gE,(al.mod.trans ao.mod).trans iW⟩
 refine aa ?_;apply I_<;>intro g3
 .obtain⟨gF,fa⟩:=aV.loc g3;have gP:a.to.toNat<(m.procs[p]'(a8.ar)).vars.length:=fa;have MD:o.nP m q a=o.gr (o.dj m q+1+a.to.toNat) 1:=by unfold o.nP;rw[if_neg g1,if_neg g2,if_pos g3]
  rw[MD];refine aa ?_;intro aH ao;refine aa ?_;refine J_ (En b q m aH (h.ext (jt.trans ao)) au) ?_;rintro _ aP ⟨rfl,aj⟩;refine⟨aj,?_⟩;refine aa ?_;refine J_ (tp cK L (o.dj m q+1+a.to.toNat) 1 _ _ aP ((fP.ext ao).ext aj) (by omega) rfl (by omega)) ?_;rintro _ aR ⟨lL,jB⟩;refine aa ?_;exact⟨lL,((al.mod.trans ao.mod).trans aj.mod).trans jB⟩
 refine aa ?_;apply I_<;>intro g4
 .obtain⟨gF,fa⟩:=aV.chan (.inl g4);have gP:a.to.toNat<m.aw.length:=fa;have h3:a.to=(a.to.toNat:Nat):=by omega
  rw[h3] at cc;refine aa ?_;refine J_ (Ri b cK q a.to.toNat L m w0 w1 h jt l5 fP a1 gP) ?_;rintro _ aH ⟨eE,fA⟩;refine aa ?_;refine⟨?_,al.mod.trans fA⟩;unfold o.nP;rw[if_neg g1,if_neg g2,if_neg g3,if_pos g4];exact eE
 have g5:a.kind=5:=by omega
 .obtain⟨gF,fa⟩:=aV.chan (.inr g5);obtain⟨cC,im⟩:=aV.recv g5;have rM:a.loc.toNat<(m.procs[p]'(a8.ar)).vars.length:=im;have gP:a.to.toNat<m.aw.length:=fa;have h3:a.to=(a.to.toNat:Nat):=by omega
  rw[h3] at cc;refine aa ?_;refine J_ (Ri b cK q a.to.toNat L m w0 w1 h jt l5 fP a1 gP) ?_;rintro _ aH ⟨eE,fA⟩;have asu:=fA.obj n5 cc;have c7:=fA.ext jt fun k hk e=>by omega
  clear cc;refine aa ?_;intro aP aj;refine aa ?_;refine J_ (En b q m aP (h.ext (c7.trans aj)) au) ?_;rintro _ aR ⟨rfl,aA⟩;refine⟨aA,?_⟩;refine aa ?_;refine J_ (tp cK _ (o.dj m q+1+a.loc.toNat) 1 _ _ aR ((eE.ext aj).ext aA) (by omega) rfl (by omega)) ?_;rintro _ bq ⟨sZ,lh⟩;refine aa ?_;refine⟨?_,(((al.mod.trans fA).trans aj.mod).trans aA.mod).trans lh⟩;unfold o.nP;rw[if_neg g1,if_neg g2,if_neg g3,if_neg g4,if_pos g5,<-List.append_assoc];exact sZ
end Go.Proofs.R
end
section
namespace o
open Go
structure eM(m:Model)(ref:Int)(q p k:Nat):Prop where
 ok:(check m).cA=0
 aO:0<=ref
 U:ref.toNat<(refs m).length
 at_:TN m ((refs m)[ref.toNat]) q p k
def Told(m:Model)(ref:Int):Prop:=(check m).cA=0/\0<=ref/\ref<(refs m).length
theorem o8{m:Model}{ref:Int}(h:Told m ref):∃q p k,eM m ref q p k:=by
 obtain⟨h1,I,ab⟩:=h;obtain⟨q,p,k,aD⟩:=aoI (List.getElem_mem (show ref.toNat<(refs m).length by omega));exact⟨q,p,k,h1,I,by omega,aD⟩
theorem eM.told{m:Model}{ref:Int}{q p k:Nat}(h:eM m ref q p k):Told m ref:=⟨h.ok,h.aO,by have:=h.U;have:=h.aO;omega⟩
theorem eM.inst{m:Model}{ref:Int}{q p k:Nat}(h:eM m ref q p k):fI m q p:=by
 obtain⟨gz,ar⟩:=BY h.at_.U;have e:gz=p:=by
  have h1:=ar.eq;rw[h.at_.ip] at h1;omega
 subst e;exact ar
theorem eM.one{m:Model}{ref:Int}{q p k eX gz k':Nat}(h:eM m ref q p k)(bd:eM m ref eX gz k'):q=eX/\p=gz/\k=k':=by
 have bt:q=eX:=by have a:=h.at_.pw;have b:=bd.at_.pw;omega
 subst bt;have a:=h.at_.ip;have b:=bd.at_.ip;have c:=h.at_.uH;have d:=bd.at_.uH;exact⟨rfl,by omega,by omega⟩
def bI(m:Model)(p k:Nat):dI:=((m.procs[p]?.map (·.cL[k]?)).join).getD ⟨⟨#[]⟩,0,0,[],[],false⟩
theorem xl{m:Model}{p k:Nat}(ar:p<m.procs.length)(hk:k<m.procs[p].cL.length):bI m p k=m.procs[p].cL[k]:=by
 unfold bI;rw[List.getElem?_eq_getElem ar];simp[hk]
theorem eM.cin{m:Model}{ref:Int}{q p k:Nat}(h:eM m ref q p k):wR (inner (m.procs[p]'(h.at_.ar)) (ey m)) (bI m p k):=by
 rw[xl h.at_.ar h.at_.hk];exact aeR h.ok h.at_.ar h.at_.hk
structure kf(m:Model)(ref:Int)(a b:List Int):Prop where
 there:∀q p k,eM m ref q p k->sr (q4 m q (bI m p k) (bI m p k).bY.length) a/\sr (nB m q (bI m p k) (bI m p k).bY.length) b
 none:¬Told m ref->a=[]/\b=[]
theorem kf.eq{m:Model}{ref:Int}{a b cD gL:C_ Int}(h:kf m ref a b)(bd:kf m ref cD gL):a=cD/\b=gL:=by
 by_cases aB:Told m ref
 .obtain⟨q,p,k,ah⟩:=o8 aB;obtain⟨h1,I⟩:=h.there q p k ah;obtain⟨ab,aD⟩:=bd.there q p k ah;exact⟨h1.eq ab fun _=>Iff.rfl,I.eq aD fun _=>Iff.rfl⟩
 .obtain⟨rfl,rfl⟩:=h.none aB;obtain⟨rfl,rfl⟩:=bd.none aB;exact⟨rfl,rfl⟩
theorem kf.of{m:Model}{ref:Int}{q p k:Nat}{a b:C_ Int}(ah:eM m ref q p k)(h1:sr (q4 m q (bI m p k) (bI m p k).bY.length) a)(I:sr (nB m q (bI m p k) (bI m p k).bY.length) b):kf m ref a b :=
 ⟨fun eX gz k' h=>by obtain⟨rfl,rfl,rfl⟩:=ah.one h;exact⟨h1,I⟩,fun ay=>absurd ah.told ay⟩
theorem kf.nil{m:Model}{ref:Int}(h:¬Told m ref):kf m ref [] []:=⟨fun _ _ _ ah=>absurd ah.told h,fun _=>⟨rfl,rfl⟩⟩
structure arn(m:Model)(ref:Int)(a:List Int):Prop where
 there:∀q p k,eM m ref q p k->sr (H5 m q (bI m p k)) a
 none:¬Told m ref->a=[]
theorem eL.lim{m:Model}(h:eL m):w2 m:=⟨by have:=h.procs;omega,fun p ar=>by have:=(h.proc p ar).gU;omega⟩
end o
namespace bb
open Go
def Vc:C_ B_:=[.string ⟨#[]⟩,.int .i64 0,.int .i64 0,.slice none 0 0,.slice none 0 0,.bool false]
end bb
end
section
namespace Go.Proofs.R
open Go Go.RowKit bb
def acQ(m:o.Model)(ref:Int)(v:B_)(w:A_):Prop :=
 (¬o.Told m ref/\v = .tuple #[.pointer none,.agg Vc.toArray,.bool false]) \/
 (∃(b q p k:Nat) (gu ea:B_),o.eM m ref q p k/\v = .tuple #[.pointer (some ⟨b,0,none⟩),.agg ((o.bI m p k).enc gu ea).toArray,.bool true]/\oZ w b m q/\o.eV w gu (o.bI m p k).guard/\o.mQ w ea (o.bI m p k).bY)
theorem amW(cs:C_ B_)(m:o.Model)(ref:Int)(w:A_)(h:o.dV w cs m)(aK:m.cN)(aM:gB w) :
  a7 Tryz.prog F.Hh #[.agg cs.toArray,.int .i64 ref] w fun v w'=>acQ m ref v w'/\Ext w w':=by
 have dw:=h;obtain⟨cd,bw,bO,c1,bV,c2,b2,br,cj,bF,rfl,af,h1,I,ab,aD,eU,ek,ev,ef,ew⟩:=h.form;refine bn E.Hh ?_;refine aa ?_;intro w1 bR dt al av;refine aa ?_;intro aH dx k9 ao cc;have Ip:=ao.obj av;have aI:=al.trans ao;refine aa ?_;refine J_ (x9 _ m aH (dw.ext aI) aK (aM.ext aI)) ?_;rintro _ aP ⟨rfl,aj⟩;have ba:=aI.trans aj;replace av:=aj.obj Ip;replace cc:=aj.obj cc;have z5:=cy cc;have auO:=al.size;clear Ip;refine aa ?_;refine _A (v:=.int .i64 (o.check m).cA) rfl ?_;refine aa ?_;refine I_ (fun hk=>?_) (fun hk=>?_);rotate_left
 .refine aa ?_;intro aR du bH;refine aa ?_;exact⟨.inl ⟨fun aB=>hk aB.1,aU⟩,du.ext ba (by omega)⟩
 have a1:=o.ir hk;have cI:=a1.lim;have kr:=o.yh cI;refine aa ?_;refine J_ (yi _ m aP (dw.ext ba) cI) ?_;rintro lS aR ⟨n0,aA⟩;obtain⟨gR,pP,rfl,_⟩:=n0.form;have vz:bh 2 (Flat o.Ref.enc) aR (.slice gR (o.refs m).length pP) (o.refs m):=aW.iv (enc:=o.Ref.enc) (fun _=>rfl) n0;replace av:=aA.obj av;replace cc:=aA.obj cc;have bG:=ba.trans aA;clear n0;refine aa ?_;apply I_<;>intro g1
 .refine aa ?_;intro bq fb D9;refine aa ?_;exact⟨.inl ⟨fun aB=>by have:=aB.2;omega,aU⟩,fb.ext bG (by omega)⟩
 obtain⟨r,rfl⟩:=Int.eq_ofNat_of_zero_le (show 0<=ref by omega);refine aa ?_;apply I_<;>intro g2
 .refine aa ?_;intro bq fb D9;refine aa ?_;exact⟨.inl ⟨fun aB=>by have:=aB.2;omega,aU⟩,fb.ext bG (by omega)⟩
 have aB:o.Told m r:=⟨hk,by omega,by omega⟩;obtain⟨q,p,k,bC⟩:=o.o8 aB;have au:=bC.at_.U;have ar:=bC.at_.ar;have oG:=bC.at_.hk;have gD:(o.refs m)[r].inst=(q:Int):=bC.at_.pw;have rS:(o.refs m)[r].cmd=(k:Int):=bC.at_.uH;have pg:=bC.at_.ip;obtain⟨kD,rfl⟩:=vz.addr;refine aa ?_;intro bq aJ;replace av:=aJ.obj av;replace cc:=aJ.obj cc;have DW:=vz.ext Flat.ext aJ;have bU:=bG.trans aJ;refine aa ?_;refine J_ (EX _ m bq (dw.ext bU) aK (aM.ext bU)) ?_;rintro _ bB ⟨⟨xs,rfl,zh⟩,aT⟩;rw[o.x7 hk] at zh;have ahD:=zh;replace zh:=zh.here;obtain⟨ml,d0,j0,d1,kX,d2,pB,d3,oP,d4,rfl,_⟩:=zh.form;have c8:=bU.trans aT;refine⟨aT,?_⟩;refine aa ?_;refine J_ (v7 _ m bB (dw.ext c8) aK) ?_;rintro bM bQ ⟨fp,bz⟩;obtain⟨cx,ci,rfl,_⟩:=fp.form;have dQ:=c8.trans bz;refine⟨aT.trans bz,?_⟩;refine aa ?_;intro de iR oC bP c4;have gm:=dQ.trans bP;have BL:ke de (.slice cx (o.insts m).length ci) (o.insts m):=aW.iv (enc:=o.cZ.enc) (fun _=>rfl) (fp.ext bP);have WT:=zh.ext (bz.trans bP);rw[gD] at c4;have Nk:oZ de iR m q:=⟨_,_,_,c4,dw.ext gm,WT,BL⟩;have M1:=(aT.trans bz).trans bP;have WZ:=DW.ext Flat.ext M1;replace av:=M1.obj av;replace cc:=M1.obj cc;have acu:=gm.size;obtain⟨iP,rfl⟩:=BL.addr;obtain⟨a3,rfl⟩:=ab.addr;obtain⟨lM,b7,ec,dD,e2,fO⟩:=ab.at p ar;obtain⟨Fi,Dq,rfl,EY⟩:=fO.form;obtain⟨ac,rfl⟩:=fO.addr;obtain⟨eQ,gu,ea,hf,kP,iX⟩:=fO.at k oG;replace dD:=dD.ext gm;replace hf:=hf.ext gm;obtain⟨gy,ga,rfl,_⟩:=kP.form;obtain⟨wv,vi,rfl,_⟩:=iX.form;unfold o.dz.enc at dD;unfold o.dI.enc at hf;clear zh vz DW WT;refine aa ?_;intro dc ck;replace av:=ck.obj av;replace cc:=ck.obj cc;replace c4:=ck.obj c4;replace WZ:=WZ.ext Flat.ext ck;replace BL:=BL.ext Flat.ext ck;replace dD:=dD.ext ck;replace hf:=hf.ext ck;refine aa ?_;refine K_ p (by rw[pg]) ar ?_;refine aa ?_;refine K_ k (by rw[rS]) oG ?_;refine aa ?_;intro eY oI ko;refine aa ?_;have jQ:Ext w dc:=gm.trans ck;have q5:=aA.size;have q6:=aJ.size;have ao5:=aT.size;have at3:=bz.size;have o9:Ext w eY:=oI.ext jQ (by omega);have ahB:=((ahD.ext ((bz.trans bP).trans ck) ao5).wr oI (by omega)).here;have ai4:ke eY (.slice (some iP) (o.insts m).length ci) (o.insts m):=aW.iv (enc:=o.cZ.enc) (fun _=>rfl) (aW.wr oI (by omega) ((fp.ext bP).ext ck));have la:=o.xl ar oG;refine⟨.inr ⟨iR,q,p,k,.slice gy (o.bI m p k).guard.length ga,.slice wv (o.bI m p k).bY.length vi,bC,by rw[la];rfl,⟨_,_,_,oI.obj c4 (by omega),dw.ext o9,ahB,ai4⟩,?_,?_⟩,o9⟩
 .rw[la];exact kP.ext o9
 .rw[la];exact iX.ext o9
end Go.Proofs.R
end
section
namespace Go.Proofs
open Go.Shelf
def Tryz.Zj:Go.Shelf.Ren:=⟨fun | 7=>192 | 10=>243 | n=>n,fun | 23=>190 | 26=>3 | 3=>3 | 28=>117 | 0=>0 | 27=>116 | 33=>129 | 4=>4 | n=>n,fun | n=>n⟩
theorem Tryz.Pq:Go.Proofs.SlLaysZI.n7 Tryz.prog Tryz.Zj:={
 mixed:=by kernel_rfl
 f7:=⟨Tryz.f192.name,by decide,Tryz.func192.trans (congrArg some (by kernel_rfl))⟩
 f10:=⟨Tryz.f243.name,by decide,Tryz.func243.trans (congrArg some (by kernel_rfl))⟩
 t0:=Tryz.underlying0
 a0:=Tryz.isAgg0
 z0:=Tryz.sizeOf0
 v0:=Tryz.zeroValue0
 t4:=Tryz.underlying4
 a4:=Tryz.isAgg4
 z4:=Tryz.sizeOf4
 v4:=Tryz.zeroValue4
 t23:=Tryz.underlying190
 a23:=Tryz.isAgg190
 z23:=Tryz.sizeOf190
 v23:=Tryz.zeroValue190
 t26:=Tryz.underlying3
 a26:=Tryz.isAgg3
 z26:=Tryz.sizeOf3
 v26:=Tryz.zeroValue3
 t27:=Tryz.underlying116
 a27:=Tryz.isAgg116
 z27:=Tryz.sizeOf116
 v27:=Tryz.zeroValue116
 t28:=Tryz.underlying117
 a28:=Tryz.isAgg117
 z28:=Tryz.sizeOf117
 v28:=Tryz.zeroValue117
 t33:=Tryz.underlying129
 a33:=Tryz.isAgg129
 z33:=Tryz.sizeOf129
 v33:=Tryz.zeroValue129 }
def Tryz.abx:Go.Shelf.Ren:=⟨fun | 6=>191 | 8=>241 | 9=>242 | 11=>276 | 13=>245 | 12=>277 | 23=>286 | 24=>287 | 14=>297 | 15=>298 | 16=>299 | 17=>300 | 18=>301 | 19=>302 | 20=>303 | 21=>304 | 22=>305 | 25=>312 | 26=>307 | 27=>308 | 28=>313 | 29=>314 | 30=>315 | 31=>317 | n=>n,fun | 26=>3 | 28=>117 | 24=>29 | 0=>0 | 3=>3 | 37=>169 | 48=>337 | 50=>52 | 4=>4 | 40=>331 | 39=>330 | 45=>249 | 5=>5 | 9=>9 | 51=>346 | 55=>350 | 57=>355 | 58=>89 | 33=>129 | n=>n,fun | n=>n⟩
theorem Tryz.apK:Go.Proofs.SlLaysZI.n6 Tryz.prog Tryz.abx:={
 mixed:=by kernel_rfl
 f6:=⟨Tryz.f191.name,by decide,Tryz.func191.trans (congrArg some (by kernel_rfl))⟩
 f8:=⟨Tryz.f241.name,by decide,Tryz.func241.trans (congrArg some (by kernel_rfl))⟩
 f11:=⟨Tryz.f276.name,by decide,Tryz.func276.trans (congrArg some (by kernel_rfl))⟩
 t0:=Tryz.underlying0
 a0:=Tryz.isAgg0
 z0:=Tryz.sizeOf0
 v0:=Tryz.zeroValue0
 t24:=Tryz.underlying29
 a24:=Tryz.isAgg29
 z24:=Tryz.sizeOf29
 v24:=Tryz.zeroValue29
 t26:=Tryz.underlying3
 a26:=Tryz.isAgg3
 z26:=Tryz.sizeOf3
 v26:=Tryz.zeroValue3
 t28:=Tryz.underlying117
 a28:=Tryz.isAgg117
 z28:=Tryz.sizeOf117
 v28:=Tryz.zeroValue117
 i26:=by kernel_rfl }
def Tryz.apE:Go.Shelf.Ren:=⟨fun | 5=>242 | 8=>245 | 7=>277 | 19=>286 | 20=>287 | 10=>297 | 11=>298 | 12=>299 | 13=>300 | 14=>301 | 15=>302 | 16=>303 | 17=>304 | 18=>305 | 30=>312 | 31=>307 | 32=>308 | 33=>313 | 34=>314 | 35=>315 | 40=>317 | n=>n,fun | 23=>29 | 25=>3 | 3=>3 | 32=>169 | 22=>29 | 0=>0 | 44=>337 | 46=>52 | 4=>4 | 36=>331 | 35=>330 | 41=>249 | 5=>5 | 9=>9 | 53=>346 | 57=>350 | 63=>355 | 64=>89 | n=>n,fun | n=>n⟩
theorem Tryz.QN:Go.Proofs.SlLaysM.n5 Tryz.prog Tryz.apE:={
 mixed:=by kernel_rfl
 f5:=⟨Tryz.f242.name,by decide,Tryz.func242.trans (congrArg some (by kernel_rfl))⟩
 f7:=⟨Tryz.f277.name,by decide,Tryz.func277.trans (congrArg some (by kernel_rfl))⟩
 f8:=Tryz.func245.trans (congrArg some (by kernel_rfl))
 f10:=⟨Tryz.f297.name,by decide,Tryz.func297.trans (congrArg some (by kernel_rfl))⟩
 f11:=⟨Tryz.f298.name,by decide,Tryz.func298.trans (congrArg some (by kernel_rfl))⟩
 f12:=⟨Tryz.f299.name,by decide,Tryz.func299.trans (congrArg some (by kernel_rfl))⟩
 f13:=⟨Tryz.f300.name,by decide,Tryz.func300.trans (congrArg some (by kernel_rfl))⟩
 f14:=⟨Tryz.f301.name,by decide,Tryz.func301.trans (congrArg some (by kernel_rfl))⟩
 f15:=⟨Tryz.f302.name,by decide,Tryz.func302.trans (congrArg some (by kernel_rfl))⟩
 f16:=⟨Tryz.f303.name,by decide,Tryz.func303.trans (congrArg some (by kernel_rfl))⟩
 f17:=⟨Tryz.f304.name,by decide,Tryz.func304.trans (congrArg some (by kernel_rfl))⟩
 f18:=⟨Tryz.f305.name,by decide,Tryz.func305.trans (congrArg some (by kernel_rfl))⟩
 f19:=Tryz.func286.trans (congrArg some (by kernel_rfl))
 f20:=Tryz.func287.trans (congrArg some (by kernel_rfl))
 f30:=⟨Tryz.f312.name,by decide,Tryz.func312.trans (congrArg some (by kernel_rfl))⟩
 f31:=Tryz.func307.trans (congrArg some (by kernel_rfl))
 f32:=Tryz.func308.trans (congrArg some (by kernel_rfl))
 f33:=⟨Tryz.f313.name,by decide,Tryz.func313.trans (congrArg some (by kernel_rfl))⟩
 f34:=⟨Tryz.f314.name,by decide,Tryz.func314.trans (congrArg some (by kernel_rfl))⟩
 f35:=⟨Tryz.f315.name,by decide,Tryz.func315.trans (congrArg some (by kernel_rfl))⟩
 f40:=⟨Tryz.f317.name,by decide,Tryz.func317.trans (congrArg some (by kernel_rfl))⟩
 t0:=Tryz.underlying0
 a0:=Tryz.isAgg0
 z0:=Tryz.sizeOf0
 v0:=Tryz.zeroValue0
 t3:=Tryz.underlying3
 a3:=Tryz.isAgg3
 z3:=Tryz.sizeOf3
 v3:=Tryz.zeroValue3
 t4:=Tryz.underlying4
 a4:=Tryz.isAgg4
 z4:=Tryz.sizeOf4
 v4:=Tryz.zeroValue4
 t5:=Tryz.underlying5
 a5:=Tryz.isAgg5
 z5:=Tryz.sizeOf5
 v5:=Tryz.zeroValue5
 t9:=Tryz.underlying9
 a9:=Tryz.isAgg9
 z9:=Tryz.sizeOf9
 v9:=Tryz.zeroValue9
 t22:=Tryz.underlying29
 a22:=Tryz.isAgg29
 z22:=Tryz.sizeOf29
 v22:=Tryz.zeroValue29
 t23:=Tryz.underlying29
 a23:=Tryz.isAgg29
 z23:=Tryz.sizeOf29
 v23:=Tryz.zeroValue29
 t25:=Tryz.underlying3
 a25:=Tryz.isAgg3
 z25:=Tryz.sizeOf3
 v25:=Tryz.zeroValue3
 t32:=Tryz.underlying169
 a32:=Tryz.isAgg169
 z32:=Tryz.sizeOf169
 v32:=Tryz.zeroValue169
 t35:=Tryz.underlying330
 a35:=Tryz.isAgg330
 z35:=Tryz.sizeOf330
 v35:=Tryz.zeroValue330
 t36:=Tryz.underlying331
 a36:=Tryz.isAgg331
 z36:=Tryz.sizeOf331
 v36:=Tryz.zeroValue331
 t41:=Tryz.underlying249
 a41:=Tryz.isAgg249
 z41:=Tryz.sizeOf249
 v41:=Tryz.zeroValue249
 t44:=Tryz.underlying337
 a44:=Tryz.isAgg337
 z44:=Tryz.sizeOf337
 v44:=Tryz.zeroValue337
 t46:=Tryz.underlying52
 a46:=Tryz.isAgg52
 z46:=Tryz.sizeOf52
 v46:=Tryz.zeroValue52
 t53:=Tryz.underlying346
 a53:=Tryz.isAgg346
 z53:=Tryz.sizeOf346
 v53:=Tryz.zeroValue346
 t57:=Tryz.underlying350
 a57:=Tryz.isAgg350
 z57:=Tryz.sizeOf350
 v57:=Tryz.zeroValue350
 t63:=Tryz.underlying355
 a63:=Tryz.isAgg355
 z63:=Tryz.sizeOf355
 v63:=Tryz.zeroValue355
 t64:=Tryz.underlying89
 a64:=Tryz.isAgg89
 z64:=Tryz.sizeOf89
 v64:=Tryz.zeroValue89 }
end Go.Proofs
end
section
namespace Go.Proofs
open Go Go.RowKit Go.Maps Go.Sort Go.Shelf
theorem Tryz.apM(m:Nat):AnyZI.SortsIn Tryz.prog Tryz.abx Fence.wide m :=
 ⟨fun cu off cap b5 W hH hblk dy=>callsIn_wide.2 (AnyM.slices_Sort_int Tryz.QN cu off cap b5 W hH hblk dy),fun p cap W=>callsIn_wide.2 (AnyM.slices_Sort_int_none Tryz.QN p cap W)⟩
end Go.Proofs
namespace Go.Proofs.R
open Go Go.RowKit Go.Maps Go.Sort Go.Shelf bb
theorem ala(Fe:H_ Nat)(w:A_):a7 Tryz.prog F.jz #[.map Fe] w fun v w'=>v = .func (.func F.DJ) #[] #[.pointer (some ⟨w.heap.size,0,none⟩)]/\w'=w.alloc (.cells #[.map Fe] T.s):=by
 have h:CallsIn Fence.wide 5 Tryz.prog F.jz #[.map Fe] w fun e w'=>e = .returned (.func (.func F.DJ) #[] #[.pointer (some ⟨w.heap.size,0,none⟩)])/\w'=w.alloc (.cells #[.map Fe] T.s):=AnyZI.keys_in Tryz.Pq Fence.wide 5 trivial rfl Fe w;exact Calls.mono (callsIn_wide.1 h) fun e w' ⟨h1,I⟩=>⟨_,h1,rfl,I⟩
theorem ZQ:∀l:C_ Int,l.map encZ=l.flatMap cR
 | []=>rfl
 | x :: l=>by rw[List.map_cons,List.flatMap_cons,ZQ l];rfl
theorem apL(b:Nat)(L:C_ Int)(w:A_)(h:fi w b L)(cI:L.length<=1000000) :
  a7 Tryz.prog F.ge #[.func (.func F.DJ) #[] #[.pointer (some ⟨w.heap.size,0,none⟩)]] (w.alloc (.cells #[.map (some b)] T.s)) fun v w'=>(∃r,aW cR T.a 1 (w.alloc (.cells #[.map (some b)] T.s)).heap.size w' v r/\o.sr L r)/\Ext (w.alloc (.cells #[.map (some b)] T.s)) w':=by
 obtain⟨tB,fB,dy,ON⟩:=h.own (P:=Tryz.prog) (k:=T.a) (by kernel_rfl) (by unfold maxLen;omega);have Im:=fB.lt;have s0:SeqGives Fence.wide 2 Tryz.prog F.DJ #[.pointer (some ⟨w.heap.size,0,none⟩)] encZ (fun b5=>b5.Perm (intKeys tB)) (Maps.size tB) (w.alloc (.cells #[.map (some b)] T.s)) :=
  AnyZI.keys_gives (ρ:=Tryz.Zj) { Tryz.Pq with } Fence.wide _ trivial rfl (by omega) w.heap.size b _ tB _ (by simp) (by simp) (by
   obtain⟨es,clock,ak,acH,an,h4⟩:=fB;exact⟨es,clock,(Below.heap_alloc _ _ b Im).trans ak,acH,an,h4⟩)
 have U1:=AnyZI.sorted_in Tryz.apK Fence.wide 5 trivial trivial trivial trivial rfl (by omega) (Tryz.apM _) (Tryz.QN.f5.enters rfl) F.DJ #[.pointer (some ⟨w.heap.size,0,none⟩)] trivial (Tryz.Pq.f10.enters rfl) _ _ (by unfold maxLen;omega) (by omega) _ s0;change CallsIn _ _ Tryz.prog F.ge _ _ _ at U1;refine Calls.mono (callsIn_wide.1 U1) ?_;rintro e w' ⟨v,b5,rfl,bZ,mF,_,ak⟩;obtain⟨h1,I⟩:=ON b5 bZ;refine⟨v,rfl,⟨b5.mergeSort fun x y=>decide (x<=y),?_,apJ h1,fun x=>?_⟩,ak⟩
 .unfold aW;rw[<-ZQ,List.length_mergeSort];exact mF
 .rw[(List.mergeSort_perm b5 _).mem_iff];exact I x
theorem aaW(b:Nat)(L:C_ Int)(w:A_)(h:fi w b L)(cI:L.length<=1000000) :
  a7 Tryz.prog F.qC #[.map (some b)] w fun v w'=>(∃r,aW cR T.a 1 w.heap.size w' v r/\o.sr L r)/\Ext w w':=by
 have he:Ext w (w.alloc (.cells #[.map (some b)] T.s)):=(Ext.refl w).alloc _;have hk:=ala (some b) w;have an:=apL b L w h cI;generalize w.alloc (.cells #[.map (some b)] T.s)=w1 at he hk an;refine bn E.qC ?_;refine aa ?_;refine J_ hk ?_;rintro _ _ ⟨rfl,rfl⟩;refine aa ?_;refine J_ an ?_;rintro v aH ⟨⟨r,aM,aL⟩,ao⟩;refine aa ?_;exact⟨⟨r,aW.low he.size aM,aL⟩,he.trans ao⟩
end Go.Proofs.R
end
section
namespace Go.Proofs.R
open Go Go.RowKit bb
theorem Tj(cs:C_ B_)(m:o.Model)(ref:Int)(w:A_)(h:o.dV w cs m)(aK:m.cN)(aM:gB w) :
  a7 Tryz.prog F.rr #[.agg cs.toArray,.int .i64 ref] w fun v w'=>(∃ea ly a b,v = .tuple #[ea,ly]/\aW cR T.a 1 w.heap.size w' ea a/\aW cR T.a 1 w.heap.size w' ly b/\o.kf m ref a b)/\Ext w w':=by
 have dw:=h;obtain⟨cd,bw,bO,c1,bV,c2,b2,br,cj,bF,rfl,_⟩:=h.form;refine bn E.rr ?_;refine aa ?_;intro w1 bR dt al av;refine aa ?_;refine J_ (amW _ m ref w1 (dw.ext al) aK (aM.ext al)) ?_;rintro _ aH ⟨hO,ao⟩;replace av:=ao.obj av;have aI:=al.trans ao;rcases hO with ⟨ajG,rfl⟩ | ⟨b,q,p,k,gu,ea,bC,rfl,mA,kP,iX⟩
 .unfold Vc;refine aa ?_;intro wn dP fX fm eQ;refine aa ?_;intro aP gd b4;refine aa ?_;exact⟨⟨_,_,[],[],rfl,aW.nil _ _ _ _ _,aW.nil _ _ _ _ _,o.kf.nil ajG⟩,aI.trans (gd.ext fm fX)⟩
 obtain⟨gy,ga,rfl,_⟩:=kP.form;obtain⟨wv,vi,rfl,_⟩:=iX.form;have a1:=o.ir bC.ok;have a8:=bC.inst;have rL:=bC.cin;have sU:=rL.gU;obtain⟨c,Ee⟩:∃c,c=o.bI m p k:=⟨_,rfl⟩;rw[<-Ee] at rL sU kP iX ⊢;unfold o.dI.enc;refine aa ?_;intro wn ho h6 fm eQ;refine aa ?_;intro aP gd c9;have aj:Ext aH aP:=gd.ext fm h6;clear fm eQ gd;have ba:=aI.trans aj;have DZ:=mA.ext aj;have ajC:=kP.ext aj;have On:=iX.ext aj;have II:=o.EN a1 a8.au;clear av mA kP iX;refine aa ?_;refine _g fun aR o4 Nr aA Eh=>?_;refine aa ?_;refine _g fun bq c3 asr aJ ub=>?_;have EC:=(fi.empty Eh).ext aJ;have fb:=fi.empty ub;have cw:o4≠c3:=by have:=cy Eh;omega
 have jM:=aA.trans aJ;have Eb:=jM.obj c9;have ah7:aP.heap.size<=c3:=by have:=aA.size;omega
 clear Eh ub;refine aa ?_;refine J_ (En b q m bq (DZ.ext jM) a8.au) ?_;rintro _ bB ⟨rfl,aT⟩;refine aa ?_;refine J_ (tp o4 [] (o.dj m q) 1 _ _ bB (EC.ext aT) rfl rfl (by omega)) ?_;rintro _ bQ ⟨Yr,h8⟩;have dT:=(fb.ext aT).mod h8 (Ne.symm cw);have gK:=h8.ext (jM.trans aT) fun k hk e=>by omega
 refine aa ?_;refine J_ (En b q m bQ (DZ.ext gK) a8.au) ?_;rintro _ de ⟨rfl,bP⟩;refine aa ?_;refine J_ (tp c3 [] (o.dj m q) 1 _ _ de (dT.ext bP) rfl rfl (by omega)) ?_;rintro _ dc ⟨hG,mB⟩;have Ys:=(Yr.ext bP).mod mB cw;have gS:=mB.ext (gK.trans bP) fun k hk e=>by omega
 have aim:=gS.obj c9;refine aa ?_;refine J_ (DH c.guard _ b o4 q p _ m aP dc DZ gS Nr Ys a1 a8 ajC rL.guard) ?_;rintro _ eY ⟨OC,rO⟩;have oI:=hG.mod rO (Ne.symm cw);have rl:=rO.ext gS fun k hk e=>by omega
 have ail:=rl.obj c9;rw[List.nil_append] at oI OC;have Wz:fi eY o4 (o.q4 m q c 0):=by
  unfold o.q4 o.H5;rw[List.take_zero,List.flatMap_nil,List.append_nil];exact OC
 have WA:fi eY c3 (o.nB m q c 0):=by
  unfold o.nB;rw[List.take_zero,List.flatMap_nil,List.append_nil];exact oI
 clear EC fb Yr dT Ys hG OC oI Eb aim h8 mB rO aT bP jM gK gS;refine aa ?_;refine L_ 40 c.bY.length [6,7,9,10,38,39] (fun _:Unit=>[]) () (fun n _ W=>Ext aP W/\fi W o4 (o.q4 m q c n)/\fi W c3 (o.nB m q c n)) bc bc ⟨rl,Wz,WA⟩ ?_;clear ail Wz WA rl;rintro n _ S gw ay ⟨se,OD,ia⟩;have ajx:=On.ext se;refine aa ?_;apply I_<;>intro g1
 .have l8:n<c.bY.length:=by omega
  obtain⟨o1,rfl⟩:=On.addr;obtain⟨bM,b7,tY,qR,rP⟩:=On.at n l8;have W7:=rL.act n l8;obtain⟨cx,ci,rfl,_⟩:=qR.form;obtain⟨e4,fL,rfl,_⟩:=rP.form;replace tY:=tY.ext se;clear ajx;refine aa ?_;intro jr AV sR fz iC;have pE:=se.trans fz;have OE:=OD.ext fz;have ln:=ia.ext fz;have lq:¬AV=o4:=fun e=>by subst e;obtain⟨_,_,h,_⟩:=OE.ex;rw[iC] at h;cases h
  have ku:¬AV=c3:=fun e=>by subst e;obtain⟨_,_,h,_⟩:=ln.ex;rw[iC] at h;cases h
  clear tY OD ia;refine aa ?_;refine J_ (aoo c.bY[n] _ _ b o4 q p _ m aP jr DZ pE Nr OE a1 a8 qR rP W7) ?_;rintro _ nA ⟨aj7,sX⟩;have jX:=ln.mod sX (Ne.symm cw);have wT:=sX.ext pE fun k hk e=>by omega
  replace iC:=sX.obj lq iC;clear OE ln;refine aa ?_;refine J_ (aq9 c.bY[n] _ _ b c3 q p _ m aP nA DZ wT ah7 jX a1 a8 qR W7) ?_;rintro _ wM ⟨x2,IS⟩;have aj8:=aj7.mod IS cw;have yA:=IS.ext wT fun k hk e=>by omega
  refine aa ?_;exact⟨l8,aU,(),trivial,yA,by rw[o.aaP l8];exact aj8,by rw[o.ack l8];exact x2⟩
 .have Yi:c.bY.length=n:=by omega
  have kr:=(o.aaQ a1 a8 rL n (by omega)).len;have I8:=(o.acm a1 a8 rL n (by omega)).len;refine aa ?_;refine J_ (aaW o4 _ gw OD (by omega)) ?_;rintro u jr ⟨⟨aog,ajK,akb⟩,fz⟩;refine aa ?_;refine J_ (aaW c3 _ jr (ia.ext fz) (by omega)) ?_;rintro yu nA ⟨⟨Qm,ajL,akc⟩,iD⟩;refine aa ?_;have Rw:=(ba.trans se).size;have z12:=fz.size;refine⟨⟨_,_,aog,Qm,rfl,aW.ext iD (aW.low Rw ajK),aW.low (Nat.le_trans Rw z12) ajL,?_⟩,((ba.trans se).trans fz).trans iD⟩;subst Ee;refine o.kf.of bC ?_ ?_
  .rw[Yi];exact akb
  .rw[Yi];exact akc
theorem acP(cs:C_ B_)(m:o.Model)(ref:Int)(w:A_)(h:o.dV w cs m)(aK:m.cN)(aM:gB w) :
  a7 Tryz.prog F.rr #[.agg cs.toArray,.int .i64 ref] w fun v w'=>(∃ea ly a b,v = .tuple #[ea,ly]/\ee w' ea a/\ee w' ly b/\o.kf m ref a b)/\Ext w w' :=
 (Tj cs m ref w h aK aM).mono fun v w' ⟨⟨ea,ly,a,b,aG,aV,ak,bE⟩,he⟩=>⟨⟨ea,ly,a,b,aG,aW.iv (enc:=cR) (fun _=>rfl) aV,aW.iv (enc:=cR) (fun _=>rfl) ak,bE⟩,he⟩
end Go.Proofs.R
end
section
namespace bb
open Go Go.RowKit
structure ark(e:TypeId)(base:Nat)(w:World)(v1:Value)(ek:List Int)(v2:Value)(ev:List Int):Prop where
 eb:aW cR e 1 base w v1 ek
 dG:aW cR e 1 base w v2 ev
 ap:∀k,v1.ownBlock=some k->v2.ownBlock≠some k
end bb
end
section
namespace o
open Go
theorem af9(x:Node)(h : -1000<=x.op/\x.op<=1000 /\ -1000<=x.n/\x.n<=1000):x.ok:=⟨oJ ⟨h.1,h.2.1⟩,oJ h.2.2⟩
end o
end
section
namespace o
theorem aaE{s:C_ Scalar}{c:dv}{l:C_ Int}(aF:l.length=1+c.cap.toNat)(af:1<=c.cap):lA s c l↔(0<=l[0]'(by omega)/\l[0]'(by omega)<=c.cap/\∀k (h:k+1<l.length),((k:Int)<l[0]'(by omega)->(e7 c.scalar c.aO c.U s).aO<=l[k+1]/\l[k+1]<=(e7 c.scalar c.aO c.U s).U)/\(l[0]'(by omega)<=k->l[k+1]=0)):=by
 unfold lA;constructor
 .rintro⟨n,h1,I,ab,aD⟩;obtain⟨_,rfl⟩:=List.getElem?_eq_some_iff.1 h1;refine⟨I,ab,fun k h=>?_⟩;obtain⟨x,aY,bx⟩:=aD k (by omega);obtain⟨_,rfl⟩:=List.getElem?_eq_some_iff.1 aY;exact bx
 .rintro⟨I,ab,aD⟩;exact⟨l[0]'(by omega),List.getElem?_eq_getElem _,I,ab,fun k h=>⟨l[k+1]'(by omega),List.getElem?_eq_getElem _,aD k (by omega)⟩⟩
end o
namespace Go.Proofs.R
open Go Go.RowKit bb
theorem w7.form{w:A_}{b:Nat}{m:o.Model}(h:w7 w b m):∃cd bw bO c1 bV c2 b2 br cj bF ff d0 dZ d1 eK d2 e5 d3 fu d4 cx ci,
  w.heap[b]? = some (.cells #[.slice cd (o.layout m).vars.length bw,.slice bO (o.layout m).aw.length c1,.slice bV (o.layout m).insts.length c2,.int .i64 (o.layout m).cells,.slice b2 (o.layout m).aO.length br,.slice cj (o.layout m).U.length bF,
   .slice ff m.scalars.length d0,.slice dZ m.vars.length d1,.slice eK m.aw.length d2,.slice e5 m.procs.length d3,.slice fu m.props.length d4,.slice cx (o.insts m).length ci] T.tI) /\
  bh 1 (Flat cR) w (.slice cd (o.layout m).vars.length bw) (o.layout m).vars/\bh 1 (Flat cR) w (.slice bO (o.layout m).aw.length c1) (o.layout m).aw/\bh 1 (Flat cR) w (.slice bV (o.layout m).insts.length c2) (o.layout m).insts /\
  bh 1 (Flat cR) w (.slice b2 (o.layout m).aO.length br) (o.layout m).aO/\bh 1 (Flat cR) w (.slice cj (o.layout m).U.length bF) (o.layout m).U /\
  o.h2 w (.slice ff m.scalars.length d0) m.scalars/\o.hP w (.slice dZ m.vars.length d1) m.vars/\o.mS w (.slice eK m.aw.length d2) m.aw/\o.qp w (.slice e5 m.procs.length d3) m.procs /\
  ke w (.slice cx (o.insts m).length ci) (o.insts m):=by
 obtain⟨xs,cs,bM,ak,cI,a1,a8⟩:=h.ex;obtain⟨cd,bw,bO,c1,bV,c2,b2,br,cj,bF,rfl,eF,eb,dG,fg,gq⟩:=cI.form;obtain⟨ff,d0,dZ,d1,eK,d2,e5,d3,fu,d4,rfl,af,h1,I,ab,aD,_⟩:=a1.form;obtain⟨cx,ci,rfl,_⟩:=a8.form;exact⟨cd,bw,bO,c1,bV,c2,b2,br,cj,bF,ff,d0,dZ,d1,eK,d2,e5,d3,fu,d4,cx,ci,ak,eF,eb,dG,fg,gq,af,h1,I,ab,a8⟩
theorem an8(b i:Nat)(v:B_)(s:C_ Int)(m:o.Model)(w:A_)(aL:w7 w b m)(a1:o.eL m)(U:i<m.aw.length)(an:ee w v s)(aF:s.length=o.dW m) :
  a7 Tryz.prog F.Hf #[.pointer (some ⟨b,0,none⟩),.int .i64 i,v] w fun u w'=>(∃t:Bool,u = .bool t/\(t=true↔o.lA m.scalars m.aw[i] (o.mv m i m.aw[i] s)))/\Ext w w':=by
 obtain⟨cd,bw,bO,c1,bV,c2,b2,br,cj,bF,ff,d0,dZ,d1,eK,d2,e5,d3,fu,d4,cx,ci,ak,eF,eb,dG,fg,gq,af,h1,I,ab,a8⟩:=aL.form;obtain⟨e4,fL,rfl,fH⟩:=an.form;have di:=a1.chan _ (List.getElem_mem U);have h7:=di.cap;have gU:=a1.gU;obtain⟨kp,fl⟩:=o.vh U;have nn:=o.tL U;have eQ:=o.nR m;have mz:o.dW m<=64:=o.kt a1;obtain⟨ac,rfl⟩:=I.addr;obtain⟨df,rfl⟩:=eb.addr;have eo:=(I.at i U).cells;refine bn E.Hf ?_;refine aa ?_;intro w1 ho h6 al c9;replace ak:=al.obj ak;replace af:=af.ext al;replace eb:=eb.ext Flat.ext al;replace an:=an.ext Flat.ext al;clear eo h1 I ab a8 eF dG fg gq aL;refine aa ?_;refine P_ (.tuple #[.int .i64 (o.e7 m.aw[i].scalar m.aw[i].aO m.aw[i].U m.scalars).aO,.int .i64 (o.e7 m.aw[i].scalar m.aw[i].aO m.aw[i].U m.scalars).U]) (fun w' e=>by
  rw[show o.e7 m.aw[i].scalar m.aw[i].aO m.aw[i].U m.scalars=_ from o.yU ⟨⟨#[]⟩,m.aw[i].scalar,0,m.aw[i].aO,m.aw[i].U,0⟩ m.scalars];exact GO ⟨⟨#[]⟩,m.aw[i].scalar,0,m.aw[i].aO,m.aw[i].U,0⟩ _ m.scalars w' (af.ext e)) ?_
 refine aa ?_;intro aH ao;replace ak:=ao.obj ak;replace eb:=eb.ext Flat.ext ao;replace an:=an.ext Flat.ext ao;replace c9:=ao.obj c9;have aI:=al.trans ao;obtain⟨aO,jl⟩:∃aO,aO=(o.e7 m.aw[i].scalar m.aw[i].aO m.aw[i].U m.scalars).aO:=⟨_,rfl⟩;obtain⟨cE,xO⟩:∃U,U=(o.e7 m.aw[i].scalar m.aw[i].aO m.aw[i].U m.scalars).U:=⟨_,rfl⟩;rw[<-jl,<-xO];refine aa ?_;refine _b (k:=.i64) (k':=.i64) (o.cq m i) (o.cq m i+(1+m.aw[i].cap.toNat)) an (by simp[dp,bL,fl]) (by simp[dp,bL,fl];omega) (by omega) (by omega) fun ad c ar=>?_;rw[show o.cq m i+(1+m.aw[i].cap.toNat) - o.cq m i=1+m.aw[i].cap.toNat from by omega] at ar ⊢;obtain⟨l,cI⟩:∃l,l=o.mv m i m.aw[i] s:=⟨_,rfl⟩;have ar:bh 1 (Flat cR) aH (.slice ad (1+m.aw[i].cap.toNat) c) l:=by rw[cI];exact ar
 have xR:l.length=1+m.aw[i].cap.toNat:=ar.len.1.symm;rw[<-cI];obtain⟨ap,rfl⟩:=ar.addr;refine aa ?_;intro aP aj;replace ar:=ar.ext Flat.ext aj;replace c9:=aj.obj c9;have ba:=aI.trans aj;have au:=o.aaE (s:=m.scalars) (c:=m.aw[i]) (l:=l) xR h7.1;rw[<-jl,<-xO] at au;refine aa ?_;refine K_ 0 rfl (by omega) ?_;refine aa ?_;apply I_<;>intro g1
 .refine aa ?_;intro aR aA;exact⟨⟨false,rfl,by simp only[Bool.false_eq_true,false_iff];intro h;exact absurd (au.1 h).1 (by omega)⟩,ba.trans aA⟩
 refine aa ?_;refine K_ 0 rfl (by omega) ?_;refine aa ?_;intro aR aA;replace ar:=ar.ext Flat.ext aA;replace c9:=aA.obj c9;replace ba:=ba.trans aA;apply I_<;>intro g2
 .refine aa ?_;exact⟨⟨false,rfl,by simp only[Bool.false_eq_true,false_iff];intro h;exact absurd (au.1 h).2.1 (by omega)⟩,ba⟩
 have aB:=ar.tail 1 (by omega);refine aa ?_;refine _6 (k:=.i64) 1 (by simp[nT]) ⟨by omega,ar.len.2.1⟩ ?_;obtain⟨Ko,het⟩:∃Ko,Ko=(if c=1 then some ap else (some ap).map (·.add (1*1))):=⟨_,rfl⟩;rw[<-het] at aB ⊢;have as1:(l.drop 1).length=m.aw[i].cap.toNat:=by rw[List.length_drop];omega
 rw[show 1+m.aw[i].cap.toNat - 1=m.aw[i].cap.toNat from by omega] at aB ⊢;refine aa ?_;refine L_ 74 m.aw[i].cap.toNat [7,8,9,10,72,73] (fun _:Unit=>[]) () (fun k _ W=>Ext aR W/\∀j (h:j+1<l.length),j<k->((j:Int)<l[0]->aO<=l[j+1]/\l[j+1]<=cE)/\(l[0]<=j->l[j+1]=0)) bc bc ⟨Ext.refl _,fun j _ h=>absurd h (Nat.not_lt_zero _)⟩ ?_;have Nv:=c9;clear c9;rintro k _ S bq hk ⟨aJ,dA⟩;have c9:=aJ.obj Nv;have bG:=ba.trans aJ;refine aa ?_;apply I_<;>intro g3
 .have aZ:k<(l.drop 1).length:=by omega
  have cH:k+1<l.length:=by omega
  obtain⟨at_,rfl⟩:=aB.addr;have aG:(l.drop 1)[k]=l[k+1]:=by simp[Nat.add_comm]
  have bad:¬(((k:Int)<l[0]->aO<=l[k+1]/\l[k+1]<=cE)/\(l[0]<=k->l[k+1]=0))->(false=true↔o.lA m.scalars m.aw[i] l):=fun h=>by
   simp only[Bool.false_eq_true,false_iff];exact fun cU=>h ((au.1 cU).2.2 k cH)
  refine aa ?_;refine K_ 0 rfl (by omega) ?_;refine aa ?_;apply I_<;>intro g4
  .refine aa ?_;apply I_<;>intro g5
   .refine aa ?_;exact⟨⟨false,rfl,bad fun h=>by have:=h.1 g4;omega⟩,bG⟩
   refine aa ?_;apply I_<;>intro g6
   .refine aa ?_;exact⟨⟨false,rfl,bad fun h=>by have:=h.1 g4;omega⟩,bG⟩
   refine aa ?_;refine K_ 0 rfl (by omega) ?_;refine aa ?_;refine⟨by omega,aU,(),trivial,aJ,fun j h aE=>?_⟩;by_cases gV:j=k
   .subst gV;exact⟨fun _=>by omega,fun _=>by omega⟩
   .exact dA j h (by omega)
  .refine aa ?_;refine K_ 0 rfl (by omega) ?_;refine aa ?_;apply I_<;>intro g5
   .refine aa ?_;refine⟨by omega,aU,(),trivial,aJ,fun j h aE=>?_⟩;by_cases gV:j=k
    .subst gV;exact⟨fun _=>by omega,fun _=>by omega⟩
    .exact dA j h (by omega)
   .refine aa ?_;exact⟨⟨false,rfl,bad fun h=>by have:=h.2 (by omega);omega⟩,bG⟩
 .refine aa ?_;exact⟨⟨true,rfl,by simp only[true_iff];exact au.2 ⟨by omega,by omega,fun j h=>dA j h (by omega)⟩⟩,bG⟩
theorem aoL(b:Nat)(v:B_)(s:C_ Int)(m:o.Model)(w:A_)(aL:w7 w b m)(a1:o.eL m)(an:ee w v s) :
  a7 Tryz.prog F.xq #[.pointer (some ⟨b,0,none⟩),v] w fun u w'=>(∃t:Bool,u = .bool t/\(t=true↔o.Fits m s))/\Ext w w':=by
 obtain⟨cd,bw,bO,c1,bV,c2,b2,br,cj,bF,ff,d0,dZ,d1,eK,d2,e5,d3,fu,d4,cx,ci,ak,eF,eb,dG,fg,gq,af,h1,I,ab,a8⟩:=aL.form;obtain⟨e4,fL,rfl,fH⟩:=an.form;have y7:(o.layout m).cells=(o.dW m:Int):=rfl;have f2:=o.PB m;have f3:=o.Pz m;have mz:o.dW m<=64:=o.kt a1;have gU:=a1.gU;refine bn E.xq ?_;refine aa ?_;apply I_<;>intro g1;rotate_left
 .refine aa ?_;exact⟨⟨false,rfl,by simp only[Bool.false_eq_true,false_iff];intro h;have:=h.len;omega⟩,Ext.refl _⟩
 have aF:s.length=o.dW m:=by omega
 clear af h1 ab a8 eF eb dG;refine aa ?_;refine L_ 22 m.aw.length [0,1,20,21] (fun _:Unit=>[]) () (fun k _ W=>Ext w W/\∀j (h:j<m.aw.length),j<k->o.lA m.scalars m.aw[j] (o.mv m j m.aw[j] s)) bc bc ⟨Ext.refl _,fun j _ h=>absurd h (Nat.not_lt_zero _)⟩ ?_;rintro k _ S w1 hk ⟨al,dA⟩;refine aa ?_;apply I_<;>intro g2
 .have aZ:k<m.aw.length:=by omega
  refine aa ?_;refine J_ (an8 b k _ s m w1 (aL.ext al) a1 aZ (an.ext Flat.ext al) aF) ?_;rintro _ aH ⟨⟨t,rfl,aB⟩,ao⟩;cases t with
  | false =>
   refine aa ?_;exact⟨⟨false,rfl,by simp only[Bool.false_eq_true,false_iff];intro h;exact absurd (aB.2 (h.queue k aZ)) (by simp)⟩,al.trans ao⟩
  | true =>
   refine aa ?_;refine⟨aZ,aU,(),trivial,al.trans ao,fun j h aE=>?_⟩;by_cases gV:j=k
   .subst gV;exact aB.1 rfl
   .exact dA j h (by omega)
 have aj6:∀j (h:j<m.aw.length),o.lA m.scalars m.aw[j] (o.mv m j m.aw[j] s):=fun j h=>dA j h (by omega);have Bu:=al.obj ak;refine aa ?_;refine L_ 33 s.length [0,1,31,32] (fun _:Unit=>[]) () (fun k _ W=>W=w1/\∀j (h:j<s.length) (bd:j<(o.bX m).length),j<k->(o.bX m)[j].aO<=s[j]/\s[j]<=(o.bX m)[j].U) bc bc ⟨rfl,fun j _ _ h=>absurd h (Nat.not_lt_zero _)⟩ ?_;clear ak;rintro k' _ aX aH cH ⟨rfl,Bs⟩;refine aa ?_;apply I_<;>intro g3
 .have aZ:k'<s.length:=by omega
  have nq:k'<(o.bX m).length:=by unfold o.dW at aF;omega
  have ef:(o.layout m).aO[k']'(by omega)=(o.bX m)[k'].aO:=o.PA _ nq;have ew:(o.layout m).U[k']'(by omega)=(o.bX m)[k'].U:=o.Py _ nq;obtain⟨yR,rfl⟩:=an.addr;obtain⟨a3,rfl⟩:=fg.addr;obtain⟨a4,rfl⟩:=gq.addr;have bad:¬((o.bX m)[k'].aO<=s[k']/\s[k']<=(o.bX m)[k'].U)->(false=true↔o.Fits m s):=fun h=>by
   simp only[Bool.false_eq_true,false_iff];exact fun cU=>h (cU.cell k' aZ nq)
  refine aa ?_;apply I_<;>intro g4
  .refine aa ?_;exact⟨⟨false,rfl,bad (by omega)⟩,al⟩
  refine aa ?_;apply I_<;>intro g5
  .refine aa ?_;exact⟨⟨false,rfl,bad (by omega)⟩,al⟩
  refine aa ?_;refine⟨aZ,aU,(),trivial,aU,fun j h bd aE=>?_⟩;by_cases gV:j=k'
  .subst gV;omega
  .exact Bs j h bd (by omega)
 .refine aa ?_;exact⟨⟨true,rfl,by simp only[true_iff];exact⟨aF,aj6,fun j h bd=>Bs j h bd (by omega)⟩⟩,al⟩
end Go.Proofs.R
end
section
namespace o
open Classical in
noncomputable def Ft(s:C_ Scalar)(c:dv)(l:C_ Int):Bool:=decide (lA s c l)
theorem Qi{s:C_ Scalar}{c:dv}{l:C_ Int}:Ft s c l=true↔lA s c l:=by unfold Ft;simp
theorem an6{s:C_ Scalar}{c:dv}{l:C_ Int}{t:Bool}(h:t=true↔lA s c l):t=Ft s c l:=by
 rw[<-Qi] at h;cases t<;>cases au:Ft s c l<;>simp_all
end o
namespace Go.Proofs.R
open Go Go.RowKit bb
theorem abF(cs:C_ B_)(m:o.Model)(v:B_)(s:C_ Int)(w:A_)(h:o.dV w cs m)(aK:m.cN)(aM:gB w)(an:ee w v s) :
  a7 Tryz.prog F.k5 #[.agg cs.toArray,v] w fun u w'=>(∃t:Bool,u = .bool t/\(t=true↔o.hb m s))/\Ext w w':=by
 have a1:=h;obtain⟨cd,bw,bO,c1,bV,c2,b2,br,cj,bF,rfl,_⟩:=h.form;refine bn E.k5 ?_;refine aa ?_;intro w1 bo cT al ai;refine aa ?_;refine J_ (aop _ m w1 (a1.ext al) aK (aM.ext al)) ?_;rintro _ aH ⟨aL,ao⟩;have aI:=al.trans ao;rcases aL with ⟨rfl,hk⟩ | ⟨b,rfl,hk,aL⟩
 .refine aa ?_;refine AB3 (by kernel_rfl) ?_;refine aa ?_;exact⟨⟨false,rfl,by simp only[Bool.false_eq_true,false_iff];exact fun h=>hk h.1⟩,aI⟩
 .refine aa ?_;refine AB4 (by kernel_rfl) ?_;refine aa ?_;refine J_ (aoL b _ s m aH aL (o.ir hk) (an.ext Flat.ext aI)) ?_;rintro _ aP ⟨⟨t,rfl,aB⟩,aj⟩;refine aa ?_;exact⟨⟨t,by cases t<;>rfl,aB.trans ⟨fun h=>⟨hk,h⟩,fun h=>h.2⟩⟩,aI.trans aj⟩
theorem ZR(cs:C_ B_)(m:o.Model)(w:A_)(h:o.dV w cs m)(aK:m.cN) :
  a7 Tryz.prog F.E6 #[.agg cs.toArray] w fun v w'=>v = .bool (decide ((o.check m).cA=0))/\Ext w w':=by
 obtain⟨cd,bw,bO,c1,bV,c2,b2,br,cj,bF,rfl,_⟩:=h.form;refine bn E.E6 ?_;refine aa ?_;intro w1 bo cT al ai;refine aa ?_;refine J_ (Qs _ m w1 (h.ext al) aK) ?_;rintro _ aH ⟨rfl,ao⟩;unfold xw;refine aa ?_;refine _A (v:=.int .i64 (o.check m).cA) rfl ?_;refine aa ?_;exact⟨aU,al.trans ao⟩
theorem aom(cs:C_ B_)(m:o.Model)(v:B_)(l:C_ Int)(i:Nat)(w:A_)(h:o.dV w cs m)(a1:o.eL m)(U:i<m.aw.length)(ar:ee w v l)(xR:l.length=1+m.aw[i].cap.toNat) :
  a7 Tryz.prog F.J9 #[.agg cs.toArray,v,.int .i64 i] w fun u w'=>(∃t:Bool,u = .bool t/\(t=true↔o.lA m.scalars m.aw[i] l))/\Ext w w':=by
 obtain⟨cd,bw,bO,c1,bV,c2,b2,br,cj,bF,rfl,af,h1,I,ab,aD,eU,ek,ev,ef,ew⟩:=h.form;obtain⟨e4,fL,rfl,fH⟩:=ar.form;have di:=a1.chan _ (List.getElem_mem U);have h7:=di.cap;have gU:=a1.gU;obtain⟨ac,rfl⟩:=I.addr;obtain⟨ap,rfl⟩:=ar.addr;have eo:=(I.at i U).cells;have au:=o.aaE (s:=m.scalars) (c:=m.aw[i]) (l:=l) xR h7.1;obtain⟨aO,jl⟩:∃aO,aO=(o.e7 m.aw[i].scalar m.aw[i].aO m.aw[i].U m.scalars).aO:=⟨_,rfl⟩;obtain⟨cE,xO⟩:∃U,U=(o.e7 m.aw[i].scalar m.aw[i].aO m.aw[i].U m.scalars).U:=⟨_,rfl⟩;rw[<-jl,<-xO] at au;refine bn E.J9 ?_;refine aa ?_;intro w1 bo cT al ai;replace eo:=eo.ext al;refine aa ?_;intro aH ho h6 ao c9;replace ai:=ao.obj ai;have aI:=al.trans ao;replace ar:=ar.ext Flat.ext aI;clear eo;refine aa ?_;refine K_ 0 rfl (by omega) ?_;refine aa ?_;apply I_<;>intro g1
 .refine aa ?_;intro aP aj;refine aa ?_;exact⟨⟨false,rfl,by simp only[Bool.false_eq_true,false_iff];intro h;exact absurd (au.1 h).1 (by omega)⟩,aI.trans aj⟩
 refine aa ?_;refine K_ 0 rfl (by omega) ?_;refine aa ?_;intro aP aj;replace ai:=aj.obj ai;replace c9:=aj.obj c9;replace ar:=ar.ext Flat.ext aj;have ba:=aI.trans aj;apply I_<;>intro g2
 .refine aa ?_;exact⟨⟨false,rfl,by simp only[Bool.false_eq_true,false_iff];intro h;exact absurd (au.1 h).2.1 (by omega)⟩,ba⟩
 refine aa ?_;refine J_ (Qq ⟨⟨#[]⟩,m.aw[i].scalar,0,m.aw[i].aO,m.aw[i].U,0⟩ _ m.scalars aP (af.ext ba)) ?_;rintro _ aR ⟨rfl,aA⟩;have VP:((o.bounds ⟨⟨#[]⟩,m.aw[i].scalar,0,m.aw[i].aO,m.aw[i].U,0⟩ m.scalars).1=aO)/\(o.bounds ⟨⟨#[]⟩,m.aw[i].scalar,0,m.aw[i].aO,m.aw[i].U,0⟩ m.scalars).2=cE:=by
  rw[jl,xO,show o.e7 m.aw[i].scalar m.aw[i].aO m.aw[i].U m.scalars=_ from o.yU ⟨⟨#[]⟩,m.aw[i].scalar,0,m.aw[i].aO,m.aw[i].U,0⟩ m.scalars];exact⟨rfl,rfl⟩
 rw[VP.1,VP.2];have Nv:=aA.obj c9;replace ar:=ar.ext Flat.ext aA;have bG:=ba.trans aA;refine aa ?_;refine _W [1,7,8,9] (fun x:Nat=>[(10,.int .i64 ((x:Int)+1))]) 0 (fun x W=>Ext aR W/\(x:Int)<=m.aw[i].cap/\∀j (h:j+1<l.length),j<x->((j:Int)<l[0]->aO<=l[j+1]/\l[j+1]<=cE)/\(l[0]<=j->l[j+1]=0)) (fun x=>(m.aw[i].cap - x).toNat) bc ⟨Ext.refl _,by omega,fun j _ h=>absurd h (Nat.not_lt_zero _)⟩ ?_;clear ai c9;rintro k S bq ⟨aJ,hk,dA⟩;have c9:=aJ.obj Nv;have bU:=bG.trans aJ;replace ar:=ar.ext Flat.ext aJ;refine aa ?_;apply I_<;>intro g3
 .have cH:k+1<l.length:=by omega
  have bad:¬(((k:Int)<l[0]->aO<=l[k+1]/\l[k+1]<=cE)/\(l[0]<=k->l[k+1]=0))->(false=true↔o.lA m.scalars m.aw[i] l):=fun h=>by
   simp only[Bool.false_eq_true,false_iff];exact fun cU=>h ((au.1 cU).2.2 k cH)
  refine aa ?_;refine K_ 0 rfl (by omega) ?_;refine aa ?_;apply I_<;>intro g4
  .refine aa ?_;apply I_<;>intro g5
   .refine aa ?_;exact⟨⟨false,rfl,bad fun h=>by have:=h.1 (by omega);omega⟩,bU⟩
   refine aa ?_;apply I_<;>intro g6
   .refine aa ?_;exact⟨⟨false,rfl,bad fun h=>by have:=h.1 (by omega);omega⟩,bU⟩
   refine aa ?_;refine K_ 0 rfl (by omega) ?_;refine aa ?_;exact⟨k+1,bc,⟨aJ,by omega,fun j h aE=>by
    by_cases gV:j=k
    .subst gV;exact⟨fun _=>by omega,fun _=>by omega⟩
    .exact dA j h (by omega)⟩,by omega⟩
  .refine aa ?_;refine K_ 0 rfl (by omega) ?_;refine aa ?_;apply I_<;>intro g5
   .refine aa ?_;exact⟨k+1,bc,⟨aJ,by omega,fun j h aE=>by
     by_cases gV:j=k
     .subst gV;exact⟨fun _=>by omega,fun _=>by omega⟩
     .exact dA j h (by omega)⟩,by omega⟩
   .refine aa ?_;exact⟨⟨false,rfl,bad fun h=>by have:=h.2 (by omega);omega⟩,bU⟩
 .refine aa ?_;exact⟨⟨true,rfl,by simp only[true_iff];exact au.2 ⟨by omega,by omega,fun j h=>dA j h (by omega)⟩⟩,bU⟩
theorem aoK(xs:C_ B_)(m:o.Model)(v:B_)(s:C_ Int)(w:A_)(cI:o.jN w xs (o.layout m))(a1:o.eL m)(an:ee w v s)(aF:s.length=o.dW m) :
  a7 Tryz.prog F.Ka #[.agg xs.toArray,v] w fun u w'=>(∃t:Bool,u = .bool t/\(t=true↔∀i (h:i<s.length) (bd:i<(o.bX m).length),(o.bX m)[i].aO<=s[i]/\s[i]<=(o.bX m)[i].U))/\Ext w w':=by
 obtain⟨ml,d0,j0,d1,kX,d2,pB,d3,oP,d4,rfl,eF,eb,dG,fg,gq⟩:=cI.form;obtain⟨e4,fL,rfl,fH⟩:=an.form;have y7:(o.layout m).cells=(o.dW m:Int):=rfl;have f2:=o.PB m;have f3:=o.Pz m;have mz:o.dW m<=64:=o.kt a1;have lg:(o.bX m).length=s.length:=aF.symm;refine bn E.Ka ?_;refine aa ?_;intro w1 bo cT al ai;have rJ:=ai;clear ai;replace an:=an.ext Flat.ext al;replace fg:=fg.ext Flat.ext al;replace gq:=gq.ext Flat.ext al;refine aa ?_;refine L_ 5 s.length [1,2] (fun _:Unit=>[]) () (fun k _ W=>Ext w1 W/\∀j (h:j<s.length) (bd:j<(o.bX m).length),j<k->(o.bX m)[j].aO<=s[j]/\s[j]<=(o.bX m)[j].U) bc bc ⟨Ext.refl _,fun j _ _ h=>absurd h (Nat.not_lt_zero _)⟩ ?_;rintro k _ S aH hk ⟨ao,dA⟩;have ai:=ao.obj rJ;refine aa ?_;apply I_<;>intro g3
 .have aZ:k<s.length:=by omega
  have nq:k<(o.bX m).length:=by omega
  have ef:(o.layout m).aO[k]'(by omega)=(o.bX m)[k].aO:=o.PA _ nq;have ew:(o.layout m).U[k]'(by omega)=(o.bX m)[k].U:=o.Py _ nq;obtain⟨yR,rfl⟩:=an.addr;obtain⟨a3,rfl⟩:=fg.addr;obtain⟨a4,rfl⟩:=gq.addr;have bad:¬((o.bX m)[k].aO<=s[k]/\s[k]<=(o.bX m)[k].U)->(false=true↔∀i (h:i<s.length) (bd:i<(o.bX m).length),(o.bX m)[i].aO<=s[i]/\s[i]<=(o.bX m)[i].U):=fun h=>by
   simp only[Bool.false_eq_true,false_iff];exact fun cU=>h (cU k aZ nq)
  have aI:=al.trans ao;refine aa ?_;apply I_<;>intro g4
  .refine aa ?_;intro aP aj;refine aa ?_;exact⟨⟨false,rfl,bad (by omega)⟩,aI.trans aj⟩
  refine aa ?_;intro aP aj;apply I_<;>intro g5
  .refine aa ?_;exact⟨⟨false,rfl,bad (by omega)⟩,aI.trans aj⟩
  refine aa ?_;refine⟨aZ,aU,(),trivial,ao.trans aj,fun j h bd aE=>?_⟩;by_cases gV:j=k
  .subst gV;omega
  .exact dA j h bd (by omega)
 .refine aa ?_;exact⟨⟨true,rfl,by simp only[true_iff];exact fun j h bd=>dA j h bd (by omega)⟩,al.trans ao⟩
theorem aaL(cs xs:C_ B_)(m:o.Model)(v:B_)(s:C_ Int)(w:A_)(h:o.dV w cs m)(cI:o.jN w xs (o.layout m))(a1:o.eL m)(an:ee w v s) :
  a7 Tryz.prog F.E8 #[.agg cs.toArray,.agg xs.toArray,v] w fun u w'=>(∃t:Bool,u = .bool t/\(t=true↔o.Fits m s))/\Ext w w':=by
 have dw:=h;have zg:=cI;obtain⟨cd,bw,bO,c1,bV,c2,b2,br,cj,bF,rfl,af,h1,I,ab,aD,eU,ek,ev,ef,ew⟩:=h.form;obtain⟨ml,d0,j0,d1,kX,d2,pB,d3,oP,d4,rfl,eF,eb,dG,fg,gq⟩:=cI.form;obtain⟨e4,fL,rfl,fH⟩:=an.form;have y7:(o.layout m).cells=(o.dW m:Int):=rfl;have mz:o.dW m<=64:=o.kt a1;have gU:=a1.gU;refine bn E.E8 ?_;refine aa ?_;intro w1 bo cT al ai;refine aa ?_;intro aH bR dt ao av;replace ai:=ao.obj ai;have aI:=al.trans ao;replace an:=an.ext Flat.ext aI;refine aa ?_;apply I_<;>intro g1;rotate_left
 .refine aa ?_;exact⟨⟨false,rfl,by simp only[Bool.false_eq_true,false_iff];intro h;have:=h.len;omega⟩,aI⟩
 have aF:s.length=o.dW m:=by omega
 have rJ:=ai;have D8:=av;clear ai av;refine aa ?_;refine L_ 7 m.aw.length [2,3,4] (fun _:Unit=>[]) () (fun k _ W=>Ext aH W/\∀j (h:j<m.aw.length),j<k->o.lA m.scalars m.aw[j] (o.mv m j m.aw[j] s)) bc bc ⟨Ext.refl _,fun j _ h=>absurd h (Nat.not_lt_zero _)⟩ ?_;rintro k _ S aP hk ⟨aj,dA⟩;have ai:=aj.obj rJ;have av:=aj.obj D8;have ba:=aI.trans aj;have gE:=an.ext Flat.ext aj;refine aa ?_;apply I_<;>intro g2
 .have aZ:k<m.aw.length:=by omega
  obtain⟨kp,fl⟩:=o.vh aZ;have nn:=o.tL aZ;have eQ:=o.nR m;have h7:=(a1.chan _ (List.getElem_mem aZ)).cap;obtain⟨df,rfl⟩:=eb.addr;obtain⟨a2,rfl⟩:=I.addr;have atZ:=eb.ext Flat.ext ba;have eo:=((I.at k aZ).cells).ext ba;refine aa ?_;refine _b (k:=.i64) (k':=.i64) (o.cq m k) (o.cq m k+(1+m.aw[k].cap.toNat)) gE (by simp[dp,bL,fl]) (by simp[dp,bL,fl];omega) (by omega) (by omega) fun ad c ar=>?_;rw[show o.cq m k+(1+m.aw[k].cap.toNat) - o.cq m k=1+m.aw[k].cap.toNat from by omega] at ar ⊢;replace ar:bh 1 (Flat cR) aP (.slice ad (1+m.aw[k].cap.toNat) c) (o.mv m k m.aw[k] s):=ar;refine aa ?_;refine P_ (.bool (o.Ft m.scalars m.aw[k] (o.mv m k m.aw[k] s))) (fun w' e=>(aom _ m _ _ k w' (dw.ext (ba.trans e)) a1 aZ (ar.ext Flat.ext e) ar.len.1.symm).mono fun u bK ⟨⟨t,aB,au⟩,he⟩=>⟨by rw[aB,o.an6 au],he⟩) ?_;refine aa ?_;intro aR aA;refine N_ (fun au=>?_) (fun au=>?_)
  .refine aa ?_;refine⟨aZ,aU,(),trivial,aj.trans aA,fun j h aE=>?_⟩;by_cases gV:j=k
   .subst gV;exact o.Qi.1 au
   .exact dA j h (by omega)
  .refine aa ?_;exact⟨⟨false,rfl,by simp only[Bool.false_eq_true,false_iff];intro h;have:=o.Qi.2 (h.queue k aZ);rw[au] at this;cases this⟩,ba.trans aA⟩
 .refine aa ?_;refine J_ (aoK _ m _ s aP (zg.ext ba) a1 gE aF) ?_;rintro _ aR ⟨⟨t,rfl,aB⟩,aA⟩;refine aa ?_;exact⟨⟨t,rfl,aB.trans ⟨fun h=>⟨aF,fun j aE=>dA j aE (by omega),h⟩,fun h=>h.cell⟩⟩,ba.trans aA⟩
theorem aoe(cs:C_ B_)(m:o.Model)(v:B_)(s:C_ Int)(w:A_)(h:o.dV w cs m)(aK:m.cN)(an:ee w v s) :
  a7 Tryz.prog F.J7 #[.agg cs.toArray,v] w fun u w'=>(∃t:Bool,u = .bool t/\(t=true↔o.hb m s))/\Ext w w':=by
 have a1:=h;obtain⟨cd,bw,bO,c1,bV,c2,b2,br,cj,bF,rfl,_⟩:=h.form;obtain⟨e4,fL,rfl,fH⟩:=an.form;refine bn E.J7 ?_;refine aa ?_;intro w1 bo cT al ai;refine aa ?_;intro aH ao;replace ai:=ao.obj ai;have aI:=al.trans ao;refine aa ?_;refine J_ (ZR _ m aH (a1.ext aI) aK) ?_;rintro _ aP ⟨rfl,aj⟩;have ba:=aI.trans aj;refine⟨aj,?_⟩;by_cases hk:(o.check m).cA=0
 .rw[decide_eq_true hk];refine aa ?_;refine J_ (Qv _ m aP (a1.ext ba) aK) ?_;rintro _ aR ⟨⟨xs,rfl,cI⟩,aA⟩;replace cI:=cI.here;rw[o.x7 hk] at cI;have bG:=ba.trans aA;refine⟨aj.trans aA,?_⟩;refine aa ?_;refine J_ (aaL _ _ m _ s aR (a1.ext bG) cI (o.ir hk) (an.ext Flat.ext bG)) ?_;rintro _ bq ⟨⟨t,rfl,aB⟩,aJ⟩;refine aa ?_;exact⟨⟨t,by cases t<;>rfl,aB.trans ⟨fun h=>⟨hk,h⟩,fun h=>h.2⟩⟩,bG.trans aJ⟩
 .rw[decide_eq_false hk];refine aa ?_;exact⟨⟨false,rfl,by simp only[Bool.false_eq_true,false_iff];exact fun h=>hk h.1⟩,ba⟩
end Go.Proofs.R
end
section
namespace bb
open Go Go.RowKit
def nt(l:C_ Int):C_ B_:=l.map (Value.int .i64)
theorem Y0(l:C_ Int):(nt l).length=l.length:=by simp[nt]
theorem Y1{l:C_ Int}{d j:Nat}{x:Int}(aE:j=d)(h:j<(nt l).toArray.size):(nt l).toArray.set j (.int .i64 x) h=(nt (l.set d x)).toArray:=by
 subst aE;simp[nt,List.map_set]
theorem arh(n:Nat):rh (Value.int .i64 0).cells (n*1)=(nt (List.replicate n 0)).toArray:=by
 apply Array.ext_getElem?;intro i;by_cases h:i<n
 .simp[rh,nt,Value.cells,h,Nat.mod_one]
 .simp[rh,nt,h]
theorem _w{cW:B_->A_->Prop}{w:A_}{e:F_}{n:Int}{t}(N:Nat)(ay:n=N)(ak:N<=1000000)(hk:∀w1 b,w.heap.size<=b->Ext w w1->w1.heap[b]? = some (.cells (nt (List.replicate N 0)).toArray e)->cW (.slice (some ⟨b,0,none⟩) N N) w1) :
  AB e 1 8 (.int .i64 0) (.int .i64 n) (.int .i64 n) w cW t:=by
 subst ay;refine _4 ⟨by omega,by omega,by omega,by omega⟩ ?_;have h:=hk (w.alloc (.cells (nt (List.replicate N 0)).toArray e)) _ (Nat.le_refl _) ((Ext.refl w).alloc _) (heap_alloc_new w _);rw[Int.toNat_natCast,arh];exact h
theorem EP:∀l:C_ Int,nt l=l.flatMap cR
 | []=>rfl
 | x :: r=>by
  have:=EP r
  simp only[nt,List.map_cons,List.flatMap_cons] at this ⊢;rw[this];rfl
theorem PW{w:A_}{b n:Nat}{e:F_}{l:C_ Int}(h:w.heap[b]? = some (.cells (nt l).toArray e))(ay:n=l.length)(hm:l.length<=maxLen):bh 1 (Flat cR) w (.slice (some ⟨b,0,none⟩) n n) l :=
 bh.cu (enc:=cR) (fun _=>rfl) (by rw[h,EP]) ay hm fun _ _ _ h=>h
end bb
namespace Go.Proofs.R
open Go Go.RowKit bb
def Gu(w:A_)(a:Addr)(l:C_ Int):Prop := ∃v,w.cell? a=some v/\ee w v l
abbrev w4(w:A_)(v:B_)(l:C_ (C_ Int)):Prop:=bh 1 Gu w v l
theorem aoj(cs ys:C_ B_)(v:B_)(m:o.Model)(s:C_ Int)(p:Nat)(w:A_)(h:o.dV w cs m)(aK:m.cN)(a1:o.eL m)(cI:o.jN w ys (o.layout m))(an:ee w v s)(ax:o.Fits m s)(ar:p<m.procs.length) :
  a7 Tryz.prog F.E9 #[.agg cs.toArray,.agg ys.toArray,v,.int .i64 p] w fun u w'=>aW cR T.a 1 w.heap.size w' u (o.iQ m s p m.procs[p].b8 (o.insts m).length)/\Ext w w':=by
 have dw:=h;obtain⟨cd,bw,bO,c1,bV,c2,b2,br,cj,bF,rfl,af,h1,I,ab,aD,eU,ek,ev,ef,ew⟩:=h.form;obtain⟨ml,d0,j0,d1,kX,d2,pB,d3,oP,d4,rfl,eF,eb,dG,fg,gq,gF,cC,cS,eT⟩:=cI.form;obtain⟨e4,fL,rfl,fH⟩:=an.form;have hlen:=ax.len;have mz:o.dW m<=64:=o.kt a1;have lJ:(o.insts m).length<=30:=by have:=o.uo m;have:=a1.procs;omega
 have di:=a1.proc _ (List.getElem_mem ar);have X5:=di.b8;obtain⟨f6,f7,f8⟩:=o.s6 m;obtain⟨a,rfl⟩:=ab.addr;obtain⟨lM,b7,ec,dD,e2,fO⟩:=ab.at p ar;refine bn E.E9 ?_;refine aa ?_;intro w1 bo cT al ai;refine aa ?_;intro aH bR dt ao av;replace ai:=ao.obj ai;have aI:=al.trans ao;replace dD:=dD.ext aI;unfold o.dz.enc at dD;refine aa ?_;refine _w m.procs[p].b8.toNat (by omega) (by omega) ?_;intro aP xe ah4 aj nW;rw[<-o.UG m s p] at nW;replace ai:=aj.obj ai;replace av:=aj.obj av;have ba:=aI.trans aj;have z2:=aI.size;clear dD;refine aa ?_;refine J_ (Qt _ m aP (dw.ext ba) aK) ?_;rintro bM qf ⟨fp,ud⟩;obtain⟨cx,ci,rfl,_⟩:=fp.form;replace av:=ud.obj av;replace nW:=ud.obj nW;have ku:xe≠bR:=by
  intro e;subst e;rw[av] at nW;injection nW with nW;injection nW with _ nW;revert nW;decide
 have ajc:∀{W},Mod (fun k=>k=xe) qf W->eB [T.a] qf W:=fun h=>eB.mod h fun k c t ah a=>by
  subst a;rw[nW] at ah;injection ah with ah;injection ah with _ ah;rw[<-ah];simp
 have N7:∀{W:A_},Mod (fun k=>k=xe) qf W->ke W (.slice cx (o.insts m).length ci) (o.insts m):=fun k=>aW.iv (enc:=o.cZ.enc) (fun _=>rfl) (fp.ib (ajc k) (by decide));have gp:∀{W},Mod (fun k=>k=xe) qf W->W.heap[bR]? = qf.heap[bR]? := fun h=>h.block _ (cy av) (Ne.symm ku);have dK:∀{W},Mod (fun k=>k=xe) qf W->Ext aH W:=fun h=>h.ext (aj.trans ud) fun i U e=>by omega
 rw[av] at gp;clear ai av;refine aa ?_;refine L_ 11 (o.insts m).length [2,3,5,9,10] (fun _:Unit=>[]) () (fun k _ W=>Mod (fun i=>i=xe) qf W/\W.heap[xe]? = some (.cells (nt (o.iQ m s p m.procs[p].b8 k)).toArray T.a)) bc bc ⟨Mod.refl _ _,nW⟩ ?_;clear nW;rintro k _ S aR aZ ⟨hm,nW⟩;have av:=gp hm;have e9:=N7 hm;have bG:=aI.trans (dK hm);refine aa ?_;apply I_<;>intro g1
 .have cH:k<(o.insts m).length:=by omega
  obtain⟨iP,rfl⟩:=e9.addr;have pn:=o.rW _ (List.getElem_mem cH);obtain⟨q,au,zB,pR⟩:=o.zE pn;have BH:(o.insts m)[k]?.map (·.proc)=some (q:Int):=by rw[List.getElem?_eq_getElem cH,Option.map_some,zB]
  obtain⟨d,EE,aiI⟩:=ax.loc cH au pR;obtain⟨kQ,EF⟩:=List.getElem?_eq_some_iff.1 EE;obtain⟨YB,iG⟩:=o.rV cH;obtain⟨yR,rfl⟩:=an.addr;obtain⟨a2,rfl⟩:=dG.addr;have lL:=an.ext Flat.ext bG;have Qj:=dG.ext Flat.ext bG;refine aa ?_;apply I_<;>intro g2
  .have aj4:q=p:=by omega
   subst aj4;have hE:d<m.procs[q].b8.toNat:=by omega
   have kr:=o.vc m s q m.procs[q].b8 k;have OF:=o.Dc (m:=m) (s:=s) (p:=q) (k:=k) hE;have dR:=o.GL m s q d k;refine aa ?_;refine K_ (o.dj m k) (by rw[iG]) (by rw[hlen];omega) ?_;refine aa ?_;have mF:ee aR (.slice (some ⟨xe,0,none⟩) m.procs[q].b8.toNat m.procs[q].b8.toNat) (o.iQ m s q m.procs[q].b8 k):=PW nW kr.symm (by rw[kr];unfold maxLen;omega);have NP:d<(o.iQ m s q m.procs[q].b8 k).length:=by omega
   obtain⟨_,OG⟩:=List.getElem?_eq_some_iff.1 OF;refine K_ d EF hE ?_;refine aa ?_;rw[OG];refine aa ?_;refine K_ d EF hE ?_;refine aa ?_;refine _F nW (by rw[List.size_toArray,Y0];omega) rfl fun bq fb cc=>?_;rw[Y1 (Nat.mul_one _),<-o.UF BH EE hE] at cc;refine aa ?_;exact⟨by omega,aU,(),trivial,hm.trans (fb.mod rfl),cc⟩
  .refine aa ?_;refine⟨cH,aU,(),trivial,hm,?_⟩;rw[o.UE (by rw[BH];intro e;have:=Option.some.inj e;omega)];exact nW
 .have lf:(o.insts m).length=k:=by omega
  refine aa ?_;exact⟨by rw[lf];exact aW.low aI.size (aW.AZ _ nW ah4 (EP _) (fun _=>rfl) (o.vc _ _ _ _ _).symm (by rw[o.vc];unfold maxLen;omega)),bG⟩
end Go.Proofs.R
end
section
namespace bb
open Go Go.RowKit
section
variable{P:Program}{cW:Value->World->Prop}{e:TypeId}{sz base:Nat}{w:World}{s x:Value}{xs ys:List (e1 sz)}
theorem AA2{ty:F_}{b:Nat}{t}(an:oV e sz base w s xs)(ag:bh sz (Flat jR) w x ys)(ak:(xs.length+ys.length)*b<=140737488355328)(my:xs.length+ys.length<=maxLen)(lG:base<=w.heap.size)
  (hk:∀b9 w',oV e sz base w' b9 (xs++ys)->w.grownBy w' s.ownBlock->cW b9 w'):mR P ty e sz b s x w cW t:=by
 obtain⟨aQ,cap,rfl,h1,I,ab,aD⟩:=ag.ex;cases aQ with
 | some a=>exact _X an jS (bh.flat jS (fun _ _ h=>h) ⟨some a,cap,rfl,h1,I,ab,aD⟩) rfl sN ak my lG fun b9 w' aY bx _=>hk b9 w' aY bx
 | none =>
  have:ys=[]:=Classical.byContradiction fun ay=>by have:=ab ay;cases this
  subst this;rw[List.append_nil] at hk;refine _q fun⟨aB,i,z,U,bA,EH,D6,BW,OR⟩=>?_;refine⟨ty,s,w,?_,hk s w an ⟨rfl,rfl,rfl,Nat.le_refl _,fun _ _ _=>rfl⟩⟩;rcases an.2 with ⟨rfl,af⟩ | ⟨g,cap,cur,rfl,_,_,Oq,_⟩
  .simp[Builtin.append_,run_underlying aB,Go.sizeOf,typeInfo,U,Builtin.lenOf,Builtin.firstCells]
  .simp[Builtin.append_,run_underlying aB,Go.sizeOf,typeInfo,U,Builtin.lenOf,Builtin.firstCells,Oq,storeCells]
end
end bb
end
section
namespace bb
open Go Go.RowKit
structure ars{α:Type}(C:World->List Value->α->Prop)(e:TypeId)(sz base:Nat)(v:Value)(w0 ws:World)(xs:List α)(k:Nat)(x:List (e1 sz))(W:World):Prop where
 m:Mod (fun i=>v.ownBlock=some i) ws W
 cu:∀i,v.ownBlock=some i->base<=i/\i<ws.heap.size/\∃cur,ws.heap[i]? = some (.cells cur e)
 len:x.length=xs.length
 own:oV e sz base W v x
 new:∀i (h1:i<x.length) (I:i<xs.length),i<k->gT (fun j=>j<ws.heap.size) (fun w=>C w x[i].1 xs[i]) W
 hx:∀i (h1:i<x.length) (I:i<xs.length),k<=i->C w0 x[i].1 xs[i]
theorem AC9{α:Type}{P:D_}{cW:B_->A_->Prop}{R:A_->Addr->α->Prop}{C:A_->C_ B_->α->Prop}{e:F_}{sz:Nat}[Rel R C sz]{w0 w oh:A_}{x:B_}{xs:C_ α}{ty:F_}{b yT:Nat}{t}
  (ag:bh sz R w0 x xs)(ej:Ext w0 w)(Ij:w.heap.size<=yT)(zq:Ext w oh)(Iq:oh.heap[yT]? = some (.cells #[] e))(ax:∀{w w':A_} {cs x},C w cs x->C w' cs x)(ak:xs.length*b<=140737488355328)
  (hk:∀aQ c w',eD w (fun w=>bh sz R w (.slice aQ xs.length c) xs) w'->Ext w w'->Mod (fun i=>i=yT) oh w'->cW (.slice aQ xs.length c) w'):mR P ty e sz b (.slice (some ⟨yT,0,none⟩) 0 0) x oh cW t:=by
 obtain⟨cm,aF,lI,bC⟩:=ag.cells;have aM:oV e sz w.heap.size oh (.slice (some ⟨yT,0,none⟩) 0 0) []:=aW.empty Ij Iq;have hm:cm.length<=maxLen:=by obtain⟨_,_,_,h1,I,_⟩:=lI.ex;omega
 refine AA2 aM (bh.ext Flat.ext (ej.trans zq) lI) (by rw[List.length_nil,Nat.zero_add,aF];exact ak) (by rw[List.length_nil,Nat.zero_add];exact hm) zq.size fun b9 w' mC aK=>?_;rw[List.nil_append] at mC;have ay:eD w (fun w=>bh sz R w b9 xs) w':=eD.clone (R:=R) aF mC ax fun i h1 I=>ax (bC i h1 I);obtain⟨aQ,c,rfl,_⟩:=ay.here.form;exact hk aQ c w' ay (aW.mw aM zq aK (Nat.le_refl _)) (Mod.grown (A:=fun i=>i=yT) aK fun k q=>by injection q with q;exact q.symm)
end bb
end
section
namespace Go.Proofs.R
open Go Go.RowKit bb
def yH(w:A_)(cs:C_ B_)(l:C_ Int):Prop := ∃v,cs=[v]/\ee w v l
instance atq:Rel Gu yH 1 where
 out h:=by
  obtain⟨v,h1,I⟩:=h;exact⟨[v],fun j u aE=>by cases j with | zero=>simp at aE;subst aE;rw[add_zero];exact h1 | succ j=>simp at aE,v,rfl,I⟩
 n1 h k:=by
  obtain⟨v,rfl,k⟩:=k
  have:=h 0 v rfl
  rw[add_zero] at this;exact⟨v,this,k⟩
 len h:=by obtain⟨v,rfl,_⟩:=h;rfl
 one h:=by obtain⟨v,rfl,h⟩:=h;simpa using h.one
 ext e h:=let ⟨v,h1,I⟩:=h; ⟨v,h1,I.ext Flat.ext e⟩
def acO(_:A_)(cs:C_ B_)(x:Int):Prop:=cs=cR x
instance atp:Rel (Flat cR) acO 1 where
 out h:=⟨_,h,rfl⟩
 n1 h k:=by cases k;exact h
 len h:=by cases h;rfl
 one h:=by cases h;exact rC _
 ext _ h:=h
theorem _root_.bb.Mod.own{A:Nat->Prop}{a b c:A_}{v:B_}(h:Mod A a b)(aK:b.grownBy c v.ownBlock)(aG:∀k,v.ownBlock=some k->a.heap.size<=k):Mod A a c :=
 h.comp (Mod.grown (A:=fun k=>v.ownBlock=some k) aK fun k hk=>hk) (fun _ _ a=>a) fun i U e=>by have:=aG i e;omega
structure Lq(w:World)(cs:List Value)(x:o.Env):Prop where
 ex:∃v0 v1 v2 v3,cs=[v0,v1,v2,v3,.int .i64 x.self]/\w4 w v0 x.vars/\ee w v1 x.lens/\ee w v2 x.locals/\w4 w v3 x.at_
end Go.Proofs.R
namespace o
open Go
theorem QT(m:Model)(s:C_ Int)(inst:Int):(cr m s inst).vars.length=m.vars.length:=by simp[cr]
theorem KM{m:Model}{s:C_ Int}{inst:Int}{k:Nat}(h:k<m.vars.length):(cr m s inst).vars[k]? = some ((s.drop (gG m k)).take (cells m.vars[k] m.scalars).toNat):=by
 have e:(cO m)[k]!.length=(cells m.vars[k] m.scalars).toNat:=by
  have bd:k<(cO m).length:=by simpa[cO] using h
  rw[getElem!_pos (cO m) k bd];simp[cO,Cy]
 simp only[cr,List.getElem?_map,List.getElem?_range h,Option.map_some,e]
theorem KL(m:Model)(s:C_ Int)(inst:Int):(cr m s inst).lens.length=m.aw.length:=by simp[cr]
theorem abD{m:Model}{s:C_ Int}{inst:Int}{k:Nat}(h:k<m.aw.length)(an:cq m k<s.length):(cr m s inst).lens[k]? = some s[cq m k]:=by
 simp only[cr,List.getElem?_map,List.getElem?_range h,Option.map_some];rw[getElem!_pos s (cq m k) an]
theorem QS{m:Model}{s:C_ Int}{inst:Int}(h:inst<0):(cr m s inst).locals=[]/\(cr m s inst).self=0:=by
 simp only[cr,yq,gX (.inl h),and_self]
theorem yr{m:Model}(s:C_ Int){q n:Nat}(h:q<(insts m).length)(ay:n=(lN m (insts m)[q]).length - 1):(cr m s q).locals=(s.drop (dj m q+1)).take n/\(cr m s q).self=(insts m)[q].elem:=by
 simp only[cr,yq,ja (show(0:Int)<=q by omega) (show(q:Int)<(insts m).length by omega),Int.toNat_natCast,ay,and_self]
theorem QR(m:Model)(s:C_ Int)(inst:Int):(cr m s inst).at_.length=m.procs.length:=by simp[cr]
theorem abC{m:Model}{s:C_ Int}{inst:Int}{k:Nat}(h:k<m.procs.length):(cr m s inst).at_[k]? = some (iQ m s k m.procs[k].b8 (insts m).length):=by
 simp only[cr,List.getElem?_map,List.getElem?_range h,Option.map_some,List.getElem?_eq_getElem h,Option.getD_some]
end o
namespace Go.Proofs.R
open Go Go.RowKit bb
theorem aoY(cs ys:C_ B_)(v:B_)(m:o.Model)(s:C_ Int)(inst:Int)(w:A_)(h:o.dV w cs m)(aK:m.cN)(a1:o.eL m)(cI:o.jN w ys (o.layout m))(an:ee w v s)(ax:o.Fits m s)(h1 : -1<=inst)(I:inst<(o.insts m).length) :
  a7 Tryz.prog F.J8 #[.agg cs.toArray,.agg ys.toArray,v,.int .i64 inst] w fun u w'=>(∃es,u = .agg es.toArray/\eD w (fun w=>Lq w es (o.cr m s inst)) w')/\Ext w w':=by
 have dw:=h;have zg:=cI;have akm:=an;obtain⟨cd,bw,bO,c1,bV,c2,b2,br,cj,bF,rfl,af,h1,I,ab,aD,eU,ek,ev,ef,ew⟩:=h.form;obtain⟨ml,d0,j0,d1,kX,d2,pB,d3,oP,d4,rfl,eF,eb,dG,fg,gq⟩:=cI.form;obtain⟨e4,fL,rfl,fH⟩:=an.form;have hlen:=ax.len;have mz:o.dW m<=64:=o.kt a1;have gU:=a1.gU;have lJ:(o.insts m).length<=30:=by have:=o.uo m;have:=a1.procs;omega
 refine bn E.J8 ?_;refine aa ?_;intro w1 bo cT al ai;refine aa ?_;intro aH bR dt ao av;replace ai:=ao.obj ai;refine aa ?_;intro aP b0 fW aj bu;replace ai:=aj.obj ai;replace av:=aj.obj av;have ba:=(al.trans ao).trans aj;refine aa ?_;refine J_ (Qt _ m aP (dw.ext ba) aK) ?_;rintro bM aR ⟨fp,aA⟩;obtain⟨cx,ci,rfl,_⟩:=fp.form;have e9:ke aR _ _:=aW.iv (enc:=o.cZ.enc) (fun _=>rfl) fp;replace ai:=aA.obj ai;replace av:=aA.obj av;replace bu:=aA.obj bu;have bG:=ba.trans aA;refine aa ?_;intro bq fj ah3 aJ dF;have mG:∀{W},Ext aR W->W.heap[bo]? = _:=fun e=>e.obj ai;have gp:∀{W},Ext aR W->W.heap[bR]? = _:=fun e=>e.obj av;have Rz:=cy dF;have DS:∀{W},Mod (fun i=>i=fj) bq W->Ext aR W:=fun h=>h.ext aJ fun i U e=>by omega
 refine L_ 11 m.vars.length [2,3,4,5,8,9,10] (fun _:hc=>[]) (none,0,0) (fun k v W=>(Mod (fun i=>i=fj) bq W/\W.heap[fj]? = some (.cells #[.slice v.1 v.2.1 v.2.2,.slice none 0 0,.slice none 0 0,.slice none 0 0,.int .i64 0] T.v))/\eO yH T.b 1 bq.heap.size W (.slice v.1 v.2.1 v.2.2) (((o.cr m s inst).vars).take k)) bc bc ⟨⟨Mod.refl _ _,dF⟩,by simpa using eO.nil _ _ _ _ _⟩ ?_;clear dF;rintro k v S bB hk ⟨⟨jC,dF⟩,dB⟩;have ai:=mG (DS jC);have av:=gp (DS jC);have iM:=bG.trans (DS jC);refine aa ?_;apply I_<;>intro g1
 .have cH:k<m.vars.length:=by omega
  obtain⟨a,rfl⟩:=h1.addr;have dR:=o.sH m.vars[k] m.scalars;have nn:=o.tz cH;have eQ:=o.nR m;obtain⟨fp,iG⟩:=o.Ai cH;have eo:=((h1.at k cH).cells).ext iM;refine aa ?_;refine P_ _ (fun w' e=>Qr m.vars[k] _ m.scalars w' (af.ext (iM.trans e))) ?_;refine aa ?_;intro bQ bz;replace ai:=bz.obj ai;replace av:=bz.obj av;replace dF:=bz.obj dF;have dS:=dB.ext bz;have gK:=iM.trans bz;have h8:Mod (fun i=>i=fj) bq bQ:=jC.trans bz.mod;have jW:=an.ext Flat.ext gK;have Kx:=eF.ext Flat.ext gK;obtain⟨a0,rfl⟩:=eF.addr;clear eo;refine aa ?_;intro de bP;replace ai:=bP.obj ai;replace av:=bP.obj av;replace dF:=bP.obj dF;have hr:=dS.ext bP;have ih:=gK.trans bP;have iF:Mod (fun i=>i=fj) bq de:=h8.trans bP.mod;have BT:=jW.ext Flat.ext bP;have atY:=Kx.ext Flat.ext bP;clear jW Kx dB dS;refine aa ?_;refine _b (k:=.i64) (k':=.i64) (o.gG m k) (o.gG m k+(o.cells m.vars[k] m.scalars).toNat) BT (by simp[dp,bL,iG]) (by simp[dp,bL,iG];omega) (by omega) (by omega) fun ad c ar=>?_;refine aa ?_;intro dc j7 l4 ck dX;refine⟨ck,?_⟩;rw[show o.gG m k+(o.cells m.vars[k] m.scalars).toNat - o.gG m k=(o.cells m.vars[k] m.scalars).toNat from by omega] at ar ⊢;have vY:=o.KM (s:=s) (inst:=inst) cH;refine AC9 ar (Ext.refl _) l4 ck dX (fun h=>h) (by simp;omega) fun aQ fD eY qQ cG _=>?_;refine⟨cG,?_⟩;refine aa ?_;intro gw o2 Bw e8 kK;refine⟨cG.trans e8,?_⟩;have z58:=iF.size;have auw:=cG.size;have Lh:=e8.size;have p4:=hr.ext (cG.trans e8);have ch:(((o.cr m s inst).vars).take k).length<=12:=by rw[List.length_take,o.QT];omega
  refine _Y (x:=(s.drop (o.gG m k)).take (o.cells m.vars[k] m.scalars).toNat) (cs:=[.slice aQ ((s.drop (o.gG m k)).take (o.cells m.vars[k] m.scalars).toNat).length fD]) p4 (hA kK)
   (((eD.own qQ hr (by omega)).imp fun w h=>⟨_,rfl,h⟩).ext e8 fun i U hk=>by have:=hr.under (by omega) i hk;omega) rfl (by simp[Value.oneCell']) (by omega) (by unfold maxLen;omega) (by omega) fun b9 jr aL xM=>?_
  have Xi:=p4.box xM ((cG.trans e8).obj dF) (by decide);have qP:=((iF.trans cG.mod).trans e8.mod).own xM fun q au=>(p4.lt q au).1;obtain⟨kv,pN,rfl,_⟩:=aL.form;clear dF qQ p4 hr kK dX ar;refine aa ?_;intro nA jX kL;refine aa ?_;refine⟨cH,aU,(kv,_,pN),trivial,⟨qP.trans (jX.mod rfl),kL⟩,?_⟩;rw[List.take_succ,vY];exact aL.wr jX Rz
 have lK:m.vars.length=k:=by omega
 rw[List.take_of_length_le (by rw[o.QT];omega)] at dB;have mA:=dB.new (R:=Gu);obtain⟨ea,nx,fD⟩:=v;have Aq:=cy dF;have Ap:=jC.size;have arl:=DS jC;have xB:∀{W},Mod (fun i=>i=fj) bB W->Ext aR W:=fun h=>DS (jC.trans h);clear ai av dB;refine aa ?_;refine L_ 13 m.aw.length [2,3,4,5,8,9,10] (fun _:hc=>[]) (none,0,0) (fun k v W=>(Mod (fun i=>i=fj) bB W/\W.heap[fj]? = some (.cells #[.slice ea nx fD,.slice v.1 v.2.1 v.2.2,.slice none 0 0,.slice none 0 0,.int .i64 0] T.v))/\aW cR T.a 1 bB.heap.size W (.slice v.1 v.2.1 v.2.2) (((o.cr m s inst).lens).take k)) bc bc ⟨⟨Mod.refl _ _,dF⟩,by simpa using aW.nil _ _ _ _ _⟩ ?_;clear dF;rintro k v S bQ hk ⟨⟨h8,dF⟩,dS⟩;have ai:=mG (xB h8);have av:=gp (xB h8);have gK:=bG.trans (xB h8);refine aa ?_;apply I_<;>intro g1
 .have cH:k<m.aw.length:=by omega
  have nn:=o.tL cH;have eQ:=o.nR m;obtain⟨fp,fl⟩:=o.vh cH;obtain⟨df,rfl⟩:=eb.addr;obtain⟨adr,rfl⟩:=an.addr;have jW:=an.ext Flat.ext gK;have Ky:=eb.ext Flat.ext gK;refine aa ?_;intro de bP;replace av:=bP.obj av;replace dF:=bP.obj dF;have hr:=dS.ext bP;have iF:Mod (fun i=>i=fj) bB de:=h8.trans bP.mod;have BT:=jW.ext Flat.ext bP;have at1:=Ky.ext Flat.ext bP;clear jW Ky dS ai;refine aa ?_;refine K_ (o.cq m k) (by rw[fl]) (by omega) ?_;refine aa ?_;intro dc j7 l4 ck dX;refine⟨ck,?_⟩;have gx:o.cq m k<s.length:=by omega
  have vY:=o.abD (inst:=inst) cH gx;have aje:(((o.cr m s inst).lens).take k).length<=12:=by rw[List.length_take,o.KL];omega
  have hs:=hr.ext ck;have Rx:=iF.size;have Li:=ck.size;refine V_ (y:=s[o.cq m k]) hs dX rfl (fun _=>rfl) rC (by omega) (by unfold maxLen;omega) (by omega) fun aQ n c eY pk oF=>?_;have aio:=hs.box oF (ck.obj dF) (by decide);have rO:=(iF.trans ck.mod).own oF fun q au=>(hs.lt q au).1;clear dF hs hr dX;refine aa ?_;intro gw ia kK;refine aa ?_;refine⟨cH,aU,(aQ,n,c),trivial,⟨rO.trans (ia.mod rfl),kK⟩,?_⟩;rw[List.take_succ,vY];exact pk.mod (ia.mod (A:=fun i=>i=fj) rfl) fun q au e=>by have:=(pk.lt q au).1;omega
 have qO:m.aw.length=k:=by omega
 rw[List.take_of_length_le (by rw[o.KL];omega)] at dS;have W5:gT (fun i=>i<bq.heap.size) (fun w=>w4 w (.slice ea nx fD) (o.cr m s inst).vars) bQ:=mA.move h8 (fun i _ e=>by omega) fun i _ e=>e;have DV:eD bB (fun w=>ee w (.slice v.1 v.2.1 v.2.2) (o.cr m s inst).lens) bQ:=aW.new (fun _=>rfl) dS;clear mA;obtain⟨ly,lO,yX⟩:=v;have acs:=cy dF;have z67:=h8.size;have ze:∀{W},Mod (fun i=>i=fj) bQ W->Ext aR W:=fun h=>xB (h8.trans h);clear ai av dS;refine aa ?_;refine L_ 14 m.procs.length [2,3,4,5,8,9,10] (fun _:hc=>[]) (none,0,0) (fun k v W=>(Mod (fun i=>i=fj) bQ W/\W.heap[fj]? = some (.cells #[.slice ea nx fD,.slice ly lO yX,.slice none 0 0,.slice v.1 v.2.1 v.2.2,.int .i64 0] T.v))/\eO yH T.b 1 bQ.heap.size W (.slice v.1 v.2.1 v.2.2) (((o.cr m s inst).at_).take k)) bc bc ⟨⟨Mod.refl _ _,dF⟩,by simpa using eO.nil _ _ _ _ _⟩ ?_;clear dF;rintro k v S de hk ⟨⟨iF,dF⟩,hr⟩;have ai:=mG (ze iF);have av:=gp (ze iF);have ih:=bG.trans (ze iF);refine aa ?_;apply I_<;>intro g1
 .have cH:k<m.procs.length:=by omega
  refine aa ?_;intro dc ck;replace ai:=ck.obj ai;replace av:=ck.obj av;replace dF:=ck.obj dF;have hs:=hr.ext ck;have gS:=ih.trans ck;have mB:Mod (fun i=>i=fj) bQ dc:=iF.trans ck.mod;clear hr;refine aa ?_;refine J_ (aoj _ _ _ m s k dc (dw.ext gS) aK a1 (zg.ext gS) (akm.ext Flat.ext gS) ax cH) ?_;rintro _ eY ⟨qQ,cG⟩;obtain⟨aQ,fD,rfl,_⟩:=qQ.form;replace qQ:eD dc (fun w=>ee w (.slice aQ (o.iQ m s k m.procs[k].b8 (o.insts m).length).length fD) (o.iQ m s k m.procs[k].b8 (o.insts m).length)) eY:=aW.new (enc:=cR) (sz:=1) (fun _=>rfl) qQ;refine⟨cG,?_⟩;have vY:=o.abC (s:=s) (inst:=inst) cH;refine aa ?_;intro gw o2 Bw e8 kK;refine⟨cG.trans e8,?_⟩;have z79:=mB.size;have Ry:=cG.size;have Lh:=e8.size;have p4:=hs.ext (cG.trans e8);have ch:(((o.cr m s inst).at_).take k).length<=12:=by rw[List.length_take,o.QR];have:=a1.procs;omega
  refine _Y (x:=o.iQ m s k m.procs[k].b8 (o.insts m).length) (cs:=[.slice aQ (o.iQ m s k m.procs[k].b8 (o.insts m).length).length fD]) p4 (hA kK)
   (((eD.own qQ hs (by omega)).imp fun w h=>⟨_,rfl,h⟩).ext e8 fun i U hk=>by have:=hs.under (by omega) i hk;omega) rfl (by simp[Value.oneCell']) (by omega) (by unfold maxLen;omega) (by omega) fun b9 jr aL xM=>?_
  have Xi:=p4.box xM ((cG.trans e8).obj dF) (by decide);have qP:=((mB.trans cG.mod).trans e8.mod).own xM fun q au=>(p4.lt q au).1;obtain⟨kv,pN,rfl,_⟩:=aL.form;clear dF qQ p4 hs kK;refine aa ?_;intro nA jX kL;refine aa ?_;refine⟨cH,aU,(kv,_,pN),trivial,⟨qP.trans (jX.mod rfl),kL⟩,?_⟩;rw[List.take_succ,vY];exact aL.wr jX acs
 have zw:m.procs.length=k:=by omega
 rw[List.take_of_length_le (by rw[o.QR];omega)] at hr;have Nk:gT (fun i=>i<bq.heap.size) (fun w=>w4 w (.slice ea nx fD) (o.cr m s inst).vars) de:=W5.move iF (fun i _ e=>by omega) fun i _ e=>e;have WX:eD bB (fun w=>ee w (.slice ly lO yX) (o.cr m s inst).lens) de:=DV.move iF (fun i _ e=>by omega) fun i _ e=>e;have vx:=hr.new (R:=Gu);clear W5 DV;obtain⟨K3,PS,qB⟩:=v;have acu:=cy dF;have z78:=iF.size;have vy:∀{W},Mod (fun i=>i=fj) de W->Ext aR W:=fun h=>ze (iF.trans h);clear hr;have ih:=bG.trans (vy (Mod.refl _ _));have z3:=cy bu;have z45:=aJ.size;have aun:=(al.trans ao).size;replace bu:=(vy (Mod.refl _ _)).obj bu;refine aa ?_;apply I_<;>intro g2;rotate_left
 .refine aa ?_;intro dc hG dX;refine aa ?_;obtain⟨ej,bt⟩:=o.QS (m:=m) (s:=s) (inst:=inst) (by omega);refine⟨⟨_,rfl,fun W gO=>⟨_,_,_,_,by rw[bt],?_,?_,?_,?_⟩⟩,hG.ext ih (by omega)⟩
  .exact(Nk.move (A':=fun i=>i<w.heap.size) (hG.mod (A:=fun i=>i=b0) rfl) (fun i _ e=>by omega) fun i _ e=>by omega) W gO
  .exact(WX.move (A':=fun i=>i<w.heap.size) (hG.mod (A:=fun i=>i=b0) rfl) (fun i _ e=>by omega) fun i _ e=>by omega) W gO
  .rw[ej];exact bh.nil
  .exact(vx.move (A':=fun i=>i<w.heap.size) (hG.mod (A:=fun i=>i=b0) rfl) (fun i _ e=>by omega) fun i _ e=>by omega) W gO
 .obtain⟨q,rfl⟩:=Int.eq_ofNat_of_zero_le (show 0<=inst by omega);have au:q<(o.insts m).length:=by omega
  have nn:=o.Pf au;obtain⟨fp,iG⟩:=o.rV au;obtain⟨a2,rfl⟩:=dG.addr;have aod:=dG.ext Flat.ext ih;have ai:=mG (vy (Mod.refl _ _));have av:=gp (vy (Mod.refl _ _));obtain⟨iP,rfl⟩:=e9.addr;have BL:=e9.ext Flat.ext (vy (Mod.refl _ _));have pn:=o.rW _ (List.getElem_mem au);obtain⟨p,ar,hh,pR⟩:=o.zE pn;have Im:(o.lN m (o.insts m)[q]).length=1+m.procs[p].vars.length:=by rw[pR,o.zX]
  obtain⟨a,rfl⟩:=ab.addr;obtain⟨lM,b7,ec,dD,e2,fO⟩:=ab.at p ar;obtain⟨aaf,Vr,rfl,ZO⟩:=e2.form;obtain⟨aac,U4,rfl,ZB⟩:=fO.form;replace dD:=dD.ext ih;unfold o.dz.enc at dD;refine aa ?_;refine K_ p hh ar ?_;refine aa ?_;intro K5 qM dc aiL;have ck:=qM.trans aiL;replace ai:=ck.obj ai;replace av:=ck.obj av;replace dF:=ck.obj dF;replace bu:=ck.obj bu;have gS:=ih.trans ck;have akl:=an.ext Flat.ext gS;have Li:=ck.size;clear dD BL aod;refine aa ?_;refine _b (k:=.i64) (k':=.i64) (o.dj m q+1) (o.dj m q+1+m.procs[p].vars.length) akl (by simp[dp,bL,iG]) (by simp[dp,bL,iG]) (by omega) (by omega) fun ad c EA=>?_;rw[show o.dj m q+1+m.procs[p].vars.length - (o.dj m q+1)=m.procs[p].vars.length from by omega] at EA ⊢;obtain⟨cm,aF,lI,bC⟩:=EA.cells;have dR:cm.length<=64:=by rw[aF,List.length_take,List.length_drop];omega
  refine aa ?_;refine AA2 (sz:=1) (base:=dc.heap.size) (aW.nil _ _ _ _ _) lI (by rw[List.length_nil];omega) (by rw[List.length_nil];unfold maxLen;omega) (Nat.le_refl _) fun b9 eY pk oF=>?_;rw[List.nil_append] at pk;have qQ:eD dc (fun w=>ee w b9 ((s.drop (o.dj m q+1)).take m.procs[p].vars.length)) eY:=eD.clone (R:=Flat cR) aF pk (fun h=>h) fun i h1 I=>bC i h1 I;have cG:Ext dc eY:=(Ext.refl _).grown oF fun k hk=>by simp[Value.ownBlock] at hk
  replace av:=cG.obj av;replace dF:=cG.obj dF;replace bu:=cG.obj bu;have Ry:=cG.size;obtain⟨ol,cl,rfl,_⟩:=qQ.here.form;clear ai;refine aa ?_;intro gw ia kK;have BO:Mod (fun i=>i=fj) de gw:=(ck.mod.trans cG.mod).trans (ia.mod rfl);have asH:=e9.ext Flat.ext (vy BO);replace bu:=ia.obj bu (by omega);refine aa ?_;intro jr ln iC;have qP:Mod (fun i=>i=fj) de jr:=BO.trans (ln.mod rfl);replace bu:=ln.obj bu (by omega);refine aa ?_;intro nA jX kL;refine aa ?_;obtain⟨ej,bt⟩:=o.yr s au (n:=m.procs[p].vars.length) (by omega);have Lh:=ia.size;have acr:=ln.size;refine⟨⟨_,rfl,fun W gO=>⟨_,_,_,_,by rw[bt];rfl,?_,?_,?_,?_⟩⟩,jX.ext (bG.trans (vy qP)) (by omega)⟩
  .exact(Nk.move (A':=fun i=>i<w.heap.size) (qP.comp (B:=fun i=>i=fj\/i=b0) (jX.mod (A:=fun i=>i=b0) rfl) (fun i _ e=>.inl e) fun i _ e=>.inr e) (fun i _ e=>by omega) fun i _ e=>by omega) W gO
  .exact(WX.move (A':=fun i=>i<w.heap.size) (qP.comp (B:=fun i=>i=fj\/i=b0) (jX.mod (A:=fun i=>i=b0) rfl) (fun i _ e=>.inl e) fun i _ e=>.inr e) (fun i _ e=>by omega) fun i _ e=>by omega) W gO
  .rw[ej];exact((((qQ.wr ia (by omega)).wr ln (by omega)).wr jX (by omega)).mono fun i _ e=>by omega) W gO
  .exact(vx.move (A':=fun i=>i<w.heap.size) (qP.comp (B:=fun i=>i=fj\/i=b0) (jX.mod (A:=fun i=>i=b0) rfl) (fun i _ e=>.inl e) fun i _ e=>.inr e) (fun i _ e=>by omega) fun i _ e=>by omega) W gO
end Go.Proofs.R
end