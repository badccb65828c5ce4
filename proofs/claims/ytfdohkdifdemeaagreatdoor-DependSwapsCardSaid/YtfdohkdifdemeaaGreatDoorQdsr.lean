/- Parts. -/
import Derived.Test.YtfdohkdifdemeaaGreatDoorQdsq
set_option linter.all false
set_option maxRecDepth 8000
set_option maxHeartbeats 32000000
section
namespace o
open Go
def w6(e:List Node):List Node:=e.filter fun x=>sm x.op
theorem alc{e:List Node}{k:Nat}(h:k<e.length):w6 (e.take (k+1))=w6 (e.take k)++if sm e[k].op then [e[k]] else []:=by
 unfold w6;rw[List.take_succ_eq_append_getElem h,List.filter_append];cases ay:sm e[k].op<;>simp[ay]
theorem Yq(e:List Node):(w6 e).length<=e.length:=List.length_filter_le _ _
theorem YP{e s:List Node}(aN:s.Perm (w6 e))(ay:s.Pairwise fun x y => ¬mI y x):Gj e (comp s):=by
 refine⟨Si s ay,fun x=>?_⟩;rw[Kg,aN.mem_iff];unfold w6;rw[List.mem_filter]
end o
namespace Go.Proofs.R
open Go Go.RowKit bt
theorem aij(x:o.Node):∀u∈x.enc,u.oneCell'=true:=by simp[o.Node.enc,Value.oneCell']
theorem Tl:∀(l:List o.Node) (i:Nat) (h:i<l.length),(l.flatMap o.Node.enc)[2*i]? = some (.int .i64 l[i].op)/\(l.flatMap o.Node.enc)[2*i+1]? = some (.int .i64 l[i].n)
 | x :: l,0,_=>⟨rfl,rfl⟩
 | x :: l,i+1,h=>by
  have e1:=Tl l i (by simpa using h);rw[show 2*(i+1)=2*i+2 from by omega,show 2*i+2+1=(2*i+1)+2 from by omega];exact e1
theorem aim{w:World}{base:Nat}{v:Value}{l:List o.Node}(h:bs o.Node.enc T.f 2 base w v l)(aS:l≠[]):∃b c,v = .slice (some ⟨b,0,none⟩) l.length c/\base<=b/\gP w b l/\l.length<=c/\c<=maxLen:=by
 rcases h.2 with ⟨_,ak⟩ | ⟨g,cap,cur,h1,U,ag,aJ,bg,bS,cj⟩
 .exact absurd (List.eq_nil_of_length_eq_zero ak) aS
 .refine⟨g,cap,h1,U,⟨cur,ag,by omega,fun i ad=>?_⟩,aJ,bg⟩;have get:∀j,j<2*l.length->cur[j]? = (l.flatMap o.Node.enc)[j]? := fun j aR=>by
   rw[<-cj,List.getElem?_take_of_lt (by omega),Array.getElem?_toList]
  rw[get _ (by omega),get _ (by omega)];exact Tl l i ad
structure JF(w:World)(base:Nat)(v:Value)(l:List o.Node):Prop where
 ex:(l=[]/\∃p c,v = .slice p 0 c/\c<=maxLen)\/∃b c,v = .slice (some ⟨b,0,none⟩) l.length c/\base<=b/\gP w b l/\l.length<=c/\c<=maxLen
theorem akZ(p:Option Addr)(c:Nat)(w:World):bu Tryz.prog F.CW #[.slice p 0 c,.func (.func F.CX) #[] #[]] w fun _ w'=>Ext w w':=by
 have h:=AnyF.slices_SortFunc_none Tryz.Yl p c (.func (.func F.CX) #[] #[]) w;change Calls Tryz.prog F.CW _ _ _ at h;refine Calls.mono h ?_;rintro e w' ⟨rfl,rfl⟩;exact⟨_,rfl,Ext.refl _⟩
theorem abK(p:Option Addr)(c:Nat)(w:World):bu Tryz.prog F.l0 #[.slice p 0 c] w fun v w'=>v = .slice p 0 c/\Ext w w':=by
 refine bL E.l0 ?_;refine bG ?_;refine af ?_;exact⟨bk,Ext.refl _⟩
theorem alV(v:Value)(e:List o.Node)(w:World)(h:o.gd w v e)(aS:e.length<=1000000) :
  bu Tryz.prog F.Cr #[v] w fun u w'=>(∃r,o.Gj e r/\JF w' w.heap.size u r)/\Ext w w':=by
 obtain⟨bm,gf,rfl,_⟩:=h.form;refine bL E.Cr ?_;refine bG ?_;refine af ?_;refine K.dk 8 e.length [2,6,7] (fun u:Value=>[(3,u)]) (.slice none 0 0) (fun k u W=>bs o.Node.enc T.f 2 w.heap.size W u (o.w6 (e.take k))/\Ext w W) bz bz ⟨bs.nil _ _ _ _ _,Ext.refl _⟩ ?_;rintro k u S av hk ⟨hu,aB⟩;refine af ?_;apply K.cond<;>intro g1
 .have du:k<e.length:=by omega
  obtain⟨a,rfl⟩:=h.addr (by omega);have ar:=(h.at k du).cells.ext aB;obtain⟨u4,mZ,rfl,_⟩:=hu.form;have kF:=o.Yq (e.take k);have ha:=o.alc du;unfold o.Node.enc at ar;rw[List.length_take] at kF;refine ee ?_;simp -dsimp only[cF];refine ee ?_;simp -dsimp only[cF];refine ee ?_;intro aU dO kX aA cC;have Mn:=hu.ext aA;have aW:=aB.trans aA;simp -dsimp only[cF];refine ee ?_;refine K.hl [2,3,5,6,7,8] (fun t:Bool=>[(14,.bool t)]) (fun t W=>t=o.sm e[k].op/\W=aU) ?_ ?_
  .have sp:∀b,(b=true↔(e[k].op=2\/e[k].op=3\/e[k].op=4\/e[k].op=6\/e[k].op=7))->b=o.sm e[k].op:=fun b aC=>by
    unfold o.sm;cases b with
    | true=>exact(decide_eq_true (aC.1 rfl)).symm
    | false=>exact(decide_eq_false fun q=>by have:=aC.2 q;cases this).symm
   refine af ?_;apply K.cond<;>intro g2
   .refine af ?_;exact⟨_,⟨bk,trivial⟩,sp _ (by simp[g2]),bk⟩
   refine af ?_;apply K.cond<;>intro g3
   .refine af ?_;exact⟨_,⟨bk,trivial⟩,sp _ (by simp[g3]),bk⟩
   refine af ?_;apply K.cond<;>intro g4
   .refine af ?_;exact⟨_,⟨bk,trivial⟩,sp _ (by simp[g4]),bk⟩
   refine af ?_;apply K.cond<;>intro g5
   .refine af ?_;exact⟨_,⟨bk,trivial⟩,sp _ (by simp[g5]),bk⟩
   refine af ?_;exact⟨_,⟨bk,trivial⟩,sp _ (by simp[g2,g3,g4,g5]),bk⟩
  rintro t kR bb ⟨rfl,rfl⟩;refine af ?_;cases wA:o.sm e[k].op with
  | true =>
   rw[wA,if_pos rfl] at ha;refine af ?_;intro bq amR anC aM Hm;refine af ?_;refine K.mV (y:=e[k]) (Mn.ext aM) Hm rfl (fun _=>rfl) aij (by omega) (by unfold maxLen;omega) (by have:=aM.size;have:=aW.size;omega) fun bm n c bT eC kC=>?_;have aZ:=bs.mq (Mn.ext aM) (aW.trans aM) kC (Nat.le_refl _);refine af ?_;refine⟨du,bk,_,⟨rfl,trivial⟩,?_,aZ⟩;rw[ha];exact eC
  | false =>
   rw[wA,if_neg (by simp),List.append_nil] at ha;refine af ?_;refine⟨du,bk,_,⟨bk,trivial⟩,?_,aW⟩;rw[ha];exact Mn
 .have km:k=e.length:=by omega
  rw[km,List.take_length] at hu;have kF:=o.Yq e;by_cases aE:o.w6 e=[]
  .rw[aE] at hu;obtain⟨u4,mZ,rfl,_⟩:=hu.form;have aeP:mZ<=maxLen:=by
    obtain⟨j5,cap,h1,_,ag,_⟩:=(bs.py (enc:=o.Node.enc) (fun _=>rfl) hu).ex;injection h1 with _ _ h1
    omega
   have ago:o.Gj e (o.comp []):=o.YP (s:=[]) (by rw[aE]) List.Pairwise.nil;refine af ?_;refine K.call (akZ u4 mZ av) ?_;rintro _ aU aA;refine af ?_;refine K.call (abK u4 mZ aU) ?_;rintro _ bb ⟨rfl,ax⟩;refine af ?_;exact⟨⟨_,ago,⟨.inl ⟨rfl,u4,mZ,rfl,aeP⟩⟩⟩,(aB.trans aA).trans ax⟩
  .obtain⟨b,c,rfl,aC,a6,aw,hm⟩:=aim hu aE;refine af ?_;refine K.call (ak0 b c _ av a6 (by omega)) ?_;rintro _ aU ⟨s,aN,ay,hM,fq⟩;have agi:=aN.length_eq;have eZ:=o.Kf s;rw[<-agi];refine af ?_;refine K.call (abL b c s aU hM (by omega) hm) ?_;rintro _ bb ⟨rfl,af3,im⟩;refine af ?_;exact⟨⟨_,o.YP aN ay,⟨.inr ⟨b,c,rfl,aC,af3,by omega,hm⟩⟩⟩,(fq.trans im).ext aB fun i ad e=>by omega⟩
end Go.Proofs.R
end
section
namespace o
open Go
theorem alR{m:Model}{x:Node}(h:sm x.op=false):gj m 0 false x=[]:=by
 unfold sm at h;have h:=of_decide_eq_false h;unfold gj;rw[if_neg (by omega),if_neg (by omega),if_neg (by omega),if_neg (by omega),if_neg (by omega)]
theorem alU{m:Model}{e r:List Node}(h:Gj e r)(z:Int):z∈r.flatMap (gj m 0 false)↔z∈E4 m e:=by
 unfold E4;simp only[List.mem_flatMap];constructor
 .rintro⟨x,ar,bN⟩;exact⟨x,((h.mem x).1 ar).1,bN⟩
 .rintro⟨x,ar,bN⟩;cases ay:sm x.op with
  | false=>rw[alR ay] at bN;cases bN
  | true=>exact⟨x,(h.mem x).2 ⟨ar,ay⟩,bN⟩
def w2(m:Model)(k:Nat):List Int:=(m.props.take k).flatMap fun p=>E4 m p.expr
theorem akE{m:Model}{k:Nat}(h:k<m.props.length):w2 m (k+1)=w2 m k++E4 m m.props[k].expr:=by
 unfold w2;rw[List.take_succ_eq_append_getElem h,List.flatMap_append];simp
theorem akD(m:Model):w2 m m.props.length=ve m:=by unfold w2 ve;rw[List.take_length]
end o
namespace Go.Proofs.R
open Go Go.RowKit bt
theorem JF.form{w:World}{base:Nat}{v:Value}{r:List o.Node}(h:JF w base v r):∃bm c,v = .slice bm r.length c/\(0<r.length->∃b,bm=some ⟨b,0,none⟩/\base<=b/\gP w b r/\r.length<=c/\c<=maxLen):=by
 rcases h.ex with ⟨rfl,p,c,rfl,_⟩ | ⟨b,c,rfl,aC,a6,aw,hm⟩
 .exact⟨p,c,rfl,fun h=>absurd h (Nat.lt_irrefl _)⟩
 .exact⟨_,c,rfl,fun _=>⟨b,rfl,aC,a6,aw,hm⟩⟩
theorem MR{a b c d e:Option Addr}{j4 jm nU sc n5 c1 c2 bQ bX xG:Nat}{n:Int}:∀x∈(#[.slice a j4 c1,.slice b jm c2,.slice c nU bQ,.int .i64 n,.slice d sc bX,.slice e n5 xG]:Array Value).toList,x.oneCell'=true:=by simp[Value.oneCell']
theorem akJ(cs:List Value)(m:o.Model)(w:World)(h:o.dY w cs m)(a1:m.cQ)(ba:ht w) :
  bu Tryz.prog F.qE #[.agg cs.toArray] w fun u w'=>(∃b n,((o.nr m=[]/\n=0/\u = .slice none 0 0)\/u = .slice (some ⟨b,0,none⟩) n n/\n=(o.nr m).length/\w.heap.size<=b/\w'.heap[b]? = some (.cells (ju (o.nr m)).toArray T.p)))/\Ext w w':=by
 have eh:=h;obtain⟨cy,bP,b9,c1,ck,c2,cn,bQ,cB,bX,rfl,ak,h1,U,ag,aJ,eM,ej,ev,ea,ew⟩:=h.form;refine bL E.qE ?_;refine bG ?_;refine af ?_;intro av bC cR aB aq;refine af ?_;refine K.call (A4 _ m av (eh.ext aB) a1 (ba.ext aB)) ?_;rintro _ aU ⟨rfl,aA⟩;replace aq:=aA.obj aq;have aW:=aB.trans aA;refine af ?_;refine K.jg (v:=.int .i64 (o.check m).c3) rfl ?_;refine af ?_;apply K.cond<;>intro g1;rotate_left
 .have e:o.nr m=[]:=by unfold o.nr;rw[if_neg g1]
  refine af ?_;exact⟨⟨0,0,.inl ⟨e,rfl,bk⟩⟩,aW⟩
 have lA:=o.mF g1;have afr:o.lay m=o.layout m:=by unfold o.lay;rw[if_pos g1]
 refine ee ?_;refine K.hl [1] (fun x:Nat×Value=>[(3,.pointer (some ⟨x.1,0,none⟩)),(4,x.2)]) (fun x W => ∃ys:List Value,W.heap[x.1]? = some (.cells ys.toArray T.g)/\o.jr W ys (o.layout m)/\lV W x.2 (o.insts m)/\Ext aU W) ?_ ?_
 .have LX:∀{W},Ext aU W->bu Tryz.prog F.y #[.agg #[.slice cy m.scalars.length bP,.slice b9 m.vars.length c1,.slice ck m.aL.length c2,.slice cn m.procs.length bQ,.slice cB m.props.length bX]] W fun v w'=>(∃gv d0 eD d1 fC d2 fU d3 gF d4,v = .agg #[.slice gv (o.layout m).vars.length d0,.slice eD (o.layout m).aL.length d1,.slice fC (o.layout m).insts.length d2,.int .i64 (o.layout m).cells,.slice fU (o.layout m).bf.length d3,.slice gF (o.layout m).ad.length d4]/\eF W (fun w=>o.jr w [.slice gv (o.layout m).vars.length d0,.slice eD (o.layout m).aL.length d1,.slice fC (o.layout m).insts.length d2,.int .i64 (o.layout m).cells,.slice fU (o.layout m).bf.length d3,.slice gF (o.layout m).ad.length d4] (o.layout m)) w')/\Ext W w':=fun {W} he=>(Wk _ m W (eh.ext (aW.trans he)) a1 (ba.ext (aW.trans he))).mono fun v w' ⟨⟨xs,aT,aE⟩,h2⟩=>by
   rw[afr] at aE;obtain⟨gv,d0,eD,d1,fC,d2,fU,d3,gF,d4,rfl,_⟩:=aE.here.form;exact⟨⟨gv,d0,eD,d1,fC,d2,fU,d3,gF,d4,aT,aE⟩,h2⟩
  have ux:∀{W},Ext aU W->bu Tryz.prog F.a #[.agg #[.slice cy m.scalars.length bP,.slice b9 m.vars.length c1,.slice ck m.aL.length c2,.slice cn m.procs.length bQ,.slice cB m.props.length bX]] W fun v w'=>(∃cS ci,v = .slice cS (o.insts m).length ci/\bs o.c7.enc T.k 2 W.heap.size w' v (o.insts m))/\Ext W w':=fun {W} he=>(AA _ m W (eh.ext (aW.trans he)) a1).mono fun v w' ⟨aT,h2⟩=>by
   obtain⟨cS,ci,rfl,_⟩:=aT.form;exact⟨⟨cS,ci,rfl,aT⟩,h2⟩
  refine ee ?_;intro bb ax;replace aq:=ax.obj aq;refine af ?_;refine⟨?_,?_⟩
  .refine K.call (LX ax) ?_;rintro _ bq ⟨⟨gv,d0,eD,d1,fC,d2,fU,d3,gF,d4,rfl,dg⟩,aM⟩;have bZ:=ax.trans aM;refine⟨aM,?_⟩;refine af ?_;refine⟨?_,?_⟩
   .refine K.call (ux bZ) ?_;rintro _ bT ⟨⟨cS,ci,rfl,bB⟩,aZ⟩;have b5:=bZ.trans aZ;refine af ?_;intro bV b4 fp a8 bA;refine⟨(aM.trans aZ).trans a8,?_⟩;refine K.jJ bA rfl rfl MR fun cc dx cU=>?_;have dz:=dx.ext a8 fp;refine af ?_;exact⟨(b4,_),⟨bk,bk,trivial⟩,_,cU,dg.here.ext (aZ.trans dz),(bs.jI (enc:=o.c7.enc) (fun _=>rfl) bB).ext Flat.ext dz,b5.trans dz⟩
   .refine K.new ?_;intro bT b4 fp aZ bA;have b5:=bZ.trans aZ;have cv:=cG bA;refine⟨aM.trans aZ,?_⟩;refine af ?_;refine K.call (ux b5) ?_;rintro _ bV ⟨⟨cS,ci,rfl,bB⟩,a8⟩;refine af ?_;refine K.jJ (a8.obj bA) rfl rfl MR fun cc dx cU=>?_;have dz:=dx.ext (aZ.trans a8) fp;refine af ?_;exact⟨(b4,_),⟨bk,bk,trivial⟩,_,cU,dg.here.ext dz,bs.jI (enc:=o.c7.enc) (fun _=>rfl) (bs.wr dx cv bB),bZ.trans dz⟩
  .refine K.new ?_;intro bq b4 fp aM bA;have bZ:=ax.trans aM;have cv:=cG bA;refine⟨aM,?_⟩;refine af ?_;refine K.call (LX bZ) ?_;rintro _ bT ⟨⟨gv,d0,eD,d1,fC,d2,fU,d3,gF,d4,rfl,dg⟩,aZ⟩;have b5:=bZ.trans aZ;have z5:=aZ.size;refine⟨aM.trans aZ,?_⟩;refine af ?_;refine K.call (ux b5) ?_;rintro _ bV ⟨⟨cS,ci,rfl,bB⟩,a8⟩;refine af ?_;refine K.jJ ((aZ.trans a8).obj bA) rfl rfl MR fun cc dx cU=>?_;have dz:=dx.ext ((aM.trans aZ).trans a8) fp;refine af ?_;exact⟨(b4,_),⟨bk,bk,trivial⟩,_,cU,((dg.ext a8 z5).wr dx cv).here,bs.jI (enc:=o.c7.enc) (fun _=>rfl) (bs.wr dx (by omega) bB),ax.trans dz⟩
 rintro⟨b4,cx⟩ S bb ⟨ys,bA,dg,bB,ax⟩;dsimp only at bA dg bB ⊢;replace aq:=ax.obj aq;have bJ:=aW.trans ax;have qK:=dg;obtain⟨gv,d0,eD,d1,fC,d2,fU,d3,gF,d4,rfl,_⟩:=dg.form;have eZ:(o.layout m).cells=(o.eB m:Nat):=rfl;have p2:o.eB m<=64:=o.nm lA;have s0:=o.ai9 g1;refine af ?_;refine K.WH (o.eB m) eZ (by omega) fun bq b aC aM bw=>?_;refine af ?_;intro wn bW nc gL fX;refine af ?_;intro bT e0 jz;have aZ:Ext bq bT:=e0.ext gL nc;clear fX;have hS:=aM.trans aZ;have ow:lX bT bW b (o.eB m) (o.w2 m 0):=⟨jz,_,aZ.obj bw,o.nG.start _⟩;have kX:=cG (aZ.obj bw);have qJ:∀{W},Mod (fun i=>i=b) bT W->Ext bb W:=fun hm=>hm.ext hS fun k hk e=>by omega
 have aeJ:=hS.obj aq;have Hp:=hS.obj bA;clear bw jz;refine af ?_;refine K.dk 24 m.props.length [1,3,4,5,22,23] (fun _:Unit=>[]) () (fun k _ W=>lX W bW b (o.eB m) (o.w2 m k)/\Mod (fun i=>i=b) bT W) bz bz ⟨ow,Mod.refl _ _⟩ ?_;rintro k _ kR bV hk ⟨Ha,l6⟩;have wb:=qJ l6;have cM:=bJ.trans wb;have aeo:=Ha.box;have sU:=wb.obj aq;have aey:=wb.obj bA;clear aeJ Hp;refine af ?_;apply K.cond<;>intro g2;rotate_left
 .have km:k=m.props.length:=by omega
  rw[km,o.akD] at Ha;obtain⟨al,ba,ay⟩:=Ha.row;have k4:=ay.akH g1;subst k4;have aS:=ay.len;refine af ?_;exact⟨⟨b,o.eB m,.inr ⟨rfl,aS.symm,by have:=bJ.size;omega,ba⟩⟩,cM⟩
 have du:k<m.props.length:=by omega
 obtain⟨a4,rfl⟩:=aJ.addr (by omega);obtain⟨nS,hD,dZ,hL⟩:=aJ.at k du;obtain⟨Na,ce,rfl,_⟩:=hL.form;have eU:=o.Xc g1 du;have hle:=eU.len;unfold o.kQ.enc at dZ;have afQ:=dZ.ext cM;refine af ?_;intro cc l1 jX bM cU;have dz:=cM.trans bM;refine af ?_;refine K.call (alV _ m.props[k].expr cc (hL.ext dz) (by omega)) ?_;rintro _ di ⟨⟨r,a6,adK⟩,bY⟩;obtain⟨bm,c,rfl,nR⟩:=adK.form;have uu:=bM.trans bY;have x5:=Ha.ext uu;have nP:=l6.trans uu.mod;have qM:=bM.size;have gq:b<bV.heap.size:=by have:=l6.size;omega
 clear cU afQ aeo sU aey;refine af ?_;refine K.dk 32 r.length [1,3,4,5,22,23,24,30,31] (fun _:Unit=>[]) () (fun i _ W=>lX W bW b (o.eB m) (o.w2 m k++(r.take i).flatMap (o.gj m 0 false))/\Mod (fun i=>i=b) di W) bz bz ⟨by simpa using x5,Mod.refl _ _⟩ ?_;rintro i _ JB dX ad ⟨Hb,qT⟩;have U1:=nP.trans qT;have G6:=qJ U1;have ig:=bJ.trans G6;have T1:=Hb.box;have Dj:=G6.obj aq;have T2:=G6.obj bA;refine af ?_;apply K.cond<;>intro g3;rotate_left
 .have afg:i=r.length:=by omega
  rw[afg,List.take_length] at Hb;refine af ?_;refine⟨du,bk,(),trivial,Hb.congr fun z=>?_,U1⟩;rw[o.akE du,List.mem_append,List.mem_append,o.alU a6]
 have kD:i<r.length:=by omega
 obtain⟨nH,rfl,Lb,afD,HP,DT⟩:=nR (by omega);have z1:=(afD.mod qT (by omega)).Yk HP DT;obtain⟨My,_⟩:=(a6.mem r[i]).1 (List.getElem_mem kD);have aof:r.length<=9223372036854775807:=by unfold maxLen at DT;omega
 have dq:(r[i]).ok:=by
  have Vd:=List.length_pos_of_mem My;obtain⟨xy,rfl⟩:=hL.addr Vd;obtain⟨j,aR,pW⟩:=List.mem_iff_getElem.1 My;rw[<-pW];exact(hL.at j aR).ok
 have agf:=o.ajb g1 du My;refine af ?_;intro fw hv lB dc dM;replace T1:=dc.obj T1;replace Dj:=dc.obj Dj;replace T2:=dc.obj T2;refine af ?_;refine K.call (ab7 r[i] _ _ _ bW b _ m bb fw (eh.ext bJ) qK bB (G6.trans dc) aC (Hb.ext dc) lA agf dq) ?_;rintro _ gw ⟨ad0,HL⟩;refine af ?_;refine⟨kD,bk,(),trivial,?_,(qT.trans dc.mod).trans HL⟩;rw[List.take_succ_eq_append_getElem kD,List.flatMap_append,<-List.append_assoc];simpa using ad0
theorem Sv(cs:List Value)(cx:Value)(m:o.Model)(ref:Int)(q p k:Nat)(w:World)(h:o.dY w cs m)(bB:lV w cx (o.insts m))(ca:o.fD m ref q p k)(x:o.Ref)(kq:x.inst=q)(gT:x.cmd=k) :
  bu Tryz.prog F.i #[.agg cs.toArray,cx,.agg x.enc.toArray] w fun u w'=>(∃fK ed,u = .agg ((o.cD m p k).enc fK ed).toArray/\o.gd w fK (o.cD m p k).guard/\o.nz w ed (o.cD m p k).b6)/\Ext w w':=by
 obtain⟨cy,bP,b9,c1,ck,c2,cn,bQ,cB,bX,rfl,ak,h1,U,ag,aJ,eM,ej,ev,ea,ew⟩:=h.form;obtain⟨cS,ci,rfl,_⟩:=bB.form;have aD:=ca.at_.ad;have aN:=ca.at_.aN;have uz:=ca.at_.hk;have rU:=ca.at_.ip;obtain⟨lp,rfl⟩:=bB.addr (by omega);obtain⟨a3,rfl⟩:=ag.addr (by omega);obtain⟨nS,cE,dU,dZ,eT,gS⟩:=ag.at p aN;obtain⟨M9,J2,rfl,MS⟩:=gS.form;obtain⟨ac,rfl⟩:=gS.addr (by omega);obtain⟨fX,fK,ed,gx,lE,jk⟩:=gS.at k uz;obtain⟨iL,je,rfl,_⟩:=lE.form;obtain⟨yP,xK,rfl,_⟩:=jk.form;have rS:=o.zP aN uz;have CL:x.enc=[.int .i64 q,.int .i64 k]:=by unfold o.Ref.enc;rw[kq,gT]
 rw[CL];unfold o.dy.enc at dZ;unfold o.dI.enc at gx;refine bL E.i ?_;refine bG ?_;refine af ?_;intro av b4 fp aB bA;refine af ?_;intro aU dO kX aA cC;replace bA:=aA.obj bA;refine af ?_;intro bb fl gq ax ct;replace bA:=ax.obj bA;replace cC:=ax.obj cC;have bJ:=(aB.trans aA).trans ax;have kv:=aB.size;have y5:=aA.size;intro bq aM;replace bA:=aM.obj bA;replace cC:=aM.obj cC;replace ct:=aM.obj ct;have bZ:=bJ.trans aM;have TF:=bB.ext Flat.ext bZ;have aod:=dZ.ext bZ;have anQ:=gx.ext bZ;refine af ?_;refine K.dD p (by rw[rU]) aN ?_;refine af ?_;intro bT e0 aeA;refine af ?_;exact⟨⟨.slice iL (o.cD m p k).guard.length je,.slice yP (o.cD m p k).b6.length xK,by rw[rS];rfl,by rw[rS];exact lE,by rw[rS];exact jk⟩,e0.ext bZ (by omega)⟩
structure vF(w:World)(bW b:Nat)(al:List Bool):Prop where
 box:w.heap[bW]? = some (.cells #[.slice (some ⟨b,0,none⟩) al.length al.length] T.z)
 row:w.heap[b]? = some (.cells (ju al).toArray T.p)
theorem vF.ext{w w':World}{bW b:Nat}{al:List Bool}(h:vF w bW b al)(he:Ext w w'):vF w' bW b al:=⟨he.obj h.box,he.obj h.row⟩
def re(al:List Bool)(x:Int):Bool:=(al[x.toNat]?).getD false
theorem alp(x:Int)(bW b:Nat)(al:List Bool)(w:World)(h:vF w bW b al)(ak:0<=x)(h1:x.toNat<al.length) :
  bu Tryz.prog F.w #[.int .i64 x,.pointer (some ⟨bW,0,none⟩)] w fun v w'=>v = .bool (re al x)/\Ext w w':=by
 have nc:=h.box;have aw:w.cell? (Addr.add ⟨b,0,none⟩ (x.toNat*1))=some (.bool (re al x)):=e2 h.row (by rw[Nat.mul_one];simp[ju,re,h1]);refine bL E.w ?_;refine bG ?_;refine af ?_;refine K.dD x.toNat (by omega) h1 ?_;refine af ?_;refine K.ld aw ?_;refine af ?_;exact⟨bk,Ext.refl _⟩
theorem akQ(v:Value)(l:List Int)(bW b:Nat)(al:List Bool)(w:World)(h:eO w v l)(cq:0<l.length->vF w bW b al)(aS:∀x∈l,0<=x/\x.toNat<al.length) :
  bu Tryz.prog F.Ct #[v,.func (.func F.w) #[] #[.pointer (some ⟨bW,0,none⟩)]] w fun cf w'=>cf = .int .i64 (qG (re al) l 0)/\Ext w w':=by
 obtain⟨b9,c1,rfl,bC⟩:=h.form;refine bL E.Ct ?_;refine bG ?_;refine af ?_;refine K.dk 8 l.length [0,1,7] (fun _:Unit=>[]) () (fun k _ w'=>Ext w w'/\qG (re al) l 0=qG (re al) (l.drop k) k) bz bz ⟨Ext.refl _,by simp⟩ ?_;rintro k _ S aU hk ⟨aA,bB⟩;have U:=h.ext Flat.ext aA;refine af ?_;apply K.cond<;>intro g1
 .have bp:k<l.length:=by omega
  obtain⟨a,rfl⟩:=h.addr (by omega);obtain⟨qg,dH⟩:=aS _ (List.getElem_mem bp);rw[Td bp] at bB;refine af ?_;refine K.mX (first:=[]) (cap:=[.pointer (some ⟨bW,0,none⟩)]) (by kernel_rfl) (alp l[k] bW b al aU ((cq (by omega)).ext aA) qg dH) ?_;rintro _ bb ⟨rfl,ax⟩;cases ay:re al l[k] with
  | true =>
   rw[ay,if_pos rfl] at bB;refine af ?_;exact⟨by rw[bB],aA.trans ax⟩
  | false =>
   rw[ay,if_neg (by simp)] at bB;refine af ?_;exact⟨bp,bk,(),trivial,aA.trans ax,bB⟩
 .refine af ?_;exact⟨by rw[bB,List.drop_eq_nil_of_le (by omega)];rfl,aA⟩
theorem akC(v:Value)(l:List Int)(bW b:Nat)(al:List Bool)(w:World)(h:eO w v l)(cq:0<l.length->vF w bW b al)(aS:∀x∈l,0<=x/\x.toNat<al.length) :
  bu Tryz.prog F.bi #[v,.func (.func F.w) #[] #[.pointer (some ⟨bW,0,none⟩)]] w fun cf w'=>cf = .bool (l.any (re al))/\Ext w w':=by
 refine bL E.bi ?_;refine bG ?_;refine af ?_;refine K.call (akQ v l bW b al w h cq aS) ?_;rintro _ aU ⟨rfl,aA⟩;refine af ?_;refine⟨?_,aA⟩;congr 1;exact Bool.eq_iff_iff.2 (by rw[decide_eq_true_eq];exact KH)
structure amF(w:World)(b N:Nat)(L:List Int):Prop where
 row:∃al,w.heap[b]? = some (.cells (ju al).toArray T.p)/\o.nG N L al
end Go.Proofs.R
end
section
namespace o
structure Qa(m:Model):Prop where
 s:m.scalars.length<=8
 v:m.vars.length<=20
 c:m.aL.length<=8
 p:m.procs.length<=10
 q:m.props.length<=16
 i:∀(j:Nat) (h:j<m.procs.length),m.procs[j].vars.length<=10/\m.procs[j].cH.length<=16
end o
namespace Go.Proofs.R
open Go Go.RowKit bt
theorem ahJ(cs:List Value)(c:o.dI)(w:World)(h:o.xe w cs c) :
  bu Tryz.prog F.ED #[.agg cs.toArray] w fun v w'=>(∃b:Bool,v = .bool b)/\Ext w w':=by
 obtain⟨ak,_,_,rfl,a1,bj⟩:=h;obtain⟨_,_,rfl,_⟩:=a1.form;obtain⟨bm,gf,rfl,oC⟩:=bj.form;unfold o.dI.enc;refine bL E.ED ?_;refine bG ?_;refine aa ?_;intro av bC cR aB aq;refine aa ?_;apply K.cond<;>intro g0
 .refine aa ?_;exact⟨⟨_,rfl⟩,aB⟩
 refine aa ?_;apply K.cond<;>intro g1
 .refine aa ?_;exact⟨⟨_,rfl⟩,aB⟩
 refine aa ?_;apply K.cond<;>intro g2
 .refine aa ?_;exact⟨⟨_,rfl⟩,aB⟩
 refine aa ?_;refine K.dk 3 c.b6.length [1] (fun _=>[]) () (fun k _ w'=>w'=av) bz bz rfl ?_;rintro k _ S aU hk rfl;refine aa ?_;apply K.cond<;>intro g5
 .have bp:k<c.b6.length:=by omega
  obtain⟨a,rfl⟩:=bj.addr (by omega);obtain⟨cE,dU,aN,eT,dZ⟩:=bj.at k bp;obtain⟨e3,fy,rfl,gi⟩:=eT.form;obtain⟨oE,kz,rfl,lc⟩:=dZ.form;refine aa ?_;apply K.cond<;>intro g6
  .refine aa ?_;exact⟨⟨_,rfl⟩,aB⟩
  refine aa ?_;apply K.cond<;>intro g7
  .refine aa ?_;exact⟨⟨_,rfl⟩,aB⟩
  refine aa ?_;exact⟨bp,bk,(),trivial,bk⟩
 refine aa ?_;exact⟨⟨_,rfl⟩,aB⟩
theorem ahI(cs:List Value)(m:o.Model)(w:World)(h:o.dY w cs m) :
  bu Tryz.prog F.Ez #[.agg cs.toArray] w fun v w'=>(∃b,v = .bool b/\(b=true->o.Qa m))/\Ext w w':=by
 obtain⟨cy,bP,b9,c1,ck,c2,cn,bQ,cB,bX,rfl,ak,h1,U,ag,aJ,eM,ej,ev,ea,ew⟩:=h.form;refine bL E.Ez ?_;refine bG ?_;refine aa ?_;intro av bC cR aB aq;refine aa ?_;apply K.cond<;>intro g0
 .refine aa ?_;exact⟨⟨false,rfl,fun h=>by cases h⟩,aB⟩
 refine aa ?_;apply K.cond<;>intro g1
 .refine aa ?_;exact⟨⟨false,rfl,fun h=>by cases h⟩,aB⟩
 refine aa ?_;apply K.cond<;>intro g2
 .refine aa ?_;exact⟨⟨false,rfl,fun h=>by cases h⟩,aB⟩
 refine aa ?_;apply K.cond<;>intro g3
 .refine aa ?_;exact⟨⟨false,rfl,fun h=>by cases h⟩,aB⟩
 refine aa ?_;apply K.cond<;>intro g4
 .refine aa ?_;exact⟨⟨false,rfl,fun h=>by cases h⟩,aB⟩
 have o9:=aq;refine aa ?_;refine K.dk 3 m.procs.length [1] (fun _=>[]) () (fun k _ w'=>Ext av w'/\∀j (h:j<m.procs.length),j<k->m.procs[j].vars.length<=10/\m.procs[j].cH.length<=16) bz bz ⟨Ext.refl _,fun j _ h=>absurd h (Nat.not_lt_zero _)⟩ ?_;rintro k _ S aU hk ⟨aA,dC⟩;replace aq:=aA.obj o9;have aW:=aB.trans aA;refine aa ?_;apply K.cond<;>intro g5
 .have bp:k<m.procs.length:=by omega
  obtain⟨a,rfl⟩:=ag.addr (by omega);obtain⟨_,cE,dU,aN,eT,dZ⟩:=ag.at k bp;obtain⟨e3,fy,rfl,gi⟩:=eT.form;obtain⟨oE,kz,rfl,lc⟩:=dZ.form;refine aa ?_;apply K.cond<;>intro g6
  .refine aa ?_;exact⟨⟨false,rfl,fun h=>by cases h⟩,aW⟩
  refine aa ?_;apply K.cond<;>intro g7
  .refine aa ?_;exact⟨⟨false,rfl,fun h=>by cases h⟩,aW⟩
  refine aa ?_;refine K.dk 4 m.procs[k].cH.length [1,3] (fun _=>[]) () (fun i _ w'=>Ext av w') bz bz aA ?_;clear aq aW aA;rintro i _ S bb ad aA;have aq:=aA.obj o9;have aW:=aB.trans aA;refine aa ?_;apply K.cond<;>intro g8
  .have cO:i<m.procs[k].cH.length:=by omega
   obtain⟨ac,rfl⟩:=dZ.addr (by omega);obtain⟨am0,gx,ca⟩:=Rel.out (dZ.at i cO);obtain⟨_,_,_,rfl,_,_⟩:=id ca;refine aa ?_;refine K.call (ahJ _ m.procs[k].cH[i] bb (ca.ext aW)) ?_;rintro _ bq ⟨⟨b,rfl⟩,aM⟩;cases b with
   | false =>
    refine aa ?_;exact⟨⟨false,rfl,fun h=>by cases h⟩,aW.trans aM⟩
   | true =>
    refine aa ?_;exact⟨cO,bk,(),trivial,aA.trans aM⟩
  .refine aa ?_;refine⟨bp,bk,(),trivial,aA,fun j aR h3=>?_⟩;by_cases kZ:j=k
   .subst kZ;exact⟨by omega,by omega⟩
   .exact dC j aR (by omega)
 refine aa ?_;refine K.dk 5 m.props.length [1] (fun _=>[]) () (fun i _ w'=>w'=aU) bz bz rfl ?_;rintro i _ S bb ad rfl;refine aa ?_;apply K.cond<;>intro g8
 .have cO:i<m.props.length:=by omega
  obtain⟨ac,rfl⟩:=aJ.addr (by omega);obtain⟨_,hD,gx,lH⟩:=aJ.at i cO;obtain⟨e3,fy,rfl,gi⟩:=lH.form;refine aa ?_;apply K.cond<;>intro g9
  .refine aa ?_;exact⟨⟨false,rfl,fun h=>by cases h⟩,aW⟩
  refine aa ?_;exact⟨cO,bk,(),trivial,bk⟩
 refine aa ?_;exact⟨⟨true,rfl,fun _=>⟨by omega,by omega,by omega,by omega,by omega,fun j aR=>dC j aR (by omega)⟩⟩,aW⟩
end Go.Proofs.R
end
section
namespace o
open Go
structure oV(m:Model)(ref:Int)(t:Bool):Prop where
 none:¬Told m ref->t=false
 there:∀q p k a b,fD m ref q p k->iQ m ref a b->(t=true↔(cD m p k).to<=(cD m p k).from_\/∃x∈b,x∈ve m)
theorem oV.no{m:Model}{ref:Int}(h:¬Told m ref):oV m ref false:=⟨fun _=>rfl,fun _ _ _ _ _ ca=>absurd ca.told h⟩
theorem oV.of{m:Model}{ref:Int}{q p k:Nat}{a b:List Int}{t:Bool}(ca:fD m ref q p k)(dE:iQ m ref a b)(h:t=true↔(cD m p k).to<=(cD m p k).from_\/∃x∈b,x∈ve m):oV m ref t :=
 ⟨fun aE=>absurd ca.told aE,fun ga fZ k' c5 gm ug KW=>by
  obtain⟨rfl,rfl,rfl⟩:=ca.one ug;obtain⟨rfl,rfl⟩:=dE.eq KW;exact h⟩
theorem aml{m:Model}{ref:Int}{q p k:Nat}{a b:List Int}(ca:fD m ref q p k)(dE:iQ m ref a b):∀x∈b,0<=x/\x<eB m:=fun x ar=>write_lt ca x (((dE.there q p k ca).2.mem x).1 ar)
end o
namespace Go.Proofs.R
open Go Go.RowKit bt
theorem akw{m:o.Model}{b:List Int}(hk:(o.check m).c3=0)(aC:∀x∈b,0<=x/\x<o.eB m):b.any (re (o.nr m))=true↔∃x∈b,x∈o.ve m:=by
 rw[List.any_eq_true];have key:∀x∈b,(re (o.nr m) x=true↔x∈o.ve m):=fun x ar=>by
  obtain⟨ak,h1⟩:=aC x ar;unfold re o.nr;rw[if_pos hk,List.getElem?_map,List.getElem?_range (by omega)];simp only[Option.map_some,Option.getD_some,decide_eq_true_eq];rw[show((x.toNat:Nat):Int)=x from by omega]
 constructor
 .rintro⟨x,ar,h⟩;exact⟨x,ar,(key x ar).1 h⟩
 .rintro⟨x,ar,h⟩;exact⟨x,ar,(key x ar).2 h⟩
theorem akI{m:o.Model}(hk:(o.check m).c3=0):(o.nr m).length=o.eB m:=by unfold o.nr;rw[if_pos hk];simp
theorem Kb{s:ByteArray}{f t:Int}{a b:Option Addr}{j4 jm c1 c2:Nat}{y:Bool}:∀x∈(#[.string s,.int .i64 f,.int .i64 t,.slice a j4 c1,.slice b jm c2,.bool y]:Array Value).toList,x.oneCell'=true:=by simp[Value.oneCell']
theorem abV(cs:List Value)(m:o.Model)(ref:Int)(w:World)(h:o.dY w cs m)(a1:m.cQ)(ba:ht w) :
  bu Tryz.prog F.u #[.agg cs.toArray,.int .i64 ref] w fun u w'=>(∃t,u = .bool t/\o.oV m ref t)/\Ext w w':=by
 have eh:=h;obtain⟨cy,bP,b9,c1,ck,c2,cn,bQ,cB,bX,rfl,_⟩:=h.form;refine bL E.u ?_;refine bG ?_;refine af ?_;intro av cp dR aB aQ;refine af ?_;refine K.call (A4 _ m av (eh.ext aB) a1 (ba.ext aB)) ?_;rintro _ aU ⟨rfl,aA⟩;replace aQ:=aA.obj aQ;have aW:=aB.trans aA;refine af ?_;refine K.jg (v:=.int .i64 (o.check m).c3) rfl ?_;refine af ?_;apply K.cond<;>intro g1;rotate_left
 .refine af ?_;exact⟨⟨false,bk,o.oV.no fun h=>g1 h.1⟩,aW⟩
 have lA:=o.mF g1;have j1:=o.u9 lA.lim;refine af ?_;refine K.call (Fe _ m aU (eh.ext aW) lA.lim) ?_;rintro j7 bb ⟨jE,ax⟩;obtain⟨h5,pU,rfl,_⟩:=jE.form;have z8:bE 2 (Flat o.Ref.enc) bb _ _:=bs.jI (enc:=o.Ref.enc) (fun _=>rfl) jE;replace aQ:=ax.obj aQ;have bJ:=aW.trans ax;clear jE;refine af ?_;apply K.cond<;>intro g2
 .refine af ?_;exact⟨⟨false,bk,o.oV.no fun h=>by have:=h.2.1;omega⟩,bJ⟩
 refine af ?_;apply K.cond<;>intro g3
 .refine af ?_;exact⟨⟨false,bk,o.oV.no fun h=>by have:=h.2.2;omega⟩,bJ⟩
 obtain⟨q,p,k,ca⟩:=o.sD (m:=m) (ref:=ref) ⟨g1,by omega,by omega⟩;obtain⟨r,rfl⟩:=Int.eq_ofNat_of_zero_le (show 0<=ref by omega);have a6:r<(o.refs m).length:=by omega
 have kE:(o.refs m)[r].inst=(q:Int):=ca.at_.wY;have s6:(o.refs m)[r].cmd=(k:Int):=ca.at_.yT;obtain⟨rH,rfl⟩:=z8.addr (by omega);refine ee ?_;refine K.hl [1,2] (fun fl:Nat=>[(6,.pointer (some ⟨fl,0,none⟩))]) (fun fl W=>(∃iL je bm gf,W.heap[fl]? = some (.cells #[.string (o.cD m p k).name,.int .i64 (o.cD m p k).from_,.int .i64 (o.cD m p k).to,.slice iL (o.cD m p k).guard.length je,.slice bm (o.cD m p k).b6.length gf,.bool (o.cD m p k).fair] T.n))/\Ext bb W) ?_ ?_
 .have ux:∀{W},Ext bb W->bu Tryz.prog F.a #[.agg #[.slice cy m.scalars.length bP,.slice b9 m.vars.length c1,.slice ck m.aL.length c2,.slice cn m.procs.length bQ,.slice cB m.props.length bX]] W fun v w'=>(∃cS ci,v = .slice cS (o.insts m).length ci/\lV w' v (o.insts m))/\Ext W w':=fun {W} he=>(AA _ m W (eh.ext (bJ.trans he)) a1).mono fun v w' ⟨aT,h2⟩=>by
   obtain⟨cS,ci,rfl,_⟩:=aT.form;exact⟨⟨cS,ci,rfl,bs.jI (enc:=o.c7.enc) (fun _=>rfl) aT⟩,h2⟩
  have ei:∀{W} {cx},Ext bb W->lV W cx (o.insts m)->bu Tryz.prog F.i #[.agg #[.slice cy m.scalars.length bP,.slice b9 m.vars.length c1,.slice ck m.aL.length c2,.slice cn m.procs.length bQ,.slice cB m.props.length bX],cx,.agg ((o.refs m)[r]).enc.toArray] W fun u w'=>(∃iL je bm gf,u = .agg #[.string (o.cD m p k).name,.int .i64 (o.cD m p k).from_,.int .i64 (o.cD m p k).to,.slice iL (o.cD m p k).guard.length je,.slice bm (o.cD m p k).b6.length gf,.bool (o.cD m p k).fair])/\Ext W w':=fun {W cx} he ad=>(Sv _ cx m r q p k W (eh.ext (bJ.trans he)) ad ca _ kE s6).mono fun u w' ⟨⟨fK,ed,hu,aE,bj⟩,h2⟩=>by
   obtain⟨iL,je,rfl,_⟩:=aE.form;obtain⟨bm,gf,rfl,_⟩:=bj.form;exact⟨⟨iL,je,bm,gf,hu⟩,h2⟩
  refine af ?_;intro bq aM;replace aQ:=aM.obj aQ;have anq:=z8.ext Flat.ext aM;refine af ?_;refine⟨?_,?_⟩
  .refine K.call (ux aM) ?_;rintro _ bT ⟨⟨cS,ci,rfl,bB⟩,aZ⟩;have b5:=aM.trans aZ;refine⟨aZ,?_⟩;refine af ?_;refine⟨?_,?_⟩
   .refine K.call (ei b5 bB) ?_;rintro _ bV ⟨⟨iL,je,bm,gf,rfl⟩,a8⟩;have cM:=b5.trans a8;refine af ?_;intro cc fl gq bM ct;refine⟨(aZ.trans a8).trans bM,?_⟩;refine K.jJ ct rfl rfl Kb fun di iJ cL=>?_;have eg:=iJ.ext bM gq;refine af ?_;exact⟨fl,⟨bk,trivial⟩,⟨_,_,_,_,cL⟩,cM.trans eg⟩
   .refine K.new ?_;intro bV fl gq a8 ct;have cM:=b5.trans a8;refine⟨aZ.trans a8,?_⟩;refine af ?_;refine K.call (ei cM (bB.ext Flat.ext a8)) ?_;rintro _ cc ⟨⟨iL,je,bm,gf,rfl⟩,bM⟩;refine af ?_;refine K.jJ (bM.obj ct) rfl rfl Kb fun di iJ cL=>?_;have eg:=iJ.ext (a8.trans bM) gq;refine af ?_;exact⟨fl,⟨bk,trivial⟩,⟨_,_,_,_,cL⟩,b5.trans eg⟩
  .refine K.new ?_;intro bT fl gq aZ ct;have b5:=aM.trans aZ;refine⟨aZ,?_⟩;refine af ?_;refine K.call (ux b5) ?_;rintro _ bV ⟨⟨cS,ci,rfl,bB⟩,a8⟩;have cM:=b5.trans a8;refine⟨aZ.trans a8,?_⟩;refine af ?_;refine K.call (ei cM bB) ?_;rintro _ cc ⟨⟨iL,je,bm,gf,rfl⟩,bM⟩;refine af ?_;refine K.jJ ((a8.trans bM).obj ct) rfl rfl Kb fun di iJ cL=>?_;have eg:=iJ.ext ((aZ.trans a8).trans bM) gq;refine af ?_;exact⟨fl,⟨bk,trivial⟩,⟨_,_,_,_,cL⟩,aM.trans eg⟩
 rintro fl S bq ⟨⟨iL,je,bm,gf,ct⟩,aM⟩;replace aQ:=aM.obj aQ;have bZ:=bJ.trans aM;refine af ?_;refine K.call (Zw _ m (r:Int) bq (eh.ext bZ) a1 (ba.ext bZ)) ?_;rintro _ bT ⟨⟨ah,bU,a,b,rfl,eJ,ji,dE⟩,aZ⟩;have b5:=bZ.trans aZ;replace aQ:=aZ.obj aQ;replace ct:=aZ.obj ct;have eU:=o.aml ca dE;have hlen:=akI g1;refine af ?_;refine K.call (akJ _ m bT (eh.ext b5) a1 (ba.ext b5)) ?_;rintro al8 bV ⟨⟨hv,n,aT⟩,a8⟩;have cM:=b5.trans a8;replace ct:=a8.obj ct;have fin:∀(W:World) (bW:Nat),Ext bV W->(0<b.length->vF W bW hv (o.nr m))->bu Tryz.prog F.bi #[bU,.func (.func F.w) #[] #[.pointer (some ⟨bW,0,none⟩)]] W fun cf w'=>cf = .bool (b.any (re (o.nr m)))/\Ext W w':=fun W bW he cq =>
  akC bU b bW hv _ W (ji.ext Flat.ext (a8.trans he)) cq fun x ar=>⟨(eU x ar).1,by have:=eU x ar;omega⟩
 have kF:∃p,al8 = .slice p n n/\(0<b.length->p=some ⟨hv,0,none⟩/\n=(o.nr m).length/\bV.heap[hv]? = some (.cells (ju (o.nr m)).toArray T.p)):=by
  rcases aT with ⟨ay,rfl,rfl⟩ | ⟨rfl,aE,_,nR⟩
  .refine⟨none,rfl,fun aC=>?_⟩;have h1:=eU _ (List.getElem_mem aC);rw[ay] at hlen;simp at hlen;omega
  .exact⟨_,rfl,fun _=>⟨rfl,aE,nR⟩⟩
 obtain⟨api,rfl,afO⟩:=kF;refine af ?_;intro wn bW nc gL fX;refine af ?_;intro cc dx jz;have bM:Ext bV cc:=dx.ext gL nc;clear fX;have dz:=cM.trans bM;replace ct:=bM.obj ct;have ad1:0<b.length->vF cc bW hv (o.nr m):=fun aC=>by
  obtain⟨rfl,rfl,nR⟩:=afO aC;exact⟨jz,bM.obj nR⟩
 refine af ?_;apply K.cond<;>intro g5
 .refine af ?_;exact⟨⟨true,bk,o.oV.of ca dE ⟨fun _=>.inl g5,fun _=>rfl⟩⟩,dz⟩
 refine af ?_;refine K.call (fin cc bW bM ad1) ?_;rintro _ di ⟨rfl,bY⟩;refine af ?_;refine⟨⟨_,bk,o.oV.of ca dE ?_⟩,dz.trans bY⟩;rw[akw g1 eU];exact⟨.inr,fun h=>h.resolve_left (by omega)⟩
end Go.Proofs.R
end
section
namespace bt
open Go Go.RowKit
def zT(b:Bool):List Value:=[.bool b]
end bt
namespace Go.Proofs.R
open Go Go.RowKit bt
def aeY(n:Nat)(vs:Nat->Option Addr×Nat×Nat):List Value:=(List.range n).map fun j=>cz (vs j)
structure amE(w:World)(e6 n base:Nat)(vs:Nat->Option Addr×Nat×Nat)(xs:Nat->List Bool):Prop where
 head:w.heap[e6]? = some (.cells (aeY n vs).toArray T.z)
 rows:hU zT T.p 1 base w n vs xs
end Go.Proofs.R
end
section
namespace o
open Go
def rv(m:Model)(q l:Int)(i:Nat):Prop := ∃(ga p k:Nat),fD m i ga p k/\(ga:Int)=q/\(cD m p k).from_=l
def qq(m:Model)(q l:Int):Prop:=(check m).c3=0/\∃(ga p:Nat) (h:fW m ga p),(ga:Int)=q/\0<=l/\l<(m.procs[p]'(h.aN)).cw
def F7(m:Model)(L:List (List Int×List Int))(q l:Int):Prop :=
 ∀i,rv m q l i->∀j (aR:j<(refs m).length),(refs m)[j].inst≠q->∀x y,L[i]? = some x->L[j]? = some y->¬oa x.1 x.2 y.1 y.2
structure nE(m:Model)(q l:Int)(t:Bool):Prop where
 off:¬qq m q l->t=false
 there:qq m q l->∀L,mh m (refs m).length L->(t=true↔F7 m L q l)
theorem nE.no{m:Model}{q l:Int}(h:¬qq m q l):nE m q l false:=⟨fun _=>rfl,fun k=>absurd k h⟩
theorem nE.of{m:Model}{q l:Int}{t:Bool}{L:List (List Int×List Int)}(eJ:qq m q l)(hK:mh m (refs m).length L)(h:t=true↔F7 m L q l):nE m q l t :=
 ⟨fun k=>absurd eJ k,fun _ mP ad9=>by rw[<-hK.eq ad9];exact h⟩
theorem MX{m:Model}{q p:Nat}{l:Int}(hk:(check m).c3=0)(bB:fW m q p)(ak:0<=l)(h1:l<(m.procs[p]'bB.aN).cw):qq m q l:=⟨hk,q,p,bB,rfl,ak,h1⟩
theorem fW.one{m:Model}{q p fZ:Nat}(h:fW m q p)(bF:fW m q fZ):p=fZ:=by
 have a:=h.eq;have b:=bF.eq;omega
theorem qq.lt{m:Model}{q p:Nat}{l:Int}(h:qq m q l)(bB:fW m q p):0<=l/\l<(m.procs[p]'bB.aN).cw:=by
 obtain⟨_,ga,fZ,adN,e,ak,h1⟩:=h
 have:ga=q:=by omega
 subst this
 have:=bB.one adN
 subst this;exact⟨ak,h1⟩
theorem qq.bf{m:Model}{q l:Int}(h:qq m q l):0<=q/\q<(insts m).length/\0<=l:=by
 obtain⟨_,ga,fZ,bB,e,ak,h1⟩:=h
 have:=bB.aD
 omega
theorem adb{m:Model}{q l:Int}{i ga p k:Nat}(ca:fD m i ga p k):rv m q l i↔((ga:Int)=q/\(cD m p k).from_=l):=by
 constructor
 .rintro⟨a,b,c,h,h1,U⟩;obtain⟨rfl,rfl,rfl⟩:=ca.one h;exact⟨h1,U⟩
 .rintro⟨h1,U⟩;exact⟨ga,p,k,ca,h1,U⟩
theorem rv.lt{m:Model}{q l:Int}{i:Nat}(h:rv m q l i):i<(refs m).length:=by
 obtain⟨_,_,_,ca,_⟩:=h
 have:=ca.told.2.2
 omega
theorem NS:∀l:List Int,∃r,pM l r
 | []=>⟨[],List.Pairwise.nil,fun _=>Iff.rfl⟩
 | x :: l=>by
  obtain⟨r,a6⟩:=NS l;by_cases ar:x∈r
  .exact⟨r,a6.k6,fun y=>by
    rw[a6.mem,List.mem_cons];exact⟨.inr,fun h=>h.elim (fun e=>e ▸ (a6.mem x).1 ar) id⟩⟩
  .refine⟨r.filter (· < x)++x :: r.filter (x < ·),?_,fun y=>?_⟩
   .refine List.pairwise_append.2 ⟨a6.k6.sublist List.filter_sublist,List.pairwise_cons.2 ⟨fun y b2=>?_,a6.k6.sublist List.filter_sublist⟩,fun y b2 z bN=>?_⟩
    .simpa using(List.mem_filter.1 b2).2
    .have h1:y<x:=by simpa using(List.mem_filter.1 b2).2
     rcases List.mem_cons.1 bN with e | e
     .omega
     .have U:x<z:=by simpa using(List.mem_filter.1 e).2
      omega
   .rw[List.mem_append,List.mem_cons,List.mem_filter,List.mem_filter,List.mem_cons,<-a6.mem y];simp only[decide_eq_true_eq];constructor
    .rintro(h | h | h)
     .exact .inr h.1
     .exact .inl h
     .exact .inr h.1
    .rintro(h | h)
     .exact .inr (.inl h)
     .have:y≠x:=fun e=>ar (e ▸ h)
      rcases Int.lt_or_lt_of_ne this with k | k
      .exact .inl ⟨h,k⟩
      .exact .inr (.inr ⟨h,k⟩)
theorem XC(m:Model)(ref:Int):∃a b,iQ m ref a b:=by
 by_cases aO:Told m ref
 .obtain⟨q,p,k,ca⟩:=sD aO;obtain⟨a,bj⟩:=NS (nq m q (cD m p k) (cD m p k).b6.length);obtain⟨b,aC⟩:=NS (kM m q (cD m p k) (cD m p k).b6.length);exact⟨a,b,iQ.of ca bj aC⟩
 .exact⟨[],[],iQ.nil aO⟩
def GV:List Node:=[⟨1,1⟩]
def ua:Act:=⟨3,0,0,[],GV⟩
def pY:dI:=⟨⟨#[103,111]⟩,0,1,[],[ua],false⟩
def sL:Var:=⟨⟨#[110]⟩,0,0,0,1,0⟩
def zW:dy:=⟨⟨#[80]⟩,0,2,[sL],[pY]⟩
def zX:dy:=⟨⟨#[81]⟩,0,2,[sL],[pY]⟩
def fo:Model:=⟨[],[],[],[zW,zX],[]⟩
def tY:dI:=⟨⟨#[103,111]⟩,1,0,[],[],false⟩
def v8:dy:=⟨⟨#[80]⟩,0,2,[],[tY]⟩
def kW:Model:=⟨[],[],[],[v8],[]⟩
theorem CP:(check fo).c3=0:=by decide +kernel
theorem CO:insts fo=[⟨0,0⟩,⟨1,0⟩]:=by decide +kernel
theorem tZ:refs fo=[⟨0,0⟩,⟨1,0⟩]:=by decide +kernel
theorem acx:(check kW).c3=0:=by decide +kernel
theorem S1:insts kW=[⟨0,0⟩]:=by decide +kernel
theorem S2:refs kW=[⟨0,0⟩]:=by decide +kernel
theorem KC:fD fo 0 0 0 0:=⟨CP,by decide,by rw[tZ];decide,by
 have e:∀h,(refs fo)[(0:Int).toNat]'h=⟨0,0⟩:=fun h=>by simp[tZ]
 rw[e];exact⟨by rw[CO];decide,rfl,by simp[CO],by decide,rfl,by decide⟩⟩
theorem S3:fD fo 1 1 1 0:=⟨CP,by decide,by rw[tZ];decide,by
 have e:∀h,(refs fo)[(1:Int).toNat]'h=⟨1,0⟩:=fun h=>by simp[tZ]
 rw[e];exact⟨by rw[CO];decide,rfl,by simp[CO],by decide,rfl,by decide⟩⟩
theorem acv:fD kW 0 0 0 0:=⟨acx,by decide,by rw[S2];decide,by
 have e:∀h,(refs kW)[(0:Int).toNat]'h=⟨0,0⟩:=fun h=>by simp[S2]
 rw[e];exact⟨by rw[S1];decide,rfl,by simp[S1],by decide,rfl,by decide⟩⟩
theorem acD:nq fo 0 (cD fo 0 0) (cD fo 0 0).b6.length=[0]:=by decide +kernel
theorem acI:kM fo 0 (cD fo 0 0) (cD fo 0 0).b6.length=[0,1]:=by decide +kernel
theorem acE:nq fo 1 (cD fo 1 0) (cD fo 1 0).b6.length=[2]:=by decide +kernel
theorem acJ:kM fo 1 (cD fo 1 0) (cD fo 1 0).b6.length=[2,3]:=by decide +kernel
theorem acF:ve fo=[]:=by decide +kernel
theorem S6{L:List (List Int×List Int)}(h:mh fo (refs fo).length L):L=[([0],[0,1]),([2],[2,3])]:=by
 have aS:=h.len;rw[tZ] at aS
 match L,aS with
 | [x,y],_ =>
  obtain⟨h1,U⟩:=(h.is 0 (by simp)).there _ _ _ KC;obtain⟨ag,aJ⟩:=(h.is 1 (by simp)).there _ _ _ S3;rw[acD] at h1;rw[acI] at U;rw[acE] at ag;rw[acJ] at aJ;have bR:=Bk _ [0] h1.k6 (by decide) h1.mem;have aW:=Bk _ [0,1] U.k6 (by decide) U.mem;have bJ:=Bk _ [2] ag.k6 (by decide) ag.mem;have bZ:=Bk _ [2,3] aJ.k6 (by decide) aJ.mem;simp only[List.getElem_cons_zero,List.getElem_cons_succ] at bR aW bJ bZ;obtain⟨j8,j9⟩:=x;obtain⟨kN,kv⟩:=y;simp only at bR aW bJ bZ;subst bR aW bJ bZ;rfl
theorem S4:fW fo 0 0:=KC.inst
theorem acA:fW fo 1 1:=S3.inst
theorem S5{q:Nat}(aD:q<2){t:Bool}{L:List (List Int×List Int)}(hK:mh fo (refs fo).length L)(h:nE fo q 0 t):t=true:=by
 have eJ:qq fo q 0:=by
  match q,aD with
  | 0,_=>exact MX CP S4 (by decide) (by decide)
  | 1,_=>exact MX CP acA (by decide) (by decide)
 have dg:=S6 hK;refine(h.there eJ L hK).2 ?_;intro i ad j aR cI x y ar b2;subst dg;have rV:j<2:=by rw[tZ] at aR;exact aR
 obtain⟨ga,p,k,ca,bR,_⟩:=ad;have kD:i<2:=by have:=ca.told.2.2;rw[tZ] at this;simp at this;omega
 have kE:=ca.at_.wY;simp only[tZ] at cI kE
 match i,kD,j,rV with
 | 0,_,0,_=>simp at cI kE;omega
 | 1,_,1,_=>simp at cI kE;omega
 | 0,_,1,_ =>
  simp only[List.getElem?_cons_zero,List.getElem?_cons_succ,Option.some.injEq] at ar b2;subst ar b2;decide
 | 1,_,0,_ =>
  simp only[List.getElem?_cons_zero,List.getElem?_cons_succ,Option.some.injEq] at ar b2;subst ar b2;decide
theorem acC{t:Bool}(h:nE fo 2 0 t):t=false:=h.off fun k=>by
 have:=k.bf.2.1
 rw[CO] at this;simp at this
theorem acB{t:Bool}(h:nE fo 0 2 t):t=false:=h.off fun k=>by
 have:=(k.lt S4).2
 revert this
 decide
theorem acG{t:Bool}{a b:List Int}(dE:iQ fo 0 a b)(h:oV fo 0 t):t=false:=by
 refine Bool.eq_false_iff.2 fun e=>?_;rcases(h.there _ _ _ _ _ KC dE).1 e with k | ⟨x,_,k⟩
 .revert k;decide
 .rw[acF] at k;cases k
theorem acH{t:Bool}(h:oV fo 2 t):t=false:=h.none fun k=>by
 have:=k.2.2
 rw[tZ] at this;simp at this
theorem acy{t:Bool}{a b:List Int}(dE:iQ kW 0 a b)(h:oV kW 0 t):t=true :=
 (h.there _ _ _ _ _ acv dE).2 (.inl (by decide))
theorem acM:ua.cQ:=by
 exact⟨lI (by simp[ua]),lI (by simp[ua]),lI (by simp[ua]),by simp[ua,dK],by simp[ua,GV,dK]⟩
theorem acK:pY.cQ:=by
 refine⟨lI (by simp[pY]),lI (by simp[pY]),by simp[pY,dK],by simp[pY,dK],?_⟩;intro b aC;simp[pY] at aC;subst aC;exact acM
theorem acz:fo.cQ:=by
 refine⟨by simp[fo,dK],by simp[fo,dK],by simp[fo,dK],by simp[fo,dK],by simp[fo,dK],by simp[fo],by simp[fo],by simp[fo],?_,by simp[fo]⟩;have aT:∀a∈[sL],a.cQ:=by
  intro a bj;simp at bj;subst bj;exact⟨lI (by simp[sL]),lI (by simp[sL]),lI (by simp[sL]),lI (by simp[sL]),lI (by simp[sL])⟩
 have aw:∀c∈[pY],c.cQ:=by
  intro c aw;simp at aw;subst aw;exact acK
 intro a bj;simp[fo] at bj;rcases bj with rfl | rfl
 .exact⟨lI (by simp[zW]),lI (by simp[zW]),by simp[zW,dK],by simp[zW,dK],aT,aw⟩
 .exact⟨lI (by simp[zX]),lI (by simp[zX]),by simp[zX,dK],by simp[zX,dK],aT,aw⟩
theorem acw:kW.cQ:=by
 refine⟨by simp[kW,dK],by simp[kW,dK],by simp[kW,dK],by simp[kW,dK],by simp[kW,dK],by simp[kW],by simp[kW],by simp[kW],?_,by simp[kW]⟩;intro a bj;simp[kW] at bj;subst bj;refine⟨lI (by simp[v8]),lI (by simp[v8]),by simp[v8,dK],by simp[v8,dK],by simp[v8],?_⟩;intro c aw;simp[v8] at aw;subst aw;exact⟨lI (by simp[tY]),lI (by simp[tY]),by simp[tY,dK],by simp[tY,dK],by simp[tY]⟩
end o
end
section
namespace bt
open Go Go.RowKit
section
variable{P:Program}{S:Fr}{w:World}
theorem gb.aj6{α:Type}{enc:α->Value}{g:Operand}{p:Nat}{a b:fa}{Q:Option Nat->dW->Fr->World->Prop}{jV:Nat}{hb:Array Value}{hG:World->World->Prop}{mS oU:List α->Prop}{N:Nat}{w0:World}
  (a1:bo S g = .func (.func jV) #[] hb)(dq:okF P jV=true)(rZ:SeqStopsK Fence.wide 0 P jV hb (fun x=>#[enc x]) hG mS oU N w0)(he:Ext w0 w)(rQ:BQ hG w.heap.size)
  (eo FZ:List α->World->Prop)(bB:OwnFrom w.heap.size eo)(adQ:OwnFrom w.heap.size FZ)(ak:eo [] w)
  (DU:∀pre x W,eo pre W->pre.length<N->dV P a (hr (fun sw hV=>KeepsFrom w.heap.size W hV/\hG W hV/\∀eI,sv w.heap.size hV eI ->
   dV P b (hr (fun _ b8=>KeepsFrom w.heap.size eI b8/\hG eI b8/\eo (pre++[x]) b8) (fun e _ b8=>e = .ret/\KeepsFrom w.heap.size eI b8/\FZ (pre++[x]) b8) ⟨⟩) sw eI ⟨⟩) (fun _ _ _=>False) ⟨⟩) (cm S p (enc x)) W ⟨⟩)
  (yc:∀D xs W,w.heap.size<=D->mS xs->eo xs W->W.heap[D]? = some (.deferred (some []))->Q (some D) .normal S W)
  (af7:∀D xs W,w.heap.size<=D->FZ xs W->W.heap[D]? = some (.deferred (some []))->Q (some D) .ret S W):nt P (.sk g p a b) Q S w:=by
 refine⟨α,enc,jV,hb,hG,mS,oU,N,w0,a1,dq,rZ,he,rQ,eo,fun e xs W=>e = .ret/\FZ xs W,bB,fun e s A B row ay p6 a6=>⟨ay.1,adQ s A B row ay.2 p6 a6⟩,ak,fun pre x W ad aS=>?_,yc,fun D e pre W _ lz _ h bx=>?_⟩
 .have h:=DU pre x W ad aS;unfold dV hr at h;refine oM a _ _ _ W (fun e sw hV _ h1=>?_) h;cases e with
  | normal =>
   obtain⟨cX,c0,gD⟩:=h1;refine⟨cX,c0,fun eI a6=>?_⟩;have U:=gD eI a6;refine oM b _ _ _ eI (fun e kR mU _ ag=>?_) U;cases e with
   | normal=>exact ag
   | exit _=>exact absurd ag.1 (by simp)
   | ret=>exact⟨ag.2.1,rfl,ag.2.2⟩
   | fV _=>exact absurd ag.1 (by simp)
  | exit _=>exact h1.elim
  | ret=>exact h1.elim
  | fV _=>exact h1.elim
 .obtain⟨rfl,ad⟩:=h;exact af7 D pre W lz ad bx
theorem gb.hl{β:Type}{a:fa}{b:rA}{Q:Option Nat->dW->Fr->World->Prop}(cJ:List Nat)(M:β->List (Nat×Value))(N:β->World->Prop)(h1:dV P a (hr (fun fx b1 => ∃x,Has fx (M x)/\N x b1) (Q none) ⟨⟩) S w ⟨⟩)
  (U:∀x bh w',N x w'->nt P b Q (tu (M x) (tf S cJ bh)) w')(bx:(cJ.all fun t => !a.fz.contains t)=true:=by rfl):nt P (.h7 a b) Q S w:=by
 unfold dV hr at h1;show dU P a (tx (fun S w=>nt P b Q S w) (Q none)) S w;refine oM a _ _ _ w (fun e sw hV hk h=>?_) h1;cases e with
 | normal =>
  obtain⟨x,br,gp⟩:=h;have h:=U x sw hV gp;rw[Ea cJ fun t aO=>hk t (Ir bx t aO),Fo _ br] at h;exact h
 | exit _=>exact h
 | ret=>exact h
 | fV _=>exact h
theorem lW.mod{hc:Nat}{cJ:List TypeId}{W b8:World}(h:lW hc cJ W b8):Mod (fun k => ¬∃c t f,W.heap[k]? = some (.cells c t f)/\t∈cJ) W b8 :=
 ⟨h.1.os,h.1.tape,h.1.output,h.1.size,fun k _ aE=>by
  obtain⟨c,t,f,h1,U⟩:=Classical.not_not.1 aE;exact h.2 k c t f h1 U⟩
theorem lW.ext{w:World}{cJ:List TypeId}{W b8:World}(h:lW w.heap.size cJ W b8)(he:Ext w W):Ext w b8:=Below.trans he h.1
theorem lW.own{α:Type}{enc:α->List Value}{e:TypeId}{sz base hc:Nat}{cJ:List TypeId}{W b8:World}{v:Value}{xs:List α}(h:lW hc cJ W b8)(ba:bs enc e sz base W v xs)(he:e∈cJ):bs enc e sz base b8 v xs :=
 ba.mod h.mod fun k hk a=>by
  obtain⟨cur,aw⟩:=ba.aX k hk;exact a ⟨_,_,_,aw,he⟩
theorem lW.obj{hc:Nat}{cJ:List TypeId}{W b8:World}(h:lW hc cJ W b8){k:Nat}{c:Array Value}{t:TypeId}{f:Nat×Nat}(hk:W.heap[k]? = some (.cells c t f))(aO:t∈cJ):b8.heap[k]? = some (.cells c t f):=(h.2 k c t f hk aO).trans hk
end
end bt
end
section
namespace o
open Go
abbrev B4(m:Model)(q l:Int):={i:Nat // i<(refs m).length/\rv m q l i}
end o
namespace Go.Proofs.R
open Go Go.RowKit bt
abbrev ade:List TypeId:=[T.l,T.k,T.a,T.b]
theorem adf{nZ w0:World}{cZ l2 tL:Nat}{cs:List Value}{m:o.Model}{q l:Int}(ox:w0.heap[cZ]? = some (.cells cs.toArray T.b))(Un:w0.heap[l2]? = some (.cells #[.int .i64 q] T.a))(eZ:w0.heap[tL]? = some (.cells #[.int .i64 l] T.a))
  (h:o.dY nZ cs m)(pj:Ext nZ w0)(a1:m.cQ)(yh:(o.check m).c3=0) :
  SeqStopsK Fence.wide 0 Tryz.prog F.kT #[.pointer (some ⟨cZ,0,none⟩),.pointer (some ⟨l2,0,none⟩),.pointer (some ⟨tL,0,none⟩)] (fun x:o.B4 m q l=>#[.int .i64 (x.1:Nat)]) (lW nZ.heap.size ade) (fun xs => ∀i,o.rv m q l i->i∈xs.map Subtype.val) (fun _=>True) (o.refs m).length w0:=by
 intro u1 ic Js W aC p1 adR b2 HG;have Ag:Ext nZ W:=pj.trans aC;have Ul:=Ext.obj (w:=w0) aC ox;have Uq:=Ext.obj (w:=w0) aC Un;have Ui:=Ext.obj (w:=w0) aC eZ;have eh:=h;have lA:=o.mF yh;have j1:=o.u9 lA.lim;obtain⟨cy,bP,b9,c1,ck,c2,cn,bQ,cB,bX,rfl,ak,h1,U,ag,aJ,eM,ej,ev,ea,ew⟩:=h.form;refine callsIn_wide.2 (Calls.mono (show bu Tryz.prog F.kT #[.func (.yield u1) #[] #[],.pointer (some ⟨cZ,0,none⟩),.pointer (some ⟨l2,0,none⟩),.pointer (some ⟨tL,0,none⟩)] W (fun _ b8=>(∃xs,(∀i,o.rv m q l i->i∈xs.map Subtype.val)/\ic xs b8)\/(∃pre:List (o.B4 m q l),True/\Js pre b8)) from ?_) fun e b8 ⟨v,bR,aW⟩=>⟨⟨v,bR⟩,aW⟩);have z6:∀{pre:List (o.B4 m q l)} {w w':World},ic pre w->Ext w w'->ic pre w':=fun {pre w w'} aR e=>p1 pre w w' none aR e.Tu (fun r e=>by cases e);clear ox Un eZ;refine bL E.kT ?_;refine bG ?_;refine af ?_;refine K.call (AA _ m W (eh.ext Ag) a1) ?_;rintro cx av ⟨fB,aB⟩;obtain⟨cS,ci,rfl,_⟩:=fB.form;have bR:=Ag.trans aB;refine af ?_;refine K.call (Fe _ m av (eh.ext bR) lA.lim) ?_;rintro j7 aU ⟨jE,aA⟩;obtain⟨h5,pU,rfl,_⟩:=jE.form;have aW:=bR.trans aA;have vX:=aB.trans aA;have Hs:=vX.obj Ul;have Ht:=vX.obj Uq;have Hr:=vX.obj Ui;have Vr:=fB.ext aA;have rV:=z6 HG vX;clear Ul Uq Ui fB HG;refine af ?_;refine K.dk 13 (o.refs m).length [0,1,2,3,5,11,12] (fun _=>[]) ([]:List (o.B4 m q l)) (fun k pre w'=>(Ext nZ w'/\w'.heap[cZ]? = aU.heap[cZ]? /\ w'.heap[l2]? = aU.heap[l2]? /\ w'.heap[tL]? = aU.heap[tL]? /\ bs o.c7.enc T.k 2 W.heap.size w' (.slice cS (o.insts m).length ci) (o.insts m)/\bs o.Ref.enc T.l 2 av.heap.size w' (.slice h5 (o.refs m).length pU) (o.refs m)/\ic pre w')/\pre.length<=k/\∀i,i<k->o.rv m q l i->i∈pre.map Subtype.val) bz bz
  ⟨⟨aW,rfl,rfl,rfl,Vr,jE,rV⟩,Nat.le_refl _,fun i h=>absurd h (Nat.not_lt_zero _)⟩ ?_
 rintro k pre S bb hk ⟨⟨bJ,Lp,Lu,Ln,Mq,Mt,wo⟩,qX,eU⟩;rw[Hs] at Lp;rw[Ht] at Lu;rw[Hr] at Ln;refine af ?_;apply K.cond<;>intro g1;rotate_left
 .refine af ?_;exact .inl ⟨pre,fun i ad=>eU i (by have:=ad.lt;omega) ad,wo⟩
 have du:k<(o.refs m).length:=by omega
 have z8:bE 2 (Flat o.Ref.enc) bb _ _:=bs.jI (enc:=o.Ref.enc) (fun _=>rfl) Mt;have TG:lV bb _ (o.insts m):=bs.jI (enc:=o.c7.enc) (fun _=>rfl) Mq;obtain⟨rH,rfl⟩:=z8.addr (by omega);obtain⟨ga,fZ,k',ca⟩:=o.sD (m:=m) (ref:=k) ⟨yh,by omega,by omega⟩;have kE:(o.refs m)[k].inst=(ga:Int):=ca.at_.wY;have s6:(o.refs m)[k].cmd=(k':Int):=ca.at_.yT;have LG:=o.adb (q:=q) (l:=l) ca;have h0:=z8.at k du;obtain⟨x,ar⟩:∃x,x=(o.refs m)[k]:=⟨_,rfl⟩;rw[<-ar] at kE s6 h0;have h0:eS bb (rH.add (k*2)) x.enc:=h0;unfold o.Ref.enc at h0;refine af ?_;intro wn l1 jX gL fX;refine af ?_;intro bq eu cU;replace cU:bq.heap[l1]? = some (.cells #[.int .i64 x.inst,.int .i64 x.cmd] T.l):=by rw[ar];exact cU
 have aM:Ext bb bq:=eu.ext gL jX;have bZ:=bJ.trans aM;have Uj:=aM.obj Lp;have Uo:=aM.obj Lu;have Ug:=aM.obj Ln;have TH:=TG.ext Flat.ext aM;clear fX gL Lp Lu Ln;refine af ?_;intro bT aZ;have b5:=bZ.trans aZ;have Lq:=aZ.obj Uj;have Lv:=aZ.obj Uo;have Lo:=aZ.obj Ug;have Lf:=aZ.obj cU;have TI:=TH.ext Flat.ext aZ;have Jm:=aM.trans aZ;have DA:=z6 wo Jm;have Mr:=Mq.ext Jm;have Mu:=Mt.ext Jm;clear Uj Uo Ug cU TH Mq Mt;have skip:¬o.rv m q l k->∀i,i<k+1->o.rv m q l i->i∈pre.map Subtype.val:=fun aE i ad aK=>by
  rcases Nat.lt_or_ge i k with h | h
  .exact eU i h aK
  .obtain rfl:i=k:=by omega
   exact absurd aK aE
 refine af ?_;apply K.cond<;>intro g2;rotate_left
 .refine af ?_;exact⟨du,bk,pre,trivial,⟨b5,Lq.trans Hs.symm,Lv.trans Ht.symm,Lo.trans Hr.symm,Mr,Mu,DA⟩,by omega,skip fun aK=>by rw[LG] at aK;omega⟩
 refine af ?_;have ei:bu Tryz.prog F.i #[.agg #[.slice cy m.scalars.length bP,.slice b9 m.vars.length c1,.slice ck m.aL.length c2,.slice cn m.procs.length bQ,.slice cB m.props.length bX],.slice cS (o.insts m).length ci,.agg #[.int .i64 x.inst,.int .i64 x.cmd]] bT fun u w'=>(∃iL je bm gf,u = .agg #[.string (o.cD m fZ k').name,.int .i64 (o.cD m fZ k').from_,.int .i64 (o.cD m fZ k').to,.slice iL (o.cD m fZ k').guard.length je,.slice bm (o.cD m fZ k').b6.length gf,.bool (o.cD m fZ k').fair])/\Ext bT w':=(Sv _ _ m k ga fZ k' bT (eh.ext b5) TI ca x kE s6).mono fun u w' ⟨⟨fK,ed,hu,aE,bj⟩,h2⟩=>by
  obtain⟨iL,je,rfl,_⟩:=aE.form;obtain⟨bm,gf,rfl,_⟩:=bj.form;exact⟨⟨iL,je,bm,gf,hu⟩,h2⟩
 refine K.call ei ?_;clear ei;rintro _ bV ⟨⟨iL,je,bm,gf,rfl⟩,a8⟩;have cM:=b5.trans a8;have Ap:=z6 DA a8;have Uk:=a8.obj Lq;have Up:=a8.obj Lv;have Uh:=a8.obj Lo;have Vs:=Mr.ext a8;have Vt:=Mu.ext a8;refine⟨a8,?_⟩;clear Lq Lv Lo Lf Mr Mu TI z8 TG h0;refine af ?_;refine K.jg (v:=.int .i64 (o.cD m fZ k').from_) rfl ?_;refine af ?_;apply K.cond<;>intro g3;rotate_left
 .refine af ?_;exact⟨du,bk,pre,trivial,⟨cM,Uk.trans Hs.symm,Up.trans Ht.symm,Uh.trans Hr.symm,Vs,Vt,Ap⟩,by omega,skip fun aK=>by rw[LG] at aK;omega⟩
 have aK:o.rv m q l k:=LG.2 ⟨by omega,g3⟩;refine af ?_;refine K.yield (b2 pre ⟨k,du,aK⟩ bV Ap (by omega)) ?_;rintro e cc (⟨rfl,LR,Aq⟩ | ⟨rfl,LR⟩)
 .refine⟨.bool true,rfl,?_⟩;refine af ?_;refine⟨du,bk,pre++[⟨k,du,aK⟩],trivial,⟨Aq.ext cM,(Aq.obj Uk (by decide)).trans Hs.symm,(Aq.obj Up (by decide)).trans Ht.symm,(Aq.obj Uh (by decide)).trans Hr.symm,Aq.own Vs (by decide),Aq.own Vt (by decide),LR⟩,by simp;omega,fun i ad LH=>?_⟩;rw[List.map_append,List.mem_append];rcases Nat.lt_or_ge i k with h | h
  .exact .inl (eU i h LH)
  .obtain rfl:i=k:=by omega
   exact .inr (by simp)
 .refine⟨.bool false,rfl,?_⟩;refine af ?_;exact .inr ⟨_,trivial,LR⟩
theorem ahN(x:o.Ref)(l2:Nat)(q:Int)(w:World)(h:w.heap[l2]? = some (.cells #[.int .i64 q] T.a)) :
  bu Tryz.prog F.zE #[.agg #[.int .i64 x.inst,.int .i64 x.cmd],.pointer (some ⟨l2,0,none⟩)] w fun v w'=>v = .bool (!decide (x.inst=q))/\Ext w w':=by
 refine bL E.zE ?_;refine bG ?_;refine af ?_;intro av bC cR aB aq;have afW:=aB.obj h;refine af ?_;exact⟨bk,aB⟩
theorem ada(cs:List Value)(m:o.Model)(q l:Int)(w:World)(h:o.dY w cs m) :
  bu Tryz.prog F.qD #[.agg cs.toArray,.int .i64 q,.int .i64 l] w fun v w'=>(∃cZ l2 tL,v = .func (.func F.kT) #[] #[.pointer (some ⟨cZ,0,none⟩),.pointer (some ⟨l2,0,none⟩),.pointer (some ⟨tL,0,none⟩)]/\w'.heap[cZ]? = some (.cells cs.toArray T.b)/\w'.heap[l2]? = some (.cells #[.int .i64 q] T.a)/\w'.heap[tL]? = some (.cells #[.int .i64 l] T.a))/\Ext w w':=by
 obtain⟨cy,bP,b9,c1,ck,c2,cn,bQ,cB,bX,rfl,_⟩:=h.form;refine bL E.qD ?_;refine bG ?_;refine af ?_;intro av b4 fp aB aq;refine af ?_;intro aU cN fN aA aQ;refine af ?_;intro bb dO kX ax bA;refine af ?_;exact⟨⟨_,_,_,bk,(aA.trans ax).obj aq,ax.obj aQ,bA⟩,(aB.trans aA).trans ax⟩
def Zo(m:o.Model)(q:Int)(L:List (List Int×List Int))(i:Nat):Prop := ∀j (aR:j<(o.refs m).length),(o.refs m)[j].inst≠q->∀x y,L[i]? = some x->L[j]? = some y->¬o.oa x.1 x.2 y.1 y.2
theorem abS(cs:List Value)(m:o.Model)(q l:Int)(w:World)(h:o.dY w cs m)(a1:m.cQ)(ba:ht w) :
  bu Tryz.prog F.n #[.agg cs.toArray,.int .i64 q,.int .i64 l] w fun u w'=>(∃t,u = .bool t/\o.nE m q l t)/\Ext w w':=by
 have eh:=h;obtain⟨cy,bP,b9,c1,ck,c2,cn,bQ,cB,bX,rfl,ak,h1,U,ag,aJ,eM,ej,ev,ea,ew⟩:=h.form;refine gb.start mC BN.n (args:=[_,_,_]) (Nat.le_of_ble_eq_true rfl) ?_;dsimp only[D.n,ab,aj,bU,bc,n2,aG,dd,hF,vo,I,ai,ah,ae,bn,ys,bK,au,aH,cK,bl,az,de,ch,J,aF,bd,cg,hE,bD,aY,eW,e9,aV,ao,an,List.map_cons,List.map_nil];refine gb.h7 ?_;refine af ?_;intro av b4 fp aB bA;refine af ?_;intro aU cN fN aA bw;refine af ?_;intro bb fl gq ax ct;have bJ:=(aB.trans aA).trans ax;replace bA:=(aA.trans ax).obj bA;replace bw:=ax.obj bw;have kN:=aB.size;have kv:=aA.size;have uj:w.heap.size<=fl:=by omega
 refine af ?_;refine gb.h7 ?_;refine af ?_;refine K.call (A4 _ m bb (eh.ext bJ) a1 (ba.ext bJ)) ?_;rintro _ bq ⟨rfl,aM⟩;replace bA:=aM.obj bA;replace bw:=aM.obj bw;replace ct:=aM.obj ct;have bZ:=bJ.trans aM;refine af ?_;refine K.jg (v:=.int .i64 (o.check m).c3) rfl ?_;refine af ?_;apply K.cond<;>intro g1;rotate_left
 .refine af ?_;intro bT e0 cC;have aZ:=e0.ext bZ uj;refine gb.CG ?_;refine af ?_;exact⟨⟨false,bk,o.nE.no fun k=>g1 k.1⟩,aZ⟩
 have lA:=o.mF g1;have j1:=o.u9 lA.lim;refine af ?_;refine gb.hl [1,2,3,4,6] (fun x:(Option Addr×Nat)×Nat=>[(7,.slice x.1.1 (o.insts m).length x.1.2),(8,.pointer (some ⟨x.2,0,none⟩))]) (fun x W=>(∃h5 pU,W.heap[x.2]? = some (.cells #[.slice h5 (o.refs m).length pU] T.u)/\B3 W (.slice h5 (o.refs m).length pU) (o.refs m))/\lV W (.slice x.1.1 (o.insts m).length x.1.2) (o.insts m)/\Ext bq W) ?_ ?_
 .have ux:∀{W},Ext bq W->bu Tryz.prog F.a #[.agg #[.slice cy m.scalars.length bP,.slice b9 m.vars.length c1,.slice ck m.aL.length c2,.slice cn m.procs.length bQ,.slice cB m.props.length bX]] W fun v w'=>(∃cS ci,v = .slice cS (o.insts m).length ci/\bs o.c7.enc T.k 2 W.heap.size w' v (o.insts m))/\Ext W w':=fun {W} he=>(AA _ m W (eh.ext (bZ.trans he)) a1).mono fun v w' ⟨aT,h2⟩=>by
   obtain⟨cS,ci,rfl,_⟩:=aT.form;exact⟨⟨cS,ci,rfl,aT⟩,h2⟩
  have Md:∀{W},Ext bq W->bu Tryz.prog F.d #[.agg #[.slice cy m.scalars.length bP,.slice b9 m.vars.length c1,.slice ck m.aL.length c2,.slice cn m.procs.length bQ,.slice cB m.props.length bX]] W fun v w'=>(∃cS ci,v = .slice cS (o.refs m).length ci/\bs o.Ref.enc T.l 2 W.heap.size w' v (o.refs m))/\Ext W w':=fun {W} he=>(Fe _ m W (eh.ext (bZ.trans he)) lA.lim).mono fun v w' ⟨aT,h2⟩=>by
   obtain⟨cS,ci,rfl,_⟩:=aT.form;exact⟨⟨cS,ci,rfl,aT⟩,h2⟩
  have NF:∀{W v base},bs o.c7.enc T.k 2 base W v (o.insts m)->lV W v (o.insts m):=fun h=>bs.jI (enc:=o.c7.enc) (fun _=>rfl) h;have NG:∀{W v base},bs o.Ref.enc T.l 2 base W v (o.refs m)->B3 W v (o.refs m):=fun h=>bs.jI (enc:=o.Ref.enc) (fun _=>rfl) h;refine af ?_;intro bT aZ;replace bA:=aZ.obj bA;refine af ?_;refine⟨?_,?_⟩
  .refine K.call (ux aZ) ?_;rintro _ bV ⟨⟨cS,ci,rfl,bB⟩,a8⟩;have cM:=aZ.trans a8;refine⟨a8,?_⟩;refine af ?_;refine⟨?_,?_⟩
   .refine K.call (Md cM) ?_;rintro _ cc ⟨⟨h5,pU,rfl,dE⟩,bM⟩;have dz:=cM.trans bM;refine af ?_;intro di kU qM bY cL;refine⟨(a8.trans bM).trans bY,?_⟩;refine af ?_;intro dX iV dM;have cr:=iV.ext bY qM;refine af ?_;exact⟨((cS,ci),kU),⟨bk,bk,trivial⟩,⟨_,_,dM,NG (dE.ext cr)⟩,NF (bB.ext (bM.trans cr)),dz.trans cr⟩
   .refine K.new ?_;intro cc kU qM bM cL;refine⟨a8.trans bM,?_⟩;have dz:=cM.trans bM;refine af ?_;refine K.call (Md dz) ?_;rintro _ di ⟨⟨h5,pU,rfl,dE⟩,bY⟩;have Lh:=cL;replace cL:=bY.obj cL;refine af ?_;intro dX iV dM;have cr:Ext bV dX:=iV.ext (bM.trans bY) qM;have MO:=cG Lh;refine af ?_;exact⟨((cS,ci),kU),⟨bk,bk,trivial⟩,⟨_,_,dM,NG (dE.wr iV MO)⟩,NF (bB.ext cr),cM.trans cr⟩
  .refine K.new ?_;intro bV kU qM a8 cL;have cM:=aZ.trans a8;refine⟨a8,?_⟩;refine af ?_;refine K.call (ux cM) ?_;rintro _ cc ⟨⟨cS,ci,rfl,bB⟩,bM⟩;have dz:=cM.trans bM;refine⟨a8.trans bM,?_⟩;refine af ?_;refine K.call (Md dz) ?_;rintro _ di ⟨⟨h5,pU,rfl,dE⟩,bY⟩;have aeF:=cL;have Lh:=bM.obj cL;replace cL:=(bM.trans bY).obj cL;refine af ?_;intro dX iV dM;have ahm:=cG aeF;have MO:=cG Lh;have cr:Ext bT dX:=iV.ext ((a8.trans bM).trans bY) qM;refine af ?_;exact⟨((cS,ci),kU),⟨bk,bk,trivial⟩,⟨_,_,dM,NG (dE.wr iV MO)⟩,NF ((bB.ext bY).wr iV ahm),aZ.trans cr⟩
 rintro⟨⟨cS,ci⟩,kU⟩ S bT ⟨⟨h5,pU,cL,dE⟩,bB,aZ⟩;dsimp only at cL bB;replace bA:=aZ.obj bA;replace bw:=aZ.obj bw;replace ct:=aZ.obj ct;have b5:=bZ.trans aZ;refine gb.h7 ?_;have bad:∀{W:World} {bh:Fr},Ext bT W->¬o.qq m q l->True:=fun _ _=>trivial;have aor:=cG ct;refine af ?_;apply K.cond<;>intro g2
 .refine af ?_;intro bV a8;replace ct:=a8.obj ct;refine af ?_;intro cc dx cU;refine gb.CG ?_;refine af ?_;exact⟨⟨false,bk,o.nE.no fun k=>by have:=k.bf;omega⟩,dx.ext (b5.trans a8) uj⟩
 refine af ?_;apply K.cond<;>intro g3
 .refine af ?_;intro bV a8;replace ct:=a8.obj ct;refine af ?_;intro cc dx cU;refine gb.CG ?_;refine af ?_;exact⟨⟨false,bk,o.nE.no fun k=>by have:=k.bf;omega⟩,dx.ext (b5.trans a8) uj⟩
 refine af ?_;apply K.cond<;>intro g4
 .refine af ?_;intro bV a8;replace ct:=a8.obj ct;refine af ?_;intro cc dx cU;refine gb.CG ?_;refine af ?_;exact⟨⟨false,bk,o.nE.no fun k=>by have:=k.bf;omega⟩,dx.ext (b5.trans a8) uj⟩
 obtain⟨qi,rfl⟩:=Int.eq_ofNat_of_zero_le (show 0<=q by omega);have aD:qi<(o.insts m).length:=by omega
 obtain⟨p,hIn⟩:=o.H3 aD;have aN:=hIn.aN;have rU:=hIn.eq;obtain⟨lp,rfl⟩:=bB.addr (by omega);obtain⟨a3,rfl⟩:=ag.addr (by omega);obtain⟨nS,cE,dU,dZ,eT,gS⟩:=ag.at p aN;obtain⟨e3,fy,rfl,_⟩:=eT.form;obtain⟨M9,J2,rfl,MS⟩:=gS.form;unfold o.dy.enc at dZ;have afP:=dZ.ext b5;refine af ?_;refine K.dD p (by rw[rU]) aN ?_;refine af ?_;intro bV a8;replace bA:=a8.obj bA;replace bw:=a8.obj bw;replace ct:=a8.obj ct;replace cL:=a8.obj cL;have G8:=dE.ext Flat.ext a8;have cM:=b5.trans a8;apply K.cond<;>intro g5
 .refine af ?_;intro cc dx cU;refine gb.CG ?_;refine af ?_;exact⟨⟨false,bk,o.nE.no fun k=>by have:=k.lt hIn;omega⟩,dx.ext cM uj⟩
 have eJ:o.qq m qi l:=o.MX g1 hIn (by omega) (by omega);clear dZ afP bB dE;refine af ?_;refine gb.h7 ?_;refine af ?_;refine K.call (YO _ m bV (eh.ext cM) a1 (ba.ext cM) lA.lim) ?_;rintro _ cc ⟨⟨L,base,hK,sQ,aee,K0⟩,bM⟩;obtain⟨ais,aaP,rfl,_⟩:=K0.form;have wg:bE 2 JA cc _ L:=K0.py;have C8:=hK.len;have dz:=cM.trans bM;replace bA:=bM.obj bA;replace bw:=bM.obj bw;replace ct:=bM.obj ct;replace cL:=bM.obj cL;have adW:=G8.ext Flat.ext bM;clear K0 G8;refine af ?_;intro wn hv lB gL fX;refine af ?_;intro di iJ dM;have bY:Ext cc di:=iJ.ext gL lB;clear fX;have eg:=dz.trans bY;replace bA:=bY.obj bA;replace bw:=bY.obj bw;replace ct:=bY.obj ct;replace cL:=bY.obj cL;refine af ?_;refine gb.sl (gb.h7 ?_);refine af ?_;refine K.call (ada _ m qi l di (eh.ext eg)) ?_;rintro _ dX ⟨⟨cZ,l2,tL,rfl,ae5,ae6,nO⟩,cr⟩;have ig:=eg.trans cr;replace bw:=cr.obj bw;replace ct:=cr.obj ct;replace cL:=cr.obj cL;replace dM:=cr.obj dM;have adX:=adW.ext Flat.ext (bY.trans cr);have ab4:=bY.trans cr;clear bA;have BE:=cG ct;have z4:=cG bw;have OK:=cG cL;have z9:=cG dM;refine af ?_;refine gb.aX (gb.aj6 (w0:=dX) (enc:=fun x:o.B4 m qi l=>.int .i64 (x.1:Nat)) (by simp[fu,cu]) (by kernel_rfl) (adf ae5 ae6 nO h ig a1 g1) (Ext.refl _) (lW.ok _ ig.size)
  (fun pre W=>Ext dX W/\∀x∈pre,Zo m qi L x.1) (fun _ W=>Mod (fun k=>k=fl) dX W/\W.heap[fl]? = some (.cells #[.bool false] T.p)/\¬o.F7 m L qi l) ?_ ?_ ⟨Ext.refl _,fun x ar=>by cases ar⟩ ?_ ?_ ?_)
 .rintro pre W b8 row ⟨he,C3⟩ p6 a6;exact⟨he.grown p6 fun k hk=>(a6 k hk).1,C3⟩
 .rintro _ W b8 row ⟨hm,aw,aE⟩ p6 a6;have fq:Mod (fun k=>row=some k) W b8:=Mod.grown p6 fun k hk=>hk;refine⟨hm.comp fq (fun _ _ a=>a) fun k hk a=>?_,fq.obj (fun a=>?_) aw,aE⟩
  .have:=(a6 k a).1;omega
  .have:=(a6 fl a).1;omega
 .rintro pre x W ⟨Dt,C3⟩ cv;refine ee ?_;refine⟨(Ext.refl W).keeps _,(Ext.refl W).hB (Nat.le_trans ig.size Dt.size),fun eI uF=>?_⟩;have aA:Ext dX eI:=uF.ext Dt (Nat.le_refl _);have hd:=aA.obj bw;have Be:=aA.obj cL;have Nx:=aA.obj dM;have KX:=adX.ext Flat.ext aA;have te:=x.2.1;have H2:x.1<L.length:=by omega
  have TO:B3 eI _ (o.refs m):=KX;have anr:=wg;have Zm:=ab4.trans aA;obtain⟨ZN,rfl⟩:=wg.addr (by omega);obtain⟨j8,j9,jz,agA,agB⟩:=wg.at x.1 H2;obtain⟨Ns,Nt⟩:=(hK.is x.1 H2).k6;refine af ?_;refine K.dk 58 (o.refs m).length [4,6,9,10,11,56,57] (fun _:Unit=>[]) () (fun j _ b8=>Ext eI b8/\∀k,k<j->∀(hk:k<(o.refs m).length),(o.refs m)[k].inst≠(qi:Int)->∀y,L[k]? = some y->¬o.oa L[x.1].1 L[x.1].2 y.1 y.2) bz bz ⟨Ext.refl _,fun k h=>absurd h (Nat.not_lt_zero _)⟩ ?_;rintro j _ kR fw aR ⟨dc,U7⟩;refine af ?_;apply K.cond<;>intro g6;rotate_left
  .refine af ?_;refine⟨dc.keeps _,dc.hB (Nat.le_trans ig.size aA.size),aA.trans dc,fun v aT=>?_⟩;rcases List.mem_append.1 aT with aT | aT
   .exact C3 v aT
   .rw[List.mem_singleton] at aT;subst aT;intro k hk cI a b bj aC;rw[List.getElem?_eq_getElem H2] at bj;injection bj with bj
    subst bj;exact U7 k (by omega) hk cI b aC
  have HI:j<(o.refs m).length:=by omega
  have HH:j<L.length:=by omega
  obtain⟨rH,rfl⟩:=TO.addr (by omega);have h0:=(TO.ext Flat.ext dc).at j HI;obtain⟨r,a6⟩:∃r,r=(o.refs m)[j]:=⟨_,rfl⟩;rw[<-a6] at h0;have h0:eS fw (rH.add (j*2)) r.enc:=h0;unfold o.Ref.enc at h0;have next:∀{W},Ext eI W->(r.inst≠(qi:Int)->¬o.oa L[x.1].1 L[x.1].2 L[j].1 L[j].2)->Ext eI W/\∀k,k<j+1->∀(hk:k<(o.refs m).length),(o.refs m)[k].inst≠(qi:Int)->∀y,L[k]? = some y->¬o.oa L[x.1].1 L[x.1].2 y.1 y.2:=fun e aE=>⟨e,fun k hk afm cI y b2=>by
   rcases Nat.lt_or_ge k j with h | h
   .exact U7 k h afm cI y b2
   .obtain rfl:k=j:=by omega
    rw[List.getElem?_eq_getElem HH] at b2;injection b2 with b2
    subst b2;exact aE (by rw[a6];exact cI)⟩
  have Xj:=dc.obj hd;have Xk:=dc.obj Nx;refine af ?_;intro wn pP Df gL fX;refine af ?_;intro gw hA jj;replace jj:gw.heap[pP]? = some (.cells #[.int .i64 r.inst,.int .i64 r.cmd] T.l):=by first | exact jj | (rw[a6];exact jj)
  have fY:Ext fw gw:=hA.ext gL Df;have ajl:=fY.obj Xj;have apl:=fY.obj Xk;have pD:=dc.trans fY;clear fX h0 Xj Xk;have call:∀{w':World},Ext gw w'->bu Tryz.prog F.zE #[.agg #[.int .i64 r.inst,.int .i64 r.cmd],.pointer (some ⟨cN,0,none⟩)] w' fun v b1=>v = .bool (!decide (r.inst=(qi:Int)))/\Ext w' b1:=fun e=>ahN r cN qi _ (e.obj ajl);by_cases g7:r.inst=(qi:Int)
  .refine af ?_;refine K.NA (.bool false) (fun w' e=>K.JW (first:=[]) (cap:=[.pointer (some ⟨cN,0,none⟩)]) (by kernel_rfl) (call e) fun v b1 ⟨h1,U⟩=>⟨by rw[h1,decide_eq_true g7];rfl,U⟩) ?_;refine af ?_;intro la fv;refine af ?_;exact⟨HI,bk,(),trivial,next (pD.trans fv) fun h=>absurd g7 h⟩
  .obtain⟨kN,kv,Lw,agF,agG⟩:=wg.at j HH;obtain⟨Nu,Nv⟩:=(hK.is j HH).k6;have zf:=Zm.trans pD;have anS:=jz.ext zf;have anU:=Lw.ext zf;refine af ?_;refine K.NA (.bool true) (fun w' e=>K.JW (first:=[]) (cap:=[.pointer (some ⟨cN,0,none⟩)]) (by kernel_rfl) (call e) fun v b1 ⟨h1,U⟩=>⟨by rw[h1,decide_eq_false g7];rfl,U⟩) ?_;refine af ?_;refine K.gN (.bool (decide (o.oa L[x.1].1 L[x.1].2 L[j].1 L[j].2))) (fun w' e=>W0 j8 j9 kN kv _ _ _ _ w' (agA.ext Flat.ext (zf.trans e)) (agB.ext Flat.ext (zf.trans e)) (agF.ext Flat.ext (zf.trans e)) (agG.ext Flat.ext (zf.trans e)) Ns Nt Nu Nv) ?_;refine af ?_;intro la fv;have qo:=pD.trans fv;have apk:=(aA.trans qo).obj ct;apply K.cond<;>intro g8
   .refine af ?_;intro pz kp aep;have yk:Mod (fun k=>k=fl) la pz:=kp.mod rfl;refine af ?_;refine⟨bk,?_,?_,aep,fun aS=>aS x.1 x.2.2 j HI (by rw[<-a6];exact g7) _ _ (List.getElem?_eq_getElem H2) (List.getElem?_eq_getElem HH) g8⟩
    .exact⟨Nat.le_trans qo.size yk.size,fun k al ji hk aw=>yk.obj (fun a=>by subst a;omega) (qo.obj hk)⟩
    .exact Mod.comp (A':=fun k=>k=fl) (aA.trans qo).mod yk (fun _ _ a=>a) fun k hk a=>a
   .refine af ?_;exact⟨HI,bk,(),trivial,next qo fun _=>g8⟩
 .rintro D xs W lz cq ⟨Dt,C3⟩ bx;have si:=Dt.obj ct;refine af ?_;intro fw qb jy;have G3:D≠fl:=by omega
  refine gb.ret (qb.obj bx G3) ?_;have ay:dA D fw (fe fw D (.deferred none)):=dA.fe _ _ _;have Xi:=ay.obj jy (Ne.symm G3);have adV:o.F7 m L qi l:=fun i ad j aR cI x y ar b2=>by
   obtain⟨v,aT,rfl⟩:=List.mem_map.1 (cq i ad);exact C3 v aT j aR cI x y ar b2
  refine af ?_;exact⟨⟨true,bk,o.nE.of eJ hK ⟨fun _=>adV,fun _=>rfl⟩⟩,ay.ext (qb.ext (ig.trans Dt) uj) (Nat.le_trans ig.size lz)⟩
 .rintro D xs W lz ⟨hm,aw,aE⟩ bx;have G3:D≠fl:=by omega
  refine af ?_;refine gb.ret bx ?_;have ay:dA D W (fe W D (.deferred none)):=dA.fe _ _ _;have Xi:=ay.obj aw (Ne.symm G3);refine af ?_;exact⟨⟨false,bk,o.nE.of eJ hK ⟨(fun h=>by cases h),fun h=>absurd h aE⟩⟩,ay.ext (hm.ext ig fun k hk a=>by omega) (Nat.le_trans ig.size lz)⟩
theorem Sm(s:ByteArray)(ay:o.hR s)(w:World):bu Tryz.prog F.A3 #[.string s] w fun v w'=>(∃v1 v2 v3,v = .agg #[.string s,.int .i64 0,.int .i64 2,.slice v1 1 1,.slice v2 1 1]/\v3=()/\o.hi w' (.slice v1 1 1) [o.sL]/\o.oP w' (.slice v2 1 1) [o.pY])/\Ext w w':=by
 refine bL E.A3 ?_;refine bG ?_;refine aa ?_;intro av cp dR aB aq;refine aa ?_;intro aU dO kX aA aQ;refine aa ?_;intro bb l1 jX ax bA;refine aa ?_;intro bq hv lB aM bw;refine aa ?_;intro bT vI De aZ cC;have SK:=((aA.trans ax).trans aM).trans aZ;have x9:=SK.obj aq;refine aa ?_;intro bV gh ct;have kN:=aB.size;have kv:=aA.size;have y5:=ax.size;have y6:=aM.size;have apU:=aZ.size;have gl:=cG aq;have uO:=gh.obj (((ax.trans aM).trans aZ).obj aQ) (by omega);have wJ:=gh.obj ((aM.trans aZ).obj bA) (by omega);have H8:=gh.obj (aZ.obj bw) (by omega);have H7:=gh.obj cC (by omega);have ag5:o.hi bV (.slice (some ⟨dO,0,none⟩) 1 1) [o.sL]:=o.hi.aX uO rfl (by decide) (by intro x ar;simp only[List.mem_singleton] at ar;subst ar;decide);have ag4:o.gd bV (.slice (some ⟨l1,0,none⟩) 1 1) o.GV:=bE.aX (enc:=o.Node.enc) (fun _=>rfl) wJ rfl (by decide) fun a x ar aw=>⟨aw,o.acL x (by simp[o.GV] at ar;subst ar;simp)⟩;have ag2:o.nz bV (.slice (some ⟨hv,0,none⟩) 1 1) [o.ua]:=bE.Cg [⟨o.ua.enc (.slice none 0 0) (.slice (some ⟨l1,0,none⟩) 1 1),rfl,by simp[o.Act.enc,Value.oneCell']⟩] H8 rfl rfl rfl (by decide) (by
  intro i h1 U
  have:i=0:=by simp at h1;omega
  subst this;exact⟨_,_,rfl,bE.nil,ag4⟩)
 have ag3:o.oP bV (.slice (some ⟨vI,0,none⟩) 1 1) [o.pY]:=bE.Cg [⟨o.pY.enc (.slice none 0 0) (.slice (some ⟨hv,0,none⟩) 1 1),rfl,by simp[o.dI.enc,Value.oneCell']⟩] H7 rfl rfl rfl (by decide) (by
  intro i h1 U
  have:i=0:=by simp at h1;omega
  subst this;exact⟨(show o.hR o.pY.name by decide),_,_,rfl,bE.nil,ag2⟩)
 refine aa ?_;exact⟨⟨_,_,(),bk,bk,ag5,ag3⟩,gh.ext (aB.trans SK) dR⟩
theorem Yy{w:World}{e6 n base:Nat}{b3:List Nat}{M:List (List Bool)}(h:ln w e6 n base b3 M){i:Nat}(ad:i<b3.length)(kD:i<M.length):∃b,w.heap[e6]? = w.heap[e6]? /\ w.cell? (Addr.add ⟨e6,0,none⟩ (i*1))=some (.slice (some ⟨b,0,none⟩) n n)/\w.heap[b]? = some (.cells (ju M[i]).toArray T.p):=by
 refine⟨b3[i],rfl,e2 h.row ?_,(h.rows i ad kD).1⟩;rw[Nat.mul_one];simp only[List.getElem?_toArray];rw[List.getElem?_append_left (by simpa using ad)];simp[ad]
theorem Km{cs:List Value}{m:o.Model}{ref:Int}{t:Bool}{w:World}(h:o.dY w cs m)(a1:m.cQ)(ba:ht w)(aO:∀u,o.oV m ref u->u=t):bu Tryz.prog F.u #[.agg cs.toArray,.int .i64 ref] w fun u w'=>u = .bool t/\Ext w w' :=
 (abV cs m ref w h a1 ba).mono fun u w' ⟨⟨hg,h1,U⟩,ag⟩=>⟨by rw[h1,aO hg U],ag⟩
theorem GO{cs:List Value}{m:o.Model}{q l:Int}{t:Bool}{w:World}(h:o.dY w cs m)(a1:m.cQ)(ba:ht w)(aO:∀u,o.nE m q l u->u=t):bu Tryz.prog F.n #[.agg cs.toArray,.int .i64 q,.int .i64 l] w fun u w'=>u = .bool t/\Ext w w' :=
 (abS cs m q l w h a1 ba).mono fun u w' ⟨⟨hg,h1,U⟩,ag⟩=>⟨by rw[h1,aO hg U],ag⟩
theorem aaj(w:World)(ba:ht w):bu Tryz.prog F.u0 #[] w fun v w'=>v = .bool true/\Ext w w':=by
 refine bL E.u0 ?_;refine bG ?_;refine af ?_;refine K.call (Sm ⟨#[80]⟩ (by decide) w) ?_;rintro _ av ⟨⟨v1,v2,_,rfl,_,V3,VY⟩,aB⟩;refine af ?_;refine K.call (Sm ⟨#[81]⟩ (by decide) av) ?_;rintro _ aU ⟨⟨FE,vk,_,rfl,_,V4,VZ⟩,aA⟩;have aW:=aB.trans aA;refine af ?_;intro bb fl gq ax bA;refine af ?_;intro bq bC cR aM bw;replace bw:bq.heap[bC]? = some (.cells #[.slice none 0 0,.slice none 0 0,.slice none 0 0,.slice (some ⟨fl,0,none⟩) 2 2,.slice none 0 0] T.b):=bw;have Cy:=ax.trans aM;have V1:o.pJ bq (.slice (some ⟨fl,0,none⟩) 2 2) o.fo.procs:=bE.Cg [⟨o.zW.enc (.slice v1 1 1) (.slice v2 1 1),rfl,by simp[o.dy.enc,Value.oneCell']⟩,⟨o.zX.enc (.slice FE 1 1) (.slice vk 1 1),rfl,by simp[o.dy.enc,Value.oneCell']⟩] (aM.obj bA) rfl rfl rfl (by decide) (by
  intro i h1 U
  match i,h1 with
  | 0,_=>exact⟨(show o.hR ⟨#[80]⟩ by decide),_,_,rfl,(V3.ext aA).ext Cy,(VY.ext aA).ext Cy⟩
  | 1,_=>exact⟨(show o.hR ⟨#[81]⟩ by decide),_,_,rfl,V4.ext Cy,VZ.ext Cy⟩
  | n+2,h1=>simp at h1;omega)
 have br:o.dY bq _ o.fo:=⟨_,_,_,_,_,rfl,bE.nil,bE.nil,bE.nil,V1,bE.nil⟩;have a1:=o.acz;have bZ:=aW.trans Cy;clear V1 V3 VY V4 VZ bA;refine af ?_;refine K.call (Sw _ o.fo bq br a1 (ba.ext bZ)) ?_;rintro _ bT ⟨hO,aZ⟩;replace bw:=aZ.obj bw;have b5:=bZ.trans aZ;rcases hO with ⟨Hi,_⟩ | ⟨_,L,e6,b3,hK,rfl,eQ⟩
 .exact absurd o.CP Hi
 have dg:=o.S6 hK;subst dg;obtain⟨gz,_,s5,tc⟩:=Yy eQ (i:=0) (by have:=eQ.len;simp[o.jT] at this;omega) (by simp[o.jT]);obtain⟨fi,_,ko,kq⟩:=Yy eQ (i:=1) (by have:=eQ.len;simp[o.jT] at this;omega) (by simp[o.jT]);have d0:(o.jT [([0],[0,1]),([2],[2,3])])[0]'(by simp[o.jT])=[true,false]:=by decide
 have d1:(o.jT [([0],[0,1]),([2],[2,3])])[1]'(by simp[o.jT])=[false,true]:=by decide
 rw[d0] at tc;rw[d1] at kq;replace tc:bT.heap[gz]? = some (.cells #[.bool true,.bool false] T.p):=tc;replace kq:bT.heap[fi]? = some (.cells #[.bool false,.bool true] T.p):=kq;clear eQ d0 d1;refine af ?_;intro bV vI De a8 ct;refine af ?_;intro cc pP Df bM cU;refine af ?_;intro di b4 fp bY cL;replace cL:di.heap[b4]? = some (.cells #[.slice none 0 0,.slice none 0 0,.slice none 0 0,.slice (some ⟨pP,0,none⟩) 1 1,.slice none 0 0] T.b):=cL;have xR:=(a8.trans bM).trans bY;have V0:o.oP di (.slice (some ⟨vI,0,none⟩) 1 1) [o.tY]:=bE.Cg [⟨o.tY.enc (.slice none 0 0) (.slice none 0 0),rfl,by simp[o.dI.enc,Value.oneCell']⟩] ((bM.trans bY).obj ct) rfl rfl rfl (by decide) (by
  intro i h1 U
  have:i=0:=by simp at h1;omega
  subst this;exact⟨(show o.hR o.tY.name by decide),_,_,rfl,bE.nil,bE.nil⟩)
 have V2:o.pJ di (.slice (some ⟨pP,0,none⟩) 1 1) o.kW.procs:=bE.Cg [⟨o.v8.enc (.slice none 0 0) (.slice (some ⟨vI,0,none⟩) 1 1),rfl,by simp[o.dy.enc,Value.oneCell']⟩] (bY.obj cU) rfl rfl rfl (by decide) (by
  intro i h1 U
  have:i=0:=by simp at h1;omega
  subst this;exact⟨(show o.hR ⟨#[80]⟩ by decide),_,_,rfl,bE.nil,V0⟩)
 have ji:o.dY di _ o.kW:=⟨_,_,_,_,_,rfl,bE.nil,bE.nil,bE.nil,V2,bE.nil⟩;have afa:=o.acw;have eg:=b5.trans xR;have z7:=br.ext (aZ.trans xR);replace bw:=xR.obj bw;replace tc:=xR.obj tc;replace kq:=xR.obj kq;replace s5:=xR.cell s5;replace ko:=xR.cell ko;clear V0 V2 ct cU br;refine af ?_
 repeat' first
  | (refine K.sF (by first | rfl | decide | simp) ?_;refine af ?_)
  | (refine K.qB rfl ?_;refine af ?_)
  | (refine K.dD 0 rfl (by decide) ?_;refine af ?_)
  | (refine K.dD 1 rfl (by decide) ?_;refine af ?_)
  | (refine K.ld s5 ?_;refine af ?_)
  | (refine K.ld ko ?_;refine af ?_)
  | (refine K.ld (e2 (j:=0*1) tc rfl) ?_;refine af ?_)
  | (refine K.ld (e2 (j:=1*1) tc rfl) ?_;refine af ?_)
  | (refine K.ld (e2 (j:=0*1) kq rfl) ?_;refine af ?_)
 refine K.call (GO (z7.ext (Ext.refl di)) a1 (ba.ext (eg.trans (Ext.refl di))) (t:=true) fun u h=>o.S5 (q:=0) (by decide) hK h) ?_;rintro _ dX ⟨rfl,cr⟩;have jO:=(Ext.refl di).trans cr;replace bw:=cr.obj bw;replace cL:=cr.obj cL;refine af ?_;refine K.call (GO (z7.ext jO) a1 (ba.ext (eg.trans jO)) (t:=true) fun u h=>o.S5 (q:=1) (by decide) hK h) ?_;rintro _ fw ⟨rfl,dc⟩;have xg:=jO.trans dc;replace bw:=dc.obj bw;replace cL:=dc.obj cL;refine af ?_;refine K.call (GO (z7.ext xg) a1 (ba.ext (eg.trans xg)) (t:=false) fun u h=>o.acC h) ?_;rintro _ gw ⟨rfl,fY⟩;have pD:=xg.trans fY;replace bw:=fY.obj bw;replace cL:=fY.obj cL;refine af ?_;refine K.call (GO (z7.ext pD) a1 (ba.ext (eg.trans pD)) (t:=false) fun u h=>o.acB h) ?_;rintro _ la ⟨rfl,fv⟩;have qo:=pD.trans fv;replace bw:=fv.obj bw;replace cL:=fv.obj cL;refine af ?_;refine K.call (Km (z7.ext qo) a1 (ba.ext (eg.trans qo)) (t:=false) fun u h=>(o.XC o.fo 0).elim fun a k=>k.elim fun b k=>o.acG k h) ?_;rintro _ pz ⟨rfl,jA⟩;have ze:=qo.trans jA;replace bw:=jA.obj bw;replace cL:=jA.obj cL;refine af ?_;refine K.call (Km (ji.ext ze) afa (ba.ext (eg.trans ze)) (t:=true) fun u h=>(o.XC o.kW 0).elim fun a k=>k.elim fun b k=>o.acy k h) ?_;rintro _ Oz ⟨rfl,qO⟩;have BM:=ze.trans qO;replace bw:=qO.obj bw;replace cL:=qO.obj cL;refine af ?_;refine K.call (Km (z7.ext BM) a1 (ba.ext (eg.trans BM)) (t:=false) fun u h=>o.acH h) ?_;rintro _ apI ⟨rfl,nN⟩;have Zl:=BM.trans nN;replace bw:=nN.obj bw;replace cL:=nN.obj cL;refine af ?_;exact⟨bk,eg.trans Zl⟩
end Go.Proofs.R
end
section
namespace o
open Go
structure JE(m:Model)(M:List (List Bool)):Prop where
 bad:(check m).c3≠0->M=[]
 ok:(check m).c3=0->∃L,mh m (refs m).length L/\M=jT L
theorem Sx{L:List (List Int×List Int)}{i:Nat}(h:i<(jT L).length):(jT L)[i]=pV L (L[i]'(by rw[tU] at h;exact h)):=by simp[jT]
theorem abU{L:List (List Int×List Int)}{x:List Int×List Int}{k:Nat}(h:k<(pV L x).length):(pV L x)[k]=wU x (L[k]'(by rw[Cn] at h;exact h)):=by simp[pV]
theorem JE.alg{m:Model}{M:List (List Bool)}(h:JE m M){i:Nat}(ad:i<M.length):M[i].length=M.length:=by
 by_cases hk:(check m).c3=0
 .obtain⟨L,_,rfl⟩:=h.ok hk;rw[Sx,Cn,tU]
 .have:=h.bad hk;subst this;cases ad
end o
namespace Go.Proofs.R
open Go Go.RowKit bt
def ZD(w:World)(a:Addr)(r:List Bool):Prop := ∃v,eS w a [v]/\bE 1 (Flat zT) w v r
abbrev ZI(w:World)(u:Value)(M:List (List Bool)):Prop:=bE 1 ZD w u M
theorem aaH(al:List Bool):ju al=al.flatMap zT:=by
 unfold ju zT
 induction al with
 | nil=>rfl
 | cons x al e1=>simp[List.flatMap_cons,e1]
theorem one_cell{w:World}{a:Addr}{v:Value}(h:w.cell? a=some v):eS w a [v]:=fun j u aR=>by
 match j,aR with
 | 0,aR=>injection aR with aR;subst aR;rw[add_zero];exact h
 | n+1,aR=>simp at aR
theorem Nd{w:World}{a:Addr}{v:Value}(h:eS w a [v]):w.cell? a=some v:=by
 have:=h 0 v rfl
 rwa[add_zero] at this
theorem abT{m:o.Model}{w w':World}{u:Value}(hO:((o.check m).c3≠0/\u = .slice none 0 0)\/((o.check m).c3=0/\∃L e6 b3,o.mh m (o.refs m).length L/\u = .slice (some ⟨e6,0,none⟩) L.length L.length/\ln w' e6 L.length w.heap.size b3 (o.jT L))) :
  ∃M,ZI w' u M/\o.JE m M:=by
 rcases hO with ⟨hk,rfl⟩ | ⟨hk,L,e6,b3,hK,rfl,eQ⟩
 .exact⟨[],bE.nil,fun _=>rfl,fun h=>absurd h hk⟩
 .have j1:=o.u9 (o.mF hk).lim;have C8:=hK.len;refine⟨o.jT L,⟨_,L.length,by rw[o.tU],by rw[o.tU];exact Nat.le_refl _,by unfold maxLen;omega,fun _=>rfl,fun a bj i ad=>?_⟩,fun h=>absurd hk h,fun _=>⟨L,hK,rfl⟩⟩;injection bj with bj
  subst bj;have La:i<b3.length:=by rw[eQ.len];exact ad
  obtain⟨cX,c0⟩:=eQ.rows i La ad;rw[aaH] at cX;have aw:w'.cell? (Addr.add ⟨e6,0,none⟩ (i*1))=some (.slice (some ⟨b3[i],0,none⟩) L.length L.length):=e2 eQ.row (by
   rw[Nat.mul_one];simp only[List.getElem?_toArray];rw[List.getElem?_append_left (by simpa using La)];simp[La])
  exact⟨_,one_cell aw,bE.aX (enc:=zT) (R:=Flat zT) (fun _=>rfl) cX c0.symm (by unfold maxLen;omega) fun _ _ _ h=>h⟩
end Go.Proofs.R
end
section
namespace o
open Go
structure Zr where
 cmd:Int
 h9:Int
 to:List Int
structure amA(m:Model)(s:List Int)(x:Zr)(q p k:Nat)(u:List Int):Prop where
 at_:fD m x.cmd q p k
 anf:hx m s q (cD m p k)=some u
 apx:x.h9=0/\x.to=u\/x.h9=1/\ways (cD m p k) m.aL=2/\x.to=lost m s u (cD m p k)
theorem aeZ{c:dI}{cw:Int}(h:head c cw=0):0<=c.from_/\c.from_<cw/\0<=c.to/\c.to<cw:=by
 unfold head at h;by_cases dH:isName c.name=false
 .rw[if_pos dH] at h;exact absurd h (by decide)
 rw[if_neg dH] at h;by_cases dN:c.from_<0\/cw<=c.from_\/c.to<0\/cw<=c.to
 .rw[if_pos dN] at h;exact absurd h (by decide)
 omega
theorem abB{m:Model}(h:(check m).c3=0){p k:Nat}(aN:p<m.procs.length)(hk:k<m.procs[p].cH.length):0<=m.procs[p].cH[k].from_/\m.procs[p].cH[k].from_<m.procs[p].cw/\0<=m.procs[p].cH[k].to/\m.procs[p].cH[k].to<m.procs[p].cw:=by
 obtain⟨eD,_,_⟩:=Iu (J8 h);obtain⟨_,cX,_,_⟩:=zU aN (eD p aN);obtain⟨_,_,iK⟩:=Np cX;have bg:=(GF _ _ iK k hk).1;unfold iC at bg;by_cases h1:head m.procs[p].cH[k] m.procs[p].cw≠0
 .rw[if_pos h1] at bg;exact absurd bg h1
 .exact aeZ (Classical.byContradiction h1)
theorem fD.cw{m:Model}{ref:Int}{q p k:Nat}(h:fD m ref q p k):0<=(cD m p k).to/\(cD m p k).to<(m.procs[p]'(h.at_.aN)).cw:=by
 have:=abB h.ok h.at_.aN h.at_.hk
 rw[zP h.at_.aN h.at_.hk];omega
theorem Sb{m:Model}{ref:Int}{q p k:Nat}(ca:fD m ref q p k){s t:List Int}(aK:Fits m s)(h:hx m s q (cD m p k)=some t):Fits m t:=by
 have br:=mF ca.ok;unfold hx at h;split at h
 .cases h
 split at h
 .cases h
 cases h1:iB m q (cD m p k).b6 s with
 | none=>rw[h1] at h;cases h
 | some u =>
  rw[h1] at h;have e:u.set (dS m q) (cD m p k).to=t:=by injection h
  subst e;have hu:=RL br ca.inst _ s u (fun a bj=>by
   obtain⟨j,aR,rfl⟩:=List.mem_iff_getElem.1 bj;exact ca.cin.act j aR) aK h1
  refine Tk hu (.inr (by have:=MY (m:=m) (q:=q) 0;omega)) fun aw=>?_;obtain⟨_,U,ag⟩:=Wm ca.inst.aD ca.inst.aN ca.inst.RX
  have:=ca.cw
  omega
theorem als{m:Model}{x y:Int}{s one two both other:List Int}{e f g h:Int}{a b c5 gm:List Int}(ar:Told m x)(b2:Told m y)(dE:oe m s)(C6:iQ m x a b)(G9:iQ m y c5 gm)(aE:¬oa a b c5 gm)
  (Bc:∀q p k,fD m x q p k->hx m s q (cD m p k)≠none)(Nh:∀q p k,fD m y q p k->hx m s q (cD m p k)≠none)
  (h1:kO m s x 0 one e)(U:kO m s y 0 two f)(ag:kO m one y 0 both g)(aJ:kO m two x 0 other h):x≠y/\e=0/\f=0/\g=0/\h=0/\both=other:=by
 obtain⟨q,p,k,ca⟩:=sD ar;obtain⟨ga,fZ,k',ug⟩:=sD b2;cases d1:hx m s q (cD m p k) with
 | none=>exact absurd d1 (Bc q p k ca)
 | some b9 =>
  cases d2:hx m s ga (cD m fZ k') with
  | none=>exact absurd d2 (Nh ga fZ k' ug)
  | some ck =>
   have av:(0:Int)<=0/\0<ways (cD m p k) m.aL:=⟨by decide,YX _ _⟩;have aU:(0:Int)<=0/\0<ways (cD m fZ k') m.aL:=⟨by decide,YX _ _⟩;obtain⟨bR,aW⟩:=h1.f3 _ _ _ _ dE ca av d1;obtain⟨f1,f2⟩:=U.f3 _ _ _ _ dE ug aU d2;rw[if_neg (by decide)] at bR f1;subst bR f1;have fi:oe m one:=⟨dE.1,Sb ca dE.2 d1⟩;have fR:oe m two:=⟨dE.1,Sb ug dE.2 d2⟩;obtain⟨t,t1,t2⟩:=alu ca ug dE.2 fi.2 fR.2 C6 G9 aE d1 d2;obtain⟨g1,g2⟩:=ag.f3 _ _ _ _ fi ug aU t1;obtain⟨cX,c0⟩:=aJ.f3 _ _ _ _ fR ca av t2;rw[if_neg (by decide)] at g1 cX;refine⟨fun acR=>?_,aW,f2,g2,c0,g1.trans cX.symm⟩;subst acR;obtain⟨bJ,bZ⟩:=C6.eq G9;subst bJ bZ;have aC:=(C6.there q p k ca).2;have eU:((dS m q:Nat):Int)∈b:=(aC.mem _).2 (by
    unfold kM;refine List.mem_append_left _ ?_;rw[qj];omega)
   exact aE (.inl ⟨_,eU,eU⟩)
end o
end
section
namespace Go.Proofs.R
open Go Go.RowKit bt
theorem ajw(cs:List Value)(v:Value)(m:o.Model)(s:List Int)(ref:Int)(q p k:Nat)(w:World)(h:oX w cs m)(a1:m.cQ)(ay:eO w v s)(aK:o.Fits m s)(ca:o.fD m ref q p k) :
  bu Tryz.prog F.ER #[.agg cs.toArray,v,.int .i64 ref] w fun u w'=>(∃t:Bool,u = .bool t/\(t=true↔o.hx m s q (o.cD m p k)≠none))/\Ext w w':=by
 have x6:=h;obtain⟨gv,d0,eD,d1,fC,d2,fU,d3,gF,d4,IZ,g0,FE,g1,vk,g2,YN,g3,Ou,g4,cS,ci,h5,kh,rfl,_⟩:=h.form;obtain⟨os,xQ,rfl,_⟩:=ay.form;refine bL E.ER ?_;refine bG ?_;refine af ?_;intro av b4 fp aB bA;refine af ?_;refine K.call (Xv _ _ m s ref q p k av (x6.ext aB) a1 (ay.ext Flat.ext aB) aK ca) ?_;rintro u aU ⟨eQ,aA⟩;have aW:=aB.trans aA;rcases eQ with ⟨gZ,rfl⟩ | ⟨t,nY,k4,rfl,lG⟩
 .refine af ?_;exact⟨⟨false,bk,by rw[gZ];simp⟩,aW⟩
 .obtain⟨yQ,o6,rfl,_⟩:=lG.form;refine af ?_;exact⟨⟨true,bk,by rw[k4];simp⟩,aW⟩
def Zx(m:o.Model)(s:List Int)(ref:Int)(t:Bool):Prop:=t=true↔(o.oe m s/\o.Told m ref/\∀q p k,o.fD m ref q p k->o.hx m s q (o.cD m p k)≠none)
theorem Xs(cs:List Value)(v:Value)(m:o.Model)(s:List Int)(ref:Int)(w:World)(h:o.dY w cs m)(a1:m.cQ)(ay:eO w v s) :
  bu Tryz.prog F.AY #[.agg cs.toArray,v,.int .i64 ref] w fun u w'=>(∃t:Bool,u = .bool t/\Zx m s ref t)/\Ext w w':=by
 have eh:=h;obtain⟨cy,bP,b9,c1,ck,c2,cn,bQ,cB,bX,rfl,_⟩:=h.form;obtain⟨os,xQ,rfl,_⟩:=ay.form;have no:∀{P:Prop},¬P->(false=true↔P):=fun h=>⟨fun k=>(by cases k),fun k=>absurd k h⟩;refine bL E.AY ?_;refine bG ?_;refine af ?_;intro av cN fN aB bw;refine af ?_;refine K.call (Xt _ m av (eh.ext aB) a1) ?_;rintro _ aU ⟨hO,aA⟩;have aW:=aB.trans aA;clear bw;rcases hO with ⟨hk,rfl⟩ | ⟨hk,zs,rfl,hZ⟩
 .unfold OB;refine af ?_;intro bb zA Aa ax jy;refine af ?_;exact⟨⟨false,bk,no fun h=>hk h.1.1⟩,aW.trans ax⟩
 have br:=o.mF hk;have x6:=hZ;obtain⟨gv,d0,eD,d1,fC,d2,fU,d3,gF,d4,IZ,g0,FE,g1,vk,g2,YN,g3,Ou,g4,cS,ci,h5,kh,rfl,_⟩:=hZ.form;refine af ?_;intro bb zA Aa ax jy;have He:=x6.ext ax;have bJ:=aW.trans ax;refine af ?_;refine K.call (Xu _ _ m s bb He br (ay.ext Flat.ext bJ)) ?_;rintro _ bq ⟨⟨t,rfl,aO⟩,aM⟩;replace jy:=aM.obj jy;have Da:=He.ext aM;have bZ:=bJ.trans aM;cases t with
 | false =>
  refine af ?_;exact⟨⟨false,bk,no fun h=>by have:=aO.2 h.1.2;cases this⟩,bZ⟩
 | true =>
  have dE:o.oe m s:=⟨hk,aO.1 rfl⟩;refine af ?_;apply K.cond<;>intro g1;rotate_left
  .refine af ?_;exact⟨⟨false,bk,no fun h=>by have:=h.2.1.2;omega⟩,bZ⟩
  refine af ?_;apply K.cond<;>intro g2;rotate_left
  .refine af ?_;exact⟨⟨false,bk,no fun h=>by have:=h.2.1.2;omega⟩,bZ⟩
  have eQ:o.Told m ref:=⟨hk,by omega,by omega⟩;obtain⟨q,p,k,ca⟩:=o.sD eQ;refine af ?_;refine K.call (ajw _ _ m s ref q p k bq Da a1 (ay.ext Flat.ext bZ) dE.2 ca) ?_;rintro _ bT ⟨⟨t,rfl,aO⟩,aZ⟩;refine af ?_;refine⟨⟨t,bk,aO.trans ⟨fun h=>⟨dE,eQ,fun ga fZ k' ug=>?_⟩,fun h=>h.2.2 q p k ca⟩⟩,bZ.trans aZ⟩;obtain⟨rfl,rfl,rfl⟩:=ca.one ug;exact h
end Go.Proofs.R
end