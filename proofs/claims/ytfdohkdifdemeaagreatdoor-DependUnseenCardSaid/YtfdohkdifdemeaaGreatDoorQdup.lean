/- Parts. -/
import Derived.Test.YtfdohkdifdemeaaGreatDoorQduo
set_option linter.all false
set_option maxRecDepth 4000
set_option maxHeartbeats 16000000
section
namespace bt
open Go Go.RowKit
section
variable{S:Fr}{w:World}{aI:Value->Prop}
theorem K.Yc{α:Type}{sz n cap:Nat}{R:World->Addr->α->Prop}{bl:Option Addr}{x:Operand}{k:IntKind}{xs:List α}{t}(l:Nat)(ay:bF sz R w (.slice bl n cap) xs)(au:bn S x = .int k (l:Int))(aS:l<=xs.length)
  (hk:∀al c,bF sz R w (.slice al (xs.length - l) c) (xs.drop l)->aI (.slice al (xs.length - l) c)):tC S sz (.slice bl n cap) (some x) none none aI t:=by
 obtain⟨bU,a6,bK⟩:=ay.len;refine K.hQ l n cap (by simp[fl,au]) (by simp[fl]) (by simp[fl]) ⟨by omega,by omega,Nat.le_refl _⟩ (by simp) ?_;have h:=ay.sub l n (by omega) (by omega);rw[List.take_of_length_le (by rw[List.length_drop];omega)] at h;rw[bU] at h ⊢;exact hk _ _ h
theorem K.ak3{α:Type}{sz n cap:Nat}{R:World->Addr->α->Prop}{bl:Option Addr}{y:Operand}{k:IntKind}{xs:List α}{t}(u:Nat)(ay:bF sz R w (.slice bl n cap) xs)(b8:bn S y = .int k (u:Int))(hu:u<=xs.length)
  (hk:∀al c,bF sz R w (.slice al u c) (xs.take u)->aI (.slice al u c)):tC S sz (.slice bl n cap) none (some y) none aI t:=by
 obtain⟨bU,a6,bK⟩:=ay.len;refine K.hQ 0 u cap (by simp[fl]) (by simp[fl,b8]) (by simp[fl]) ⟨by omega,by omega,Nat.le_refl _⟩ (by simp) ?_;have h:=ay.sub 0 u (by omega) hu;exact hk _ _ h
end
end bt
namespace Go.Proofs.R
open Go Go.RowKit bt
theorem XI(v:Value)(l:List Int)(w:World)(h:eT w v l)(aS:l.length<=100000) :
  bu Tryz.prog F.AR #[v] w fun u w'=>oR w.heap.size w' u (o.lA l)/\Ext w w':=by
 obtain⟨e1,fv,rfl,ga⟩:=h.form;refine bL E.AR ?_;refine bG ?_;refine ae ?_;refine K.call (XG _ l w h) ?_;rintro _ av ⟨rfl,aB⟩;by_cases aG:o.lX l=true
 .rw[aG];obtain⟨ak,h1,U,ag⟩:=o.HZ.1 aG;obtain⟨a,rfl⟩:=h.addr ak;have fY:=h.ext Flat.ext aB;refine ae ?_;refine K.dj 4 l[0].toNat [0] (fun v:gN=>[(3,.slice v.1 v.2.1 v.2.2)]) (none,0,0) (fun k v W=>Ext av W/\oR av.heap.size W (.slice v.1 v.2.1 v.2.2) ((l.drop 1).take k)) bx bx ⟨Ext.refl _,bs.nil _ _ _ _ _⟩ ?_;clear fY;rintro k YQ S aU hk ⟨aA,fN⟩;have eC:=h.ext Flat.ext (aB.trans aA);refine ae ?_;apply K.cond<;>intro g1
  .have de:1+k<l.length:=by omega
   refine ae ?_;intro bb b5 fo ax bz;have qQ:((l.drop 1).take k).length<=100000:=by rw[List.length_take,List.length_drop];omega
   refine ae ?_;refine K.mQ (y:=l[1+k]) (fN.ext ax) bz rfl (fun _=>rfl) ma (by omega) (by unfold maxLen;omega) (by have:=aA.size;have:=ax.size;omega) fun bl c d bp fq pa=>?_;refine ae ?_;refine⟨by omega,bk,(bl,c,d),⟨rfl,trivial⟩,(aA.trans ax).grown pa fun i ad=>(fN.lt i ad).1,?_⟩;rw[List.take_succ,List.getElem?_drop,List.getElem?_eq_getElem de];exact fq
  .have jz:k=l[0].toNat:=by omega
   subst jz;refine ae ?_;exact⟨by rw[o.agX aG ak];exact bs.low aB.size fN,aB.trans aA⟩
 .have L7:o.lX l=false:=by simpa using aG
  rw[L7];refine ae ?_;exact⟨by rw[o.agW aG];exact bs.nil _ _ _ _ _,aB⟩
theorem XQ(n:Nat)(v:Value)(l:List Int)(w:World)(h:eT w v l)(aD:1<=n/\n<=100000) :
  bu Tryz.prog F.AS #[.int .i64 n,v] w fun u w'=>oR w.heap.size w' u (o.uW n l)/\Ext w w':=by
 obtain⟨e1,fv,rfl,ga⟩:=h.form;refine bL E.AS ?_;refine bG ?_;refine ae ?_;intro av bC cR aB ao;have qS:oR w.heap.size av (.slice (some ⟨bC,0,none⟩) 1 1) ((l.length:Int) :: (List.range 0).map fun i=>l.getD i 0):=bs.Gl _ ao cR rfl (fun _=>rfl) rfl (by show 1<=maxLen;unfold maxLen;decide);clear ao;refine ae ?_;refine K.dj 6 (n - 1) [0,1] (fun v:gN=>[(5,.slice v.1 v.2.1 v.2.2)]) (some ⟨bC,0,none⟩,1,1) (fun k v W=>Ext w W/\oR w.heap.size W (.slice v.1 v.2.1 v.2.2) ((l.length:Int) :: (List.range k).map fun i=>l.getD i 0)) bx bx ⟨aB,qS⟩ ?_;clear qS;rintro k YQ S aU hk ⟨aA,fN⟩;have eC:=h.ext Flat.ext aA;have qQ:((l.length:Int) :: (List.range k).map fun i=>l.getD i 0).length=k+1:=by simp
 refine ae ?_;apply K.cond<;>intro g1
 .refine ae ?_;apply K.cond<;>intro g2
  .have de:k<l.length:=by omega
   obtain⟨a,rfl⟩:=h.addr (by omega);refine ae ?_;intro bb b5 fo ax bz;refine ae ?_;refine K.mQ (y:=l[k]) (fN.ext ax) bz rfl (fun _=>rfl) ma (by omega) (by unfold maxLen;omega) (by have:=aA.size;have:=ax.size;omega) fun bl c d bp fq pa=>?_;refine ae ?_;refine⟨by omega,bk,(bl,c,d),⟨rfl,trivial⟩,(aA.trans ax).grown pa fun i ad=>(fN.lt i ad).1,?_⟩;rw[o.W6,show l.getD k 0=l[k] from by simp[de]];exact fq
  .refine ae ?_;intro bb b5 fo ax bz;refine ae ?_;refine K.mQ (y:=0) (fN.ext ax) bz rfl (fun _=>rfl) ma (by omega) (by unfold maxLen;omega) (by have:=aA.size;have:=ax.size;omega) fun bl c d bp fq pa=>?_;refine ae ?_;refine⟨by omega,bk,(bl,c,d),⟨rfl,trivial⟩,(aA.trans ax).grown pa fun i ad=>(fN.lt i ad).1,?_⟩;rw[o.W6,show l.getD k 0=0 from by simp[List.getD,List.getElem?_eq_none (show l.length<=k by omega)]];exact fq
 .have jz:k=n - 1:=by omega
  subst jz;refine ae ?_;exact⟨fN,aA⟩
theorem akp(v:Value)(l:List Int)(w:World)(h:eT w v l)(aS:l.length<=100000) :
  bu Tryz.prog F.ED #[v] w fun u w'=>((o.sg l=none/\u = .tuple #[.slice none 0 0,.int .i64 0,.bool false])\/(∃r x j0,o.sg l=some (r,x)/\u = .tuple #[j0,.int .i64 x,.bool true]/\oR w.heap.size w' j0 r))/\Ext w w':=by
 obtain⟨e1,fv,rfl,ga⟩:=h.form;refine bL E.ED ?_;refine bG ?_;refine ae ?_;refine K.call (XI _ l w h aS) ?_;rintro u av ⟨qS,aB⟩;have gi:=r7 qS;obtain⟨cU,ci,rfl,_⟩:=gi.form;refine ae ?_;apply K.cond<;>intro g1
 .have ad:o.lA l=[]:=List.eq_nil_of_length_eq_zero (by omega);refine ae ?_;exact⟨.inl ⟨by unfold o.sg;rw[ad],bk⟩,aB⟩
 have qM:=o.VP l;obtain⟨x,r,ad⟩:∃x r,o.lA l=x :: r:=by
  cases aw:o.lA l with
  | nil=>rw[aw] at g1;simp at g1
  | cons x r=>exact⟨x,r,rfl⟩
 obtain⟨jc,rfl⟩:=gi.addr (by omega);refine ae ?_;intro aU aA;have TF:=gi.ext Flat.ext aA;have eC:=h.ext Flat.ext (aB.trans aA);refine ae ?_;refine K.Yc (k:=.i64) 1 TF rfl (by omega) fun al c aO=>?_;have Um:(o.lA l).drop 1=r:=by rw[ad];rfl
 have s4:(o.lA l)[0]'(by omega)=x:=by simp[ad]
 rw[Um] at aO;refine ae ?_;refine K.dp 0 rfl (by omega) ?_;refine ae ?_;refine K.call (XQ l.length _ r aU (by have:=aO.len.1;exact aO) (by omega)) ?_;rintro u bb ⟨fO,ax⟩;refine⟨ax,?_⟩;refine ae ?_;refine⟨.inr ⟨o.uW l.length r,x,u,by unfold o.sg;rw[ad],by rw[s4],bs.low (aB.trans aA).size fO⟩,(aB.trans aA).trans ax⟩
theorem ako(v:Value)(l:List Int)(x:Int)(w:World)(h:eT w v l)(aS:l.length<=100000) :
  bu Tryz.prog F.EC #[v,.int .i64 x] w fun u w'=>((o.qb l x=none/\u = .tuple #[.slice none 0 0,.bool false])\/(∃r j0,o.qb l x=some r/\u = .tuple #[j0,.bool true]/\oR w.heap.size w' j0 r))/\Ext w w':=by
 obtain⟨e1,fv,rfl,ga⟩:=h.form;refine bL E.EC ?_;refine bG ?_;refine ae ?_;refine K.call (XG _ l w h) ?_;rintro _ av ⟨rfl,aB⟩;by_cases aG:o.lX l=true;rotate_left
 .have L7:o.lX l=false:=by simpa using aG
  rw[L7];refine ae ?_;exact⟨.inl ⟨by unfold o.qb;rw[if_neg (fun e=>aG e.1)],bk⟩,aB⟩
 rw[aG];obtain⟨ak,h1,U,ag⟩:=o.HZ.1 aG;obtain⟨a,rfl⟩:=h.addr ak;have fY:=h.ext Flat.ext aB;have bw:l.headD 0=l[0]:=by cases l with | nil=>simp at ak | cons n r=>rfl
 refine ae ?_;apply K.cond<;>intro g1
 .refine ae ?_;exact⟨.inl ⟨by unfold o.qb;rw[if_neg (fun e=>e.2 (by rw[bw];omega))],bk⟩,aB⟩
 refine ae ?_;refine K.call (XI _ l av fY aS) ?_;rintro u aU ⟨fN,aA⟩;obtain⟨cU,ci,rfl,_⟩:=(r7 fN).form;have qM:=o.VP l;refine ae ?_;intro bb b5 fo ax bz;refine ae ?_;refine K.mQ (y:=x) (fN.ext ax) bz rfl (fun _=>rfl) ma (by omega) (by unfold maxLen;omega) (by have:=aA.size;have:=ax.size;omega) fun bl c d bp fq pa=>?_;have b0:Ext av bp:=(aA.trans ax).grown pa fun i ad=>(fN.lt i ad).1;refine ae ?_;refine K.call (XQ l.length _ _ bp (r7 fq) (by omega)) ?_;rintro u bR ⟨eG,aW⟩;refine ae ?_;exact⟨.inr ⟨_,_,by unfold o.qb;rw[if_pos ⟨aG,by rw[bw];omega⟩],rfl,bs.low (aB.trans b0).size eG⟩,(aB.trans b0).trans aW⟩
theorem Xu(c:o.dI)(fB ee:Value)(w:World)(bo:o.nt w ee c.cb) :
  bu Tryz.prog F.AL #[.agg (c.enc fB ee).toArray] w fun v w'=>v = .tuple #[.int .i64 (o.comm c.cb).1,.int .i64 (o.comm c.cb).2]/\Ext w w':=by
 obtain⟨bl,cap,rfl,hlen⟩:=bo.form;refine bL E.AL ?_;refine bG ?_;refine ae ?_;intro av bC cR aB ao;unfold o.dI.enc at ao;refine ae ?_;refine K.dj 4 c.cb.length [1] (fun _=>[]) () (fun k _ w'=>Ext av w'/\o.comm c.cb=o.comm (c.cb.drop k)) bx bx ⟨Ext.refl _,by simp⟩ ?_;have gu:=ao;clear ao;rintro k _ S aU hk ⟨fx,bB⟩;have ao:=fx.obj gu;have aA:=aB.trans fx;refine ae ?_;apply K.cond<;>intro g1
 .have br:k<c.cb.length:=by omega
  obtain⟨a,rfl⟩:=bo.addr (by omega);obtain⟨cy,cE,h0,fy,qX⟩:=bo.at k br;rw[o.abB br] at bB;replace h0:=h0.ext aA;unfold o.Act.enc at h0;refine ae ?_;apply K.cond<;>intro g2
  .refine ae ?_;intro bb ax;refine ae ?_;rw[bB,if_pos (by simp[o.gK,g2])];exact⟨bk,aA.trans ax⟩
  refine ae ?_;apply K.cond<;>intro g3
  .refine ae ?_;intro bb ax;refine ae ?_;rw[bB,if_pos (by simp[o.gK,g3])];exact⟨bk,aA.trans ax⟩
  refine ae ?_;rw[if_neg (by simp[o.gK,g2,g3])] at bB;exact⟨br,bk,(),by trivial,fx,bB⟩
 .refine ae ?_;rw[bB,List.drop_eq_nil_of_le (by omega)];exact⟨bk,aA⟩
theorem akx(c:o.dI)(fB ee dT:Value)(l:List o.dv)(w:World)(bo:o.nt w ee c.cb)(aS:o.mC w dT l) :
  bu Tryz.prog F.Ei #[.agg (c.enc fB ee).toArray,dT] w fun v w'=>v = .int .i64 (o.ways c l)/\Ext w w':=by
 obtain⟨bl,cap,rfl,hlen⟩:=aS.form;obtain⟨apk,zD,rfl,HD⟩:=bo.form;refine bL E.Ei ?_;refine bG ?_;refine ae ?_;intro av bC cR aB ao;refine ae ?_;refine K.call (Xu c fB _ av (bo.ext aB)) ?_;rintro _ aU ⟨rfl,aA⟩;have a6:=aB.trans aA;rw[o.ways];refine ae ?_;apply K.cond<;>intro g1;rotate_left
 .refine ae ?_;rw[if_neg g1];exact⟨bk,a6⟩
 rw[if_pos g1];refine ae ?_;apply K.cond<;>intro g2;rotate_left
 .refine ae ?_;rw[o.hL (.inl (by omega))];exact⟨bk,a6⟩
 refine ae ?_;apply K.cond<;>intro g3;rotate_left
 .refine ae ?_;rw[o.hL (.inr (by omega))];exact⟨bk,a6⟩
 rw[o.iT (by omega) (by omega)];obtain⟨a,rfl⟩:=aS.addr (by omega);have ad:(o.comm c.cb).2.toNat<l.length:=by omega
 have en:=((aS.at _ ad).cells).ext a6;refine ae ?_;refine K.dp (o.comm c.cb).2.toNat (by omega) ad ?_;refine ae ?_;refine K.du (fun g4=>?_) (fun g4=>?_)
 .refine ae ?_;rw[if_pos g4];exact⟨bk,a6⟩
 .refine ae ?_;rw[if_neg (by simp[g4])];exact⟨bk,a6⟩
structure pF(w:World)(cs:List Value)(m:o.Model):Prop where
 ex:∃ms ys cy j0,cs=ms++ys++[cy,j0]/\o.ec w ms m/\o.ja w ys (o.layout m)/\kK w cy (o.insts m)/\BW w j0 (o.refs m)
theorem pF.ext{w w':World}{cs:List Value}{m:o.Model}(he:Ext w w')(h:pF w cs m):pF w' cs m :=
 let ⟨ms,ys,cy,j0,ak,h1,U,ag,aJ⟩:=h.ex; ⟨ms,ys,cy,j0,ak,h1.ext he,U.ext he,ag.ext Flat.ext he,aJ.ext Flat.ext he⟩
theorem pF.form{w:World}{cs:List Value}{m:o.Model}(h:pF w cs m):∃gp d0 eO d1 fz d2 gb d3 gA d4 cz bS b9 c1 cn c2 cp bP cA bX cU ci iI kP,
  cs=[.slice gp m.scalars.length d0,.slice eO m.vars.length d1,.slice fz m.aM.length d2,.slice gb m.procs.length d3,.slice gA m.props.length d4,
   .slice cz (o.layout m).vars.length bS,.slice b9 (o.layout m).aM.length c1,.slice cn (o.layout m).insts.length c2,.int .i64 (o.layout m).cells,.slice cp (o.layout m).bf.length bP,.slice cA (o.layout m).ad.length bX,.slice cU (o.insts m).length ci,.slice iI (o.refs m).length kP] /\
  o.ec w [.slice gp m.scalars.length d0,.slice eO m.vars.length d1,.slice fz m.aM.length d2,.slice gb m.procs.length d3,.slice gA m.props.length d4] m /\
  o.ja w [.slice cz (o.layout m).vars.length bS,.slice b9 (o.layout m).aM.length c1,.slice cn (o.layout m).insts.length c2,.int .i64 (o.layout m).cells,.slice cp (o.layout m).bf.length bP,.slice cA (o.layout m).ad.length bX] (o.layout m) /\
  bF 1 (Flat eB) w (.slice cz (o.layout m).vars.length bS) (o.layout m).vars/\bF 1 (Flat eB) w (.slice b9 (o.layout m).aM.length c1) (o.layout m).aM/\bF 1 (Flat eB) w (.slice cn (o.layout m).insts.length c2) (o.layout m).insts /\
  bF 1 (Flat eB) w (.slice cp (o.layout m).bf.length bP) (o.layout m).bf/\bF 1 (Flat eB) w (.slice cA (o.layout m).ad.length bX) (o.layout m).ad /\
  o.hI w (.slice gp m.scalars.length d0) m.scalars/\o.hh w (.slice eO m.vars.length d1) m.vars/\o.mC w (.slice fz m.aM.length d2) m.aM/\o.pB w (.slice gb m.procs.length d3) m.procs /\
  kK w (.slice cU (o.insts m).length ci) (o.insts m)/\BW w (.slice iI (o.refs m).length kP) (o.refs m):=by
 obtain⟨ms,ys,cy,j0,rfl,bq,c7,bB,dr⟩:=h.ex;have CW:=bq;have adO:=c7;obtain⟨cz,bS,b9,c1,cn,c2,cp,bP,cA,bX,rfl,gx,fA,gd,ir,k0⟩:=c7.form;obtain⟨gp,d0,eO,d1,fz,d2,gb,d3,gA,d4,rfl,ak,h1,U,ag,aJ,_⟩:=bq.form;obtain⟨cU,ci,rfl,_⟩:=bB.form;obtain⟨iI,kP,rfl,_⟩:=dr.form;exact⟨gp,d0,eO,d1,fz,d2,gb,d3,gA,d4,cz,bS,b9,c1,cn,c2,cp,bP,cA,bX,cU,ci,iI,kP,rfl,CW,adO,gx,fA,gd,ir,k0,ak,h1,U,ag,bB,dr⟩
theorem ajz(cs ys:List Value)(m:o.Model)(w:World)(h:o.ec w cs m)(aZ:m.cQ)(bq:o.eF m)(c7:o.ja w ys (o.layout m)) :
  bu Tryz.prog F.EE #[.agg cs.toArray,.agg ys.toArray] w fun u w'=>(∃cy j0,u = .agg (cs++ys++[cy,j0]).toArray/\bs o.c8.enc T.l 2 w.heap.size w' cy (o.insts m)/\bs o.Ref.enc T.m 2 w.heap.size w' j0 (o.refs m))/\Ext w w':=by
 have dP:=h;have o3:=c7;obtain⟨cz,bS,b9,c1,cn,c2,cp,bP,cA,bX,rfl,_⟩:=h.form;obtain⟨k3,d0,j1,d1,j2,d2,nY,d3,nq,d4,rfl,_⟩:=c7.form;refine bL E.EE ?_;refine bG ?_;refine ae ?_;intro av cr dQ aB aP;refine ae ?_;intro aU b5 fo aA bz;replace aP:=aA.obj aP;refine ae ?_;intro bb cM fM ax bA;have z4:=cH bA;replace aP:=ax.obj aP;replace bz:=ax.obj bz;have bK:=(aB.trans aA).trans ax;have gh:=aB.size;have z2:=aA.size;refine ae ?_;intro bp aN;have b0:=bK.trans aN;replace aP:=aN.obj aP;replace bz:=aN.obj bz;replace bA:=aN.obj bA;refine ae ?_;refine K.call (Bc _ m bp (dP.ext b0) aZ) ?_;rintro cy bR ⟨fy,aW⟩;obtain⟨cU,ci,rfl,_⟩:=fy.form;have b3:=b0.trans aW;refine⟨aW,?_⟩;refine ae ?_;refine K.call (XB _ m bR (dP.ext b3) aZ bq.lim) ?_;rintro j0 bY ⟨jk,a8⟩;obtain⟨iI,kP,rfl,_⟩:=jk.form;have cV:=b3.trans a8;refine⟨aW.trans a8,?_⟩;replace bA:=(aW.trans a8).obj bA;refine ae ?_;intro cd dB cS;have dw:Ext w cd:=dB.ext cV (by omega);have aky:=ax.size;have oK:=aN.size;have nT:=aW.size;refine ae ?_;exact⟨⟨_,_,rfl,bs.low b0.size (bs.wr dB (by omega) (fy.ext a8)),bs.low b3.size (bs.wr dB (by omega) jk)⟩,dw⟩
end Go.Proofs.R
end
section
namespace o
open Go
theorem aam{m:Model}{c:Nat}(h:c<eA m):∃bE:c<(cc m).length,B7 m c=((cc m)[c].bf,(cc m)[c].ad):=by
 have bE:c<(cc m).length:=h;exact⟨bE,by unfold B7;rw[List.getElem?_eq_getElem bE]⟩
end o
namespace Go.Proofs.R
open Go Go.RowKit bt
def Y7:List Value:=[.slice none 0 0,.slice none 0 0,.slice none 0 0,.slice none 0 0,.slice none 0 0,.slice none 0 0,.slice none 0 0,.slice none 0 0,.int .i64 0,.slice none 0 0,.slice none 0 0,.slice none 0 0,.slice none 0 0]
theorem ajB(cs:List Value)(m:o.Model)(w:World)(h:o.ec w cs m)(aZ:m.cQ) :
  bu Tryz.prog F.EG #[.agg cs.toArray] w fun u w'=>((¬(o.check m).cX=0/\u = .tuple #[.agg Y7.toArray,.bool false])\/((o.check m).cX=0/\∃zs,u = .tuple #[.agg zs.toArray,.bool true]/\pF w' zs m))/\Ext w w':=by
 have dP:=h;obtain⟨cz,bS,b9,c1,cn,c2,cp,bP,cA,bX,rfl,_⟩:=h.form;refine bL E.EG ?_;refine bG ?_;refine ae ?_;intro av bC cR aB ao;refine ae ?_;intro aU cr dQ aA aP;have z2:=cH aP;have amH:=aB.size;replace ao:=aA.obj ao;have a6:=aB.trans aA;refine ae ?_;refine K.call (NK _ m aU (dP.ext a6) aZ) ?_;rintro _ bb ⟨rfl,ax⟩;replace ao:=ax.obj ao;replace aP:=ax.obj aP;have bK:=a6.trans ax;unfold vU;refine ae ?_;refine K.jf (v:=.int .i64 (o.check m).cX) rfl ?_;refine ae ?_;refine K.cond (fun hk=>?_) (fun hk=>?_);rotate_left
 .refine ae ?_;intro bp ey bA;refine ae ?_;exact⟨.inl ⟨hk,bk⟩,ey.ext bK (by omega)⟩
 have bq:=o.lZ hk;refine ae ?_;intro bp aN;replace ao:=aN.obj ao;replace aP:=aN.obj aP;have b0:=bK.trans aN;refine ae ?_;refine K.call (XA _ m bp (dP.ext b0) aZ bq) ?_;rintro _ bR ⟨⟨ys,rfl,G0⟩,aW⟩;have c7:=G0.here;have b3:=b0.trans aW;refine⟨aW,?_⟩;refine ae ?_;refine K.call (ajz _ ys m bR (dP.ext b3) aZ bq c7) ?_;rintro _ bY ⟨⟨cy,j0,rfl,fy,jk⟩,a8⟩;have cV:=b3.trans a8;replace aP:=(aW.trans a8).obj aP;obtain⟨k3,d0,j1,d1,j2,d2,nY,d3,nq,d4,rfl,_⟩:=c7.form;obtain⟨cU,ci,rfl,_⟩:=fy.form;obtain⟨iI,kP,rfl,_⟩:=jk.form;have oK:=aN.size;have aky:=ax.size;have nT:=aW.size;have aqj:=cH aP;refine ae ?_;intro cd dB cS;have dw:Ext w cd:=dB.ext cV (by omega);have adQ:=((G0.ext a8 nT).wr dB (by omega)).here;refine ae ?_;exact⟨.inr ⟨hk,_,rfl,_,_,_,_,rfl,dP.ext dw,adQ,bs.iW (enc:=o.c8.enc) (fun _=>rfl) (bs.wr dB (by omega) fy),bs.iW (enc:=o.Ref.enc) (fun _=>rfl) (bs.wr dB (by omega) jk)⟩,dw⟩
theorem Ny(cs:List Value)(m:o.Model)(ref:Int)(q p k:Nat)(w:World)(h:pF w cs m)(cf:o.gl m ref q p k) :
  bu Tryz.prog F.yD #[.agg cs.toArray,.int .i64 ref] w fun u w'=>(∃fB ee,u = .agg ((o.cL m p k).enc fB ee).toArray/\o.fW w fB (o.cL m p k).guard/\o.nt w ee (o.cL m p k).cb)/\Ext w w':=by
 obtain⟨gp,d0,eO,d1,fz,d2,gb,d3,gA,d4,cz,bS,b9,c1,cn,c2,cp,bP,cA,bX,cU,ci,iI,kP,rfl,_,_,_,_,_,_,_,_,_,_,ag,bB,dr⟩:=h.form;have aG:=cf.at_.ad;have aO:=cf.at_.aO;have nM:=cf.at_.hk;have ov:=cf.at_.ip;obtain⟨r,rfl⟩:=Int.eq_ofNat_of_zero_le cf.bf;have ba:r<(o.refs m).length:=cf.ad;have jB:(o.refs m)[r].inst=(q:Int):=cf.at_.u0;have oy:(o.refs m)[r].cmd=(k:Int):=cf.at_.wR;obtain⟨lg,rfl⟩:=dr.addr (by omega);obtain⟨jc,rfl⟩:=bB.addr (by omega);obtain⟨a3,rfl⟩:=ag.addr (by omega);obtain⟨mr,cE,dT,dL,eR,gn⟩:=ag.at p aO;obtain⟨Ip,Gq,rfl,Ib⟩:=gn.form;obtain⟨ac,rfl⟩:=gn.addr (by omega);obtain⟨fG,fB,ee,gu,kz,iE⟩:=gn.at k nM;obtain⟨hM,gF,rfl,_⟩:=kz.form;obtain⟨wM,vD,rfl,_⟩:=iE.form;unfold o.dz.enc at dL;unfold o.dI.enc at gu;refine bL E.yD ?_;refine bG ?_;refine ae ?_;intro av cr dQ aB aP;refine ae ?_;intro aU cM fM aA bA;have z4:=cH bA;have amH:=aB.size;replace aP:=aA.obj aP;have a6:=aB.trans aA;have KR:=dr.ext Flat.ext a6;refine ae ?_;intro bb dR kR ax cD;have zS:(o.refs m)[r].enc=[.int .i64 q,.int .i64 k]:=by unfold o.Ref.enc;rw[jB,oy]
 rw[zS] at cD;replace aP:=ax.obj aP;replace bA:=ax.obj bA;have bK:=a6.trans ax;have Tx:=bB.ext Flat.ext bK;have U7:=dL.ext bK;have Hj:=gu.ext bK;clear KR;refine ae ?_;intro bp aN;replace aP:=aN.obj aP;replace bA:=aN.obj bA;replace cD:=aN.obj cD;replace Tx:=Tx.ext Flat.ext aN;replace U7:=U7.ext aN;replace Hj:=Hj.ext aN;refine ae ?_;refine K.dp p (by rw[ov]) aO ?_;refine ae ?_;intro bR eZ Ab;refine ae ?_;have pV:=o.xG aO nM;exact⟨⟨.slice hM (o.cL m p k).guard.length gF,.slice wM (o.cL m p k).cb.length vD,by rw[pV];rfl,by rw[pV];exact kz,by rw[pV];exact iE⟩,eZ.ext (bK.trans aN) (by omega)⟩
theorem ND(cs:List Value)(v:Value)(m:o.Model)(s:List Int)(c:Nat)(w:World)(h:pF w cs m)(bq:o.eF m)(ay:eT w v s)(aS:s.length=o.eA m)(aw:c<m.aM.length) :
  bu Tryz.prog F.yE #[.agg cs.toArray,v,.int .i64 c] w fun u w'=>eT w' u (o.chanOf m s c)/\Ext w w':=by
 obtain⟨gp,d0,eO,d1,fz,d2,gb,d3,gA,d4,cz,bS,b9,c1,cn,c2,cp,bP,cA,bX,cU,ci,iI,kP,rfl,_,_,gx,fA,gd,ir,k0,ak,h1,U,ag,bB,dr⟩:=h.form;obtain⟨e1,fv,rfl,ga⟩:=ay.form;obtain⟨lS,fh⟩:=o.vB aw;have hZ:=(bq.chan _ (List.getElem_mem aw)).cap;have wq:=o.oY aw;have fG:=o.od aw;have qI:o.eA m<=64:=o.nf bq;obtain⟨dD,rfl⟩:=fA.addr (by omega);obtain⟨xt,rfl⟩:=U.addr (by omega);have en:=(U.at c aw).cells;refine bL E.yE ?_;refine bG ?_;refine ae ?_;intro av b5 fo aB bz;have Nx:=fA.ext Flat.ext aB;replace en:=en.ext aB;have fY:=ay.ext Flat.ext aB;refine ae ?_;refine K.IE (k:=.i64) (k':=.i64) (o.df m c) (o.df m c+(1+o.ju m c)) fY (by simp[ft,cu,fh]) (by simp[ft,cu,fh];omega) (by omega) (by omega) fun al mR aO=>?_;refine ae ?_;refine⟨?_,aB⟩;rw[show o.df m c+(1+o.ju m c) - o.df m c=1+o.ju m c from by omega] at aO ⊢;exact aO
theorem Iz(cs:List Value)(v:Value)(m:o.Model)(s:List Int)(c:Nat)(x n:Int)(w:World)(h:pF w cs m)(bq:o.eF m)(ay:eT w v s)(aS:s.length=o.eA m)(au:x=c)(aw:c<o.eA m) :
  bu Tryz.prog F.wG #[.agg cs.toArray,v,.int .i64 x,.int .i64 n] w fun u w'=>((o.putAt m s c n=none/\u = .tuple #[.slice none 0 0,.bool false])\/(∃t nW,o.putAt m s c n=some t/\u = .tuple #[nW,.bool true]/\oR w.heap.size w' nW t))/\Ext w w':=by
 subst au;obtain⟨gp,d0,eO,d1,fz,d2,gb,d3,gA,d4,cz,bS,b9,c1,cn,c2,cp,bP,cA,bX,cU,ci,iI,kP,rfl,_,_,gx,fA,gd,ir,k0,ak,h1,U,ag,bB,dr⟩:=h.form;obtain⟨e1,fv,rfl,ga⟩:=ay.form;obtain⟨eM,sN⟩:=o.aam aw;have f2:=o.Wo m;have f3:=o.Wm m;have Ap:(o.cc m).length=o.eA m:=rfl;have dX:(o.layout m).bf[c]'(by omega)=(o.cc m)[c].bf:=o.Wn _ eM;have ep:(o.layout m).ad[c]'(by omega)=(o.cc m)[c].ad:=o.Wl _ eM;have qI:o.eA m<=64:=o.nf bq;obtain⟨a3,rfl⟩:=ir.addr (by omega);obtain⟨a4,rfl⟩:=k0.addr (by omega);refine bL E.wG ?_;refine bG ?_;refine ae ?_;intro av cM fM aB bA;have EZ:=ir.ext Flat.ext aB;have apG:=k0.ext Flat.ext aB;refine ae ?_;apply K.cond<;>intro g1
 .refine ae ?_;exact⟨.inl ⟨by unfold o.putAt;rw[sN,if_pos (.inl (by simp only;omega))],bk⟩,aB⟩
 refine ae ?_;apply K.cond<;>intro g2
 .refine ae ?_;exact⟨.inl ⟨by unfold o.putAt;rw[sN,if_pos (.inr (by simp only;omega))],bk⟩,aB⟩
 refine ae ?_;refine K.call (Xv _ s c n _ (ay.ext Flat.ext aB) rfl (by omega) (by omega)) ?_;rintro u aU ⟨fN,aA⟩;refine ae ?_;exact⟨.inr ⟨_,_,by unfold o.putAt;rw[sN,if_neg (by simp only;omega)],rfl,bs.low aB.size fN⟩,aB.trans aA⟩
theorem NM(cs:List Value)(v l2:Value)(m:o.Model)(s l:List Int)(c:Nat)(w:World)(h:pF w cs m)(bq:o.eF m)(ay:eT w v s)(aD:eT w l2 l)(aS:s.length=o.eA m)(aw:c<m.aM.length)(qQ:l.length=1+o.ju m c) :
  bu Tryz.prog F.yF #[.agg cs.toArray,v,.int .i64 c,l2] w fun u w'=>oR w.heap.size w' u (o.mu s (o.df m c) l)/\Ext w w':=by
 obtain⟨gp,d0,eO,d1,fz,d2,gb,d3,gA,d4,cz,bS,b9,c1,cn,c2,cp,bP,cA,bX,cU,ci,iI,kP,rfl,_,_,gx,fA,gd,ir,k0,ak,h1,U,ag,bB,dr⟩:=h.form;obtain⟨e1,fv,rfl,ga⟩:=ay.form;obtain⟨on,xH,rfl,apd⟩:=aD.form;obtain⟨lS,fh⟩:=o.vB aw;have wq:=o.oY aw;have qI:o.eA m<=64:=o.nf bq;obtain⟨dD,rfl⟩:=fA.addr (by omega);refine bL E.yF ?_;refine bG ?_;refine ae ?_;intro av cM fM aB bA;have Nx:=fA.ext Flat.ext aB;have fY:=ay.ext Flat.ext aB;have wj:=aD.ext Flat.ext aB;refine ae ?_;intro aU aA;have eC:=fY.ext Flat.ext aA;have ki:=wj.ext Flat.ext aA;have a6:=aB.trans aA;refine ae ?_;refine K.ak3 (k:=.i64) (o.df m c) eC (by simp[ft,cu,fh]) (by omega) fun api anc eL=>?_;refine ae ?_;refine K.Yc (k:=.i64) (o.df m c+l.length) eC (by simp[ft,cu,fh]) (by omega) fun apj hl jh=>?_;refine ae ?_;intro bb b5 fo ax bz;have fO:oR aU.heap.size bb (.slice (some ⟨b5,0,none⟩) 0 0) []:=bs.empty fo bz;have tl:(s.take (o.df m c)).length<=64:=by rw[List.length_take];omega
 have dl:(s.drop (o.df m c+l.length)).length<=64:=by rw[List.length_drop];omega
 refine ae ?_;refine K.Gf fO (eL.ext Flat.ext ax) (fun _=>rfl) ma (by simp only[List.length_nil];omega) (by simp only[List.length_nil];unfold maxLen;omega) ax.size fun v4 bp fq pa=>?_;have et:Ext aU bp:=ax.grown pa fun i ad=>(fO.lt i ad).1;rw[List.nil_append] at fq;obtain⟨hc,al4,rfl,_⟩:=fq.form;refine ae ?_;refine K.Gf fq (ki.ext Flat.ext et) (fun _=>rfl) ma (by omega) (by unfold maxLen;omega) et.size fun v5 bR eG kx=>?_;have hS:Ext aU bR:=et.grown kx fun i ad=>(fq.lt i ad).1;obtain⟨qd,apK,rfl,_⟩:=eG.form;refine ae ?_;refine K.Gf eG (jh.ext Flat.ext hS) (fun _=>rfl) ma (by rw[List.length_append];omega) (by rw[List.length_append];unfold maxLen;omega) hS.size fun v6 bY dO jU=>?_;have k6:Ext aU bY:=hS.grown jU fun i ad=>(eG.lt i ad).1;obtain⟨sa,apL,rfl,_⟩:=dO.form;refine ae ?_;exact⟨bs.low a6.size dO,a6.trans k6⟩
end Go.Proofs.R
end
section
namespace o
open Go
theorem RZ{m:Model}{i:Nat}(h:i<m.aM.length):df m (i+1)=df m i+(1+ju m i):=by rw[aaJ h,od h]
theorem JR{m:Model}:∀(d i:Nat),i+d<=m.aM.length->df m i<=df m (i+d)
 | 0,_,_=>Nat.le_refl _
 | d+1,i,h=>by
  have:=JR (m:=m) d i (by omega)
  have:=RZ (m:=m) (i:=i+d) (by omega)
  rw[<-Nat.add_assoc];omega
theorem RY{m:Model}{i j:Nat}(Aj:i<j)(aR:j<m.aM.length):df m i+(1+ju m i)<=df m j:=by
 have h1:=RZ (m:=m) (i:=i) (by omega);have U:=JR (m:=m) (j - (i+1)) (i+1) (by omega);rw[show i+1+(j - (i+1))=j from by omega] at U;omega
theorem aaI(m:Model)(i:Nat)(h:i<=m.aM.length):total (cW m)<=df m i:=by
 have:=JR (m:=m) i 0 (by omega)
 rw[Nat.zero_add,aaK] at this;exact this
theorem ahs{m:Model}{i j:Nat}(ad:i<m.aM.length)(aR:j<(l8 m.scalars m.aM[i]).length):∃h:df m i+j<(cc m).length,(cc m)[df m i+j].bf=(l8 m.scalars m.aM[i])[j].bf/\(cc m)[df m i+j].ad=(l8 m.scalars m.aM[i])[j].ad:=by
 have hw:i<(dA m).length:=by simpa[dA] using ad
 have e:(dA m)[i]=l8 m.scalars m.aM[i]:=by simp[dA]
 have hk:j<(dA m)[i].length:=by rw[e];exact aR
 have h1:=JY 2 (dA m) 0 i j hw hk;have o9:=xE ad;rw[tK] at aR;have U:=ahr (m:=m) (c:=df m i+j) (by unfold df;omega) (by omega);rw[show df m i+j - total (cW m)=total ((dA m).take i)+j from by unfold df;omega,h1] at U;obtain⟨ag,aJ⟩:=List.getElem?_eq_some_iff.1 U;refine⟨ag,?_,?_⟩
 .rw[aJ];simp only[e]
 .rw[aJ];simp only[e]
theorem Tc{m:Model}{s:List Int}{c:Nat}{n:Int}(aK:Fits m s)(ba:c<total (cW m)\/total (cW m)+total (dA m)<=c)(aC:∀h:c<(cc m).length,(cc m)[c].bf<=n/\n<=(cc m)[c].ad):Fits m (s.set c n):=by
 refine⟨by rw[List.length_set];exact aK.len,fun i ad=>?_,fun j aR eP=>?_⟩
 .have h1:=xE ad;have U:=aaI m i (by omega)
  have:oh m i m.aM[i] (s.set c n)=oh m i m.aM[i] s:=N2 fun k hk=>List.getElem?_set_ne (by omega)
  rw[this];exact aK.queue i ad
 .rw[List.getElem_set];split
  .rename_i e;subst e;exact aC eP
  .exact aK.cell j (by rw[List.length_set] at aR;exact aR) eP
theorem aju{s:List Scalar}{c:dv}{l:List Int}(hZ:1<=c.cap)(h:mI s c l){j:Nat}(aR:j<(l8 s c).length):∃x,l[j]? = some x/\(l8 s c)[j].bf<=x/\x<=(l8 s c)[j].ad:=by
 obtain⟨n,ak,h1,U,ag⟩:=h;cases j with
 | zero=>exact⟨n,ak,h1,U⟩
 | succ k =>
  rw[tK] at aR;obtain⟨x,au,bo,aC⟩:=ag k (by omega);refine⟨x,au,?_⟩;have e:(l8 s c)[k+1]'(by rw[tK];omega)=j9 s c:=by simp[l8]
  rw[e];unfold j9;unfold fb at bo ⊢;by_cases aD:(k:Int)<n
  .have:=bo aD
   split at this<;>rename_i ay
   .rw[if_pos ay];simp only at this ⊢;omega
   .rw[if_neg ay];exact this
  .have:=aC (by omega)
   subst this;split
   .simp only;omega
   .simp only
    have:=size_le c.scalar s
    omega
theorem KF{m:Model}{s l:List Int}{i:Nat}(aK:Fits m s)(ad:i<m.aM.length)(hZ:1<=m.aM[i].cap)(aS:l.length=1+ju m i)(aG:mI m.scalars m.aM[i] l):Fits m (mu s (df m i) l):=by
 have wq:=oY ad;have o9:df m i+l.length<=s.length:=by rw[aK.len];omega
 have fG:=od ad;refine⟨by rw[DX o9];exact aK.len,fun j aR=>?_,fun x au s3=>?_⟩
 .by_cases e:j=i
  .subst e
   have:oh m j m.aM[j] (mu s (df m j) l)=l:=by
    apply List.ext_getElem?;intro k;unfold oh;rw[List.getElem?_take,List.getElem?_drop];split
    .rw[DW o9,if_pos ⟨by omega,by omega⟩,show df m j+k - df m j=k from by omega]
    .rw[List.getElem?_eq_none (by omega)]
   rw[this];exact aG
  .have pc:=od aR
   have:oh m j m.aM[j] (mu s (df m i) l)=oh m j m.aM[j] s:=N2 fun k hk=>by
    rw[DW o9,if_neg];rcases Nat.lt_or_gt_of_ne e with h | h
    .have:=RY h ad;omega
    .have:=RY h aR;omega
   rw[this];exact aK.queue j aR
 .have hA:x<s.length:=by rw[DX o9] at au;exact au
  have aZ:=DW o9 x;rw[List.getElem?_eq_getElem au] at aZ;by_cases eU:df m i<=x/\x<df m i+l.length
  .rw[if_pos eU] at aZ;have UG:x - df m i<(l8 m.scalars m.aM[i]).length:=by rw[tK];omega
   obtain⟨y,b8,bC,cr⟩:=aju hZ aG UG;obtain⟨ag,aJ,bg⟩:=ahs ad UG;rw[b8] at aZ;have e:x=df m i+(x - df m i):=by omega
   have pd:(cc m)[x]=(cc m)[df m i+(x - df m i)]:=by congr 1
   injection aZ with aZ
   rw[aZ,pd,aJ,bg];exact⟨bC,cr⟩
  .rw[if_neg eU,List.getElem?_eq_getElem hA] at aZ;injection aZ with aZ
   rw[aZ];exact aK.cell x hA s3
theorem ai2{n:Nat}{l:List Int}{k:Nat}(hk:k+1<n):(uW n l)[k+1]? = some (l.getD k 0):=by
 unfold uW;rw[List.getElem?_cons_succ,List.getElem?_map,List.getElem?_range (by omega)];rfl
theorem W5{s:List Scalar}{c:dv}{l:List Int}(hZ:1<=c.cap)(aS:(l.length:Int)<=c.cap)(aC:∀x∈l,(fb c.scalar c.bf c.ad s).bf<=x/\x<=(fb c.scalar c.bf c.ad s).ad):mI s c (uW (1+c.cap.toNat) l):=by
 refine⟨l.length,rfl,by omega,aS,fun k hk=>⟨l.getD k 0,ai2 (by omega),fun jz=>?_,fun jz=>?_⟩⟩
 .have qP:k<l.length:=by omega
  have e:l.getD k 0=l[k]:=by simp[qP]
  rw[e];exact aC _ (List.getElem_mem qP)
 .simp[List.getD,List.getElem?_eq_none (show l.length<=k by omega)]
theorem Xl{s:List Scalar}{c:dv}{l:List Int}(aS:l.length=1+c.cap.toNat)(hZ:1<=c.cap)(h:mI s c l):lX l=true/\((lA l).length:Int)<=c.cap/\l.headD 0=(lA l).length/\∀x∈lA l,(fb c.scalar c.bf c.ad s).bf<=x/\x<=(fb c.scalar c.bf c.ad s).ad:=by
 obtain⟨n,ak,h1,U,ag⟩:=h;obtain⟨a,r,rfl⟩:∃a r,l=a :: r:=by
  cases l with
  | nil=>simp at aS;omega
  | cons a r=>exact⟨a,r,rfl⟩
 simp only[List.getElem?_cons_zero,Option.some.injEq] at ak;subst ak;simp only[List.length_cons] at aS;have aG:lX (a :: r)=true:=by
  simp only[lX,Bool.and_eq_true,decide_eq_true_eq,List.all_eq_true];refine⟨⟨h1,by omega⟩,fun x au=>?_⟩;obtain⟨k,hk,rfl⟩:=List.mem_iff_getElem.1 au;rw[List.length_drop] at hk;rw[List.getElem_drop];obtain⟨x,au,_,bQ⟩:=ag (a.toNat+k) (by omega);rw[List.getElem?_cons_succ,List.getElem?_eq_getElem (by omega)] at au;injection au with au
  rw[au];exact bQ (by omega)
 have ad:lA (a :: r)=r.take a.toNat:=by
  unfold lA;rw[if_pos aG];rfl
 rw[ad];refine⟨aG,by rw[List.length_take];omega,by rw[List.length_take];simp;omega,fun x au=>?_⟩;obtain⟨k,hk,rfl⟩:=List.mem_iff_getElem.1 au;rw[List.length_take] at hk;rw[List.getElem_take];obtain⟨x,au,aC,_⟩:=ag k (by omega);rw[List.getElem?_cons_succ,List.getElem?_eq_getElem (by omega)] at au;injection au with au
 rw[au];exact aC (by omega)
theorem ajl{s:List Scalar}{c:dv}{l r:List Int}{v:Int}(aS:l.length=1+c.cap.toNat)(hZ:1<=c.cap)(h:mI s c l)(aT:(fb c.scalar c.bf c.ad s).bf<=v/\v<=(fb c.scalar c.bf c.ad s).ad)(aO:qb l v=some r):mI s c r:=by
 obtain⟨h1,U,ag,aJ⟩:=Xl aS hZ h;unfold qb at aO;split at aO
 .rename_i dm;injection aO with aO
  subst aO;rw[aS];refine W5 hZ ?_ fun x au=>?_
  .have:=dm.2
   rw[ag,aS] at this;rw[List.length_append,List.length_singleton];omega
  .rcases List.mem_append.1 au with au | au
   .exact aJ x au
   .rw[List.mem_singleton] at au;subst au;exact aT
 .cases aO
theorem alE{s:List Scalar}{c:dv}{l r:List Int}{v:Int}(aS:l.length=1+c.cap.toNat)(hZ:1<=c.cap)(h:mI s c l)(aO:sg l=some (r,v)):mI s c r:=by
 obtain⟨h1,U,ag,aJ⟩:=Xl aS hZ h;unfold sg at aO;split at aO
 .cases aO
 .rename_i x q aG;injection aO with aO
  injection aO with bU a6
  subst bU;rw[aS];rw[aG] at U aJ;exact W5 hZ (by simp only[List.length_cons] at U;omega) fun y b8=>aJ y (List.mem_cons_of_mem _ b8)
theorem Iv{m:Model}{s t:List Int}{c:Nat}{n:Int}(aK:Fits m s)(ba:c<total (cW m)\/total (cW m)+total (dA m)<=c)(h:putAt m s c n=some t):Fits m t:=by
 have e:=EW h;subst e;refine Tc aK ba fun aw=>?_;unfold putAt B7 at h;rw[List.getElem?_eq_getElem aw] at h;simp only at h;split at h
 .cases h
 .omega
theorem MU{m:Model}{q:Nat}(j:Nat):total (cW m)+total (dA m)<=eg m q+j:=by unfold eg;omega
theorem Rz{m:Model}(bq:eF m){s t:List Int}{q p:Nat}{a:Act}(aG:gr m q p)(bo:qm (inner (m.procs[p]'(aG.aO)) (eN m)) a)(aK:Fits m s)(h:l6 m s q a=some t):Fits m t:=by
 have ye:=bo.kind;unfold l6 at h;by_cases bg:a.kind=5
 .rw[if_pos bg] at h;have aw:a.to.toNat<m.aM.length:=(bo.chan (.inr bg)).2;have hZ:=(bq.chan _ (List.getElem_mem aw)).cap.1;have eM:(chanOf m s a.to.toNat).length=1+m.aM[a.to.toNat].cap.toNat:=by rw[tL (by rw[aK.len];exact oY aw),od aw]
  unfold Bb at h;cases aO:sg (chanOf m s a.to.toNat) with
  | none=>rw[aO] at h;cases h
  | some NO =>
   obtain⟨r,n⟩:=NO;rw[aO] at h;have DH:=aK.queue _ aw;have e:chanOf m s a.to.toNat=oh m a.to.toNat m.aM[a.to.toNat] s:=by unfold chanOf oh;rw[od aw]
   rw[<-e] at DH;have Dx:=Og aO;have h1:=KF aK aw hZ (by rw[Dx,eM,od aw]) (alE eM hZ DH aO);exact Iv h1 (.inr (by rw[Nat.add_assoc];exact MU _)) h
 rw[if_neg bg] at h;by_cases he:(eval a.value (cZ m s q)).2≠0
 .rw[if_pos he] at h;cases h
 rw[if_neg he] at h;by_cases h1:a.kind=1
 .rw[if_pos h1] at h;obtain⟨_,v,aT,iF⟩:=bo.set h1;obtain⟨jD,fQ⟩:=List.getElem?_eq_some_iff.1 aT;have Ml:a.to.toNat<m.vars.length:=jD;have o9:=ts Ml
  have:cells m.vars[a.to.toNat] m.scalars=1:=by
   have Mm:m.vars[a.to.toNat]=v:=fQ;rw[Mm];unfold cells;rw[if_pos iF]
  exact Iv aK (.inl (by rw[this] at o9;omega)) h
 rw[if_neg h1] at h;by_cases U:a.kind=2
 .rw[if_pos U] at h;have jD:a.to.toNat<m.vars.length:=(bo.item U).2.1;have o9:=ts jD;have Dx:=rW jD;unfold Ax at h;split at h
  .cases h
  .rename_i aD;exact Iv aK (.inl (by omega)) h
 rw[if_neg U] at h;by_cases ag:a.kind=3
 .rw[if_pos ag] at h;exact Iv aK (.inr (by rw[Nat.add_assoc];exact MU _)) h
 rw[if_neg ag] at h;have aJ:a.kind=4:=by omega
 have aw:a.to.toNat<m.aM.length:=(bo.chan (.inl aJ)).2;have hZ:=(bq.chan _ (List.getElem_mem aw)).cap.1;have eM:(chanOf m s a.to.toNat).length=1+m.aM[a.to.toNat].cap.toNat:=by rw[tL (by rw[aK.len];exact oY aw),od aw]
 have sN:vG m a.to.toNat=fb m.aM[a.to.toNat].scalar m.aM[a.to.toNat].bf m.aM[a.to.toNat].ad m.scalars:=by unfold vG;rw[List.getElem?_eq_getElem aw]
 unfold yM at h;rw[sN] at h;split at h
 .cases h
 .rename_i aD;cases aO:qb (chanOf m s a.to.toNat) (eval a.value (cZ m s q)).1 with
  | none=>rw[aO] at h;cases h
  | some r =>
   rw[aO] at h;have e:mu s (df m a.to.toNat) r=t:=by injection h
   rw[<-e];have DH:=aK.queue _ aw;have a6:chanOf m s a.to.toNat=oh m a.to.toNat m.aM[a.to.toNat] s:=by unfold chanOf oh;rw[od aw]
   rw[<-a6] at DH;have Dx:=Nl aO;exact KF aK aw hZ (by rw[Dx,eM,od aw]) (ajl eM hZ DH (by omega) aO)
theorem RH{m:Model}(bq:eF m){q p:Nat}(aG:gr m q p):∀(l:List Act) (s t:List Int),(∀a∈l,qm (inner (m.procs[p]'(aG.aO)) (eN m)) a)->Fits m s->ku m q l s=some t->Fits m t
 | [],s,t,_,aK,h=>by injection h with h;rw[<-h];exact aK
 | a :: l,s,t,bo,aK,h=>by
  simp only[ku] at h;cases h1:l6 m s q a with
  | none=>rw[h1] at h;cases h
  | some u =>
   rw[h1] at h;exact RH bq aG l u t (fun b aC=>bo b (List.mem_cons_of_mem _ aC)) (Rz bq aG (bo a (List.mem_cons_self ..)) aK h1) h
end o
end
section
end
section
namespace o
open Go Go.RowKit bt
structure Env.ok(v:Env):Prop where
 vars:∀l∈v.vars,∀z∈l,ez z
 lens:∀z∈v.lens,ez z
 locals:∀z∈v.locals,ez z
 at_:∀l∈v.at_,∀z∈l,ez z
 self:ez v.self
end o
end
section
namespace Go.Proofs.R
open Go Go.RowKit bt
theorem Ix(v:Value)(l:List Int)(n:Int)(w:World)(aS:px w v l):bu Tryz.prog F.wF #[v,.int .i64 n] w fun v w'=>v = .tuple #[.int .i64 (o.jm l n).1,.bool (decide ((o.jm l n).2=0))]/\Ext w w':=by
 obtain⟨bl,cap,rfl,hlen⟩:=aS.form;refine bL E.wF ?_;refine bG ?_;refine aQ ?_;apply K.cond<;>intro g1
 .refine aQ ?_;rw[o.jm,o.hL (.inl g1)];exact cC
 refine aQ ?_;apply K.cond<;>intro g2
 .refine aQ ?_;rw[o.jm,o.hL (.inr (by omega))];exact cC
 obtain⟨i,rfl⟩:=Int.eq_ofNat_of_zero_le (show 0<=n by omega);obtain⟨a,rfl⟩:=aS.addr (by omega);refine aQ ?_;rw[o.jm,o.iT (by omega) (by omega)];simp only[Int.toNat_natCast];exact cC
theorem amj(l:List Int)(n:Int):(o.jm l n).2=0\/o.jm l n=(0,8):=by
 unfold o.jm;split
 .exact .inl rfl
 .exact .inr rfl
theorem yV(b:Bool)(w:World):bu Tryz.prog F.rY #[.bool b] w fun v w'=>v = .int .i64 (o.bit b)/\w'=w:=by
 refine bL E.rY ?_;refine bG ?_;refine aQ ?_;refine K.du (fun h=>?_) (fun h=>?_)
 all_goals
  subst h;refine aQ ?_;exact⟨rfl,trivial⟩
theorem NW(n:Int)(w:World):bu Tryz.prog F.yt #[.int .i64 n] w fun v w'=>v = .bool (o.within n)/\w'=w:=by
 refine bL E.yt ?_;refine bG ?_
 (repeat' (refine aQ ?_;first | (refine K.cond (fun _=>?_) (fun _=>?_)<;>try (exfalso;omega)) | refine K.du (fun _=>?_) (fun _=>?_)))<;>try refine aQ ?_
 all_goals
  refine⟨?_,bk⟩;congr 1
  first | (rw[Bool.eq_iff_iff];simp[o.within];omega) | (simp[o.within];omega)
theorem Om(a b n:Int)(w:World):bu Tryz.prog F.yr #[.int .i64 a,.int .i64 b,.int .i64 n] w
  fun v w'=>v = .tuple #[.int .i64 (if o.within a&&o.within b&&o.within n then n else 0),.bool (o.within a&&o.within b&&o.within n)]/\w'=w:=by
 refine bL E.yr ?_;refine bG ?_;refine aQ ?_;refine K.call (NW a w) ?_;rintro _ _ ⟨rfl,rfl⟩;refine aQ ?_;cases h1:o.within a with
 | false =>
  refine aQ ?_;exact⟨by simp,trivial⟩
 | true =>
  refine aQ ?_;refine K.call (NW b _) ?_;rintro _ _ ⟨rfl,rfl⟩;refine aQ ?_;cases U:o.within b with
  | false =>
   refine aQ ?_;exact⟨by simp,trivial⟩
  | true =>
   refine aQ ?_;refine K.call (NW n _) ?_;rintro _ _ ⟨rfl,rfl⟩;refine aQ ?_;cases ag:o.within n with
   | false =>
    refine aQ ?_;exact⟨by simp,trivial⟩
   | true =>
    refine aQ ?_;exact⟨by simp,trivial⟩
theorem On(f:Int->Int->Int)(a b n:Int)(h:o.within a=true->o.within b=true->n=f a b) :
  (if (o.within a&&o.within b&&o.within n)=true then n else 0)=(o.tell f a b).1/\(o.within a&&o.within b&&o.within n)=(o.tell f a b).2:=by
 unfold o.tell;cases h1:o.within a with
 | false=>simp
 | true =>
  cases U:o.within b with
  | false=>simp
  | true =>
   rw[h h1 U];cases ag:o.within (f a b)<;>simp
theorem ajH:sj F.D4 (o.tell (· + ·)):=by
 intro a b w;refine bL E.D4 ?_;refine bG ?_;refine aQ ?_;refine K.I4 ?_;refine aQ ?_;refine K.call (Om a b _ w) ?_;rintro _ _ ⟨rfl,rfl⟩;obtain⟨h1,U⟩:=On (· + ·) a b (IntKind.i64.wrap (a+b)) (fun h1 U=>by simp[o.within] at h1 U;exact IntWalk.i64_in _ (by omega));rw[h1,U];refine aQ ?_;exact cC
theorem XR:sj F.AF (o.tell (· - ·)):=by
 intro a b w;refine bL E.AF ?_;refine bG ?_;refine aQ ?_;refine K.I4 ?_;refine aQ ?_;refine K.call (Om a b _ w) ?_;rintro _ _ ⟨rfl,rfl⟩;obtain⟨h1,U⟩:=On (· - ·) a b (IntKind.i64.wrap (a - b)) (fun h1 U=>by simp[o.within] at h1 U;exact IntWalk.i64_in _ (by omega));rw[h1,U];refine aQ ?_;exact cC
theorem akb:sj F.D5 (o.tell (· * ·)):=by
 intro a b w;refine bL E.D5 ?_;refine bG ?_;refine aQ ?_;refine K.I4 ?_;refine aQ ?_;refine K.call (Om a b _ w) ?_;rintro _ _ ⟨rfl,rfl⟩;obtain⟨h1,U⟩:=On (· * ·) a b (IntKind.i64.wrap (a*b)) (fun h1 U=>by simp[o.within] at h1 U;have:=WG h1 U;exact IntWalk.i64_in _ (by omega));rw[h1,U];refine aQ ?_;exact cC
def ql(op a b:Int):Int×Int:=match o.gI op with | some al=>o.Ox al [a,b] | none=>(0,0)
theorem ajK(op a b:Int)(w:World)(lv:11<=op/\op<=19) :
  bu Tryz.prog F.D8 #[.int .i64 op,.int .i64 a,.int .i64 b] w fun v w'=>v = .tuple #[.int .i64 (ql op a b).1,.int .i64 (ql op a b).2]/\Ext w w':=by
 have num:∀f:Int->Int->Int×Bool,(if (f a b).2=true then ((f a b).1,(0:Int)) else (0,10))=(let r:=f a b;if r.2=true then (r.1,0) else (0,10)):=fun _=>rfl;have aw:op=11\/op=12\/op=13\/op=14\/op=15\/op=16\/op=17\/op=18\/op=19:=by omega
 refine bL E.D8 ?_;refine bG ?_;rcases aw with e | e | e | e | e | e | e | e | e
 .have key:ql op a b=if (o.tell (· + ·) a b).2=true then ((o.tell (· + ·) a b).1,0) else (0,10):=by subst e;rfl
  rw[key];refine aQ ?_;refine K.call (ajH a b w) ?_;rintro _ av ⟨rfl,aB⟩;refine aQ ?_;refine K.du (fun h=>?_) (fun h=>?_)
  all_goals
   refine aQ ?_;rw[h];exact cC
 .have key:ql op a b=if (o.tell (· - ·) a b).2=true then ((o.tell (· - ·) a b).1,0) else (0,10):=by subst e;rfl
  rw[key];refine aQ ?_;refine K.call (XR a b w) ?_;rintro _ av ⟨rfl,aB⟩;refine aQ ?_;refine K.du (fun h=>?_) (fun h=>?_)
  all_goals
   refine aQ ?_;rw[h];exact cC
 .have key:ql op a b=if (o.tell (· * ·) a b).2=true then ((o.tell (· * ·) a b).1,0) else (0,10):=by subst e;rfl
  rw[key];refine aQ ?_;refine K.call (akb a b w) ?_;rintro _ av ⟨rfl,aB⟩;refine aQ ?_;refine K.du (fun h=>?_) (fun h=>?_)
  all_goals
   refine aQ ?_;rw[h];exact cC
 .have key:ql op a b=(o.bit (decide (a=b)),0):=by subst e;rfl
  rw[key];refine aQ ?_;refine K.call (yV _ w) ?_;rintro _ _ ⟨rfl,rfl⟩;refine aQ ?_;exact cC
 .have key:ql op a b=(o.bit (!decide (a=b)),0):=by subst e;rfl
  rw[key];refine aQ ?_;refine K.call (yV _ w) ?_;rintro _ _ ⟨rfl,rfl⟩;refine aQ ?_;exact cC
 .have key:ql op a b=(o.bit (decide (a<b)),0):=by subst e;rfl
  rw[key];refine aQ ?_;refine K.call (yV _ w) ?_;rintro _ _ ⟨rfl,rfl⟩;refine aQ ?_;exact cC
 .have key:ql op a b=(o.bit (decide (a<=b)),0):=by subst e;rfl
  rw[key];refine aQ ?_;refine K.call (yV _ w) ?_;rintro _ _ ⟨rfl,rfl⟩;refine aQ ?_;exact cC
 .have key:ql op a b=(o.bit (!decide (a=0) && !decide (b=0)),0):=by subst e;rfl
  rw[key];refine aQ ?_;refine K.cond (fun h1=>?_) (fun h1=>?_)
  all_goals
   refine aQ ?_;refine K.call (yV _ w) ?_;rintro _ _ ⟨rfl,rfl⟩;refine aQ ?_;refine⟨?_,fL⟩;simp[h1]
 .have key:ql op a b=(o.bit (!decide (a=0) || !decide (b=0)),0):=by subst e;rfl
  rw[key];refine aQ ?_;refine K.cond (fun h1=>?_) (fun h1=>?_)
  all_goals
   refine aQ ?_;refine K.call (yV _ w) ?_;rintro _ _ ⟨rfl,rfl⟩;refine aQ ?_;refine⟨?_,fL⟩;simp[h1]
end Go.Proofs.R
end
section
namespace Go.Proofs.R
open Go Go.RowKit bt
theorem IZ(l:List Int)(n:Int):(decide ((o.jm l n).2=0)=true->o.jm l n=((o.jm l n).1,0))/\(decide ((o.jm l n).2=0)=false->o.jm l n=(0,8)):=by
 rcases amj l n with h | h
 .exact⟨fun _=>Prod.ext rfl h,fun bE=>by simp[h] at bE⟩
 .exact⟨fun bE=>by simp[h] at bE,fun _=>h⟩
theorem akw(x:o.Node)(cs:List Value)(v:o.Env)(w:World)(au:x.ok)(h:o.tv w cs v)(ag:x.op≠3)(t:Int) :
  bu Tryz.prog F.Ed #[.agg x.enc.toArray,.agg cs.toArray] w fun u w'=>u = .tuple #[.int .i64 (o.iZ x v t).1,.int .i64 (o.iZ x v t).2]/\Ext w w':=by
 obtain⟨a0,bS,dD,c1,a2,c2,a3,bP,rfl,qc,dH,dM,eh,hc,eI,ej,eo,dX⟩:=h.form;refine bL E.Ed ?_;refine bG ?_;refine aQ ?_;refine K.new fun av bC cR aB ao=>?_;refine aQ ?_;refine K.new fun aU cr dQ aA aP=>?_;have he:=aB.trans aA;have dc:aU.heap[bC]? = some (.cells #[.int .i64 x.op,.int .i64 x.n] T.f):=aA.obj ao;clear ao;refine aQ ?_;apply K.cond<;>intro g1
 .have hk:o.iZ x v t=if o.within x.n then (x.n,0) else (0,10):=by rw[o.iZ,if_pos g1]
  (repeat' (refine aQ ?_;first | (refine K.cond (fun _=>?_) (fun _=>?_)<;>try (exfalso;omega)) | refine K.du (fun _=>?_) (fun _=>?_)))<;>try refine aQ ?_
  all_goals
   refine⟨?_,fL⟩;rw[hk];unfold o.within;split<;>first | rfl | (rename_i dm;simp at dm;exfalso;omega)
 refine aQ ?_;apply K.cond<;>intro g2
 .by_cases KK:x.n<0\/(v.vars.length:Int)<=x.n
  .have hk:o.iZ x v t=(0,8):=by rw[o.iZ,if_neg g1,if_pos g2,o.hL KK]
   rw[hk]
   (repeat' (refine aQ ?_;first | (refine K.cond (fun _=>?_) (fun _=>?_)<;>try (exfalso;omega)) | refine K.du (fun _=>?_) (fun _=>?_)))<;>try refine aQ ?_
   all_goals exact cC
  obtain⟨i,ad⟩:=Int.eq_ofNat_of_zero_le (show 0<=x.n by omega);have qM:i<v.vars.length:=by omega
  obtain⟨a,rfl⟩:=qc.addr (by omega);obtain⟨cy,lS,jB⟩:=qc.at i qM;have aD:o.nth v.vars x.n=some v.vars[i]:=by rw[ad,o.iT (by omega) (by omega)];simp only[Int.toNat_natCast]
  have hk:o.iZ x v t=o.jm v.vars[i] 0:=by rw[o.iZ,if_neg g1,if_pos g2,aD]
  rw[hk];rw[ad] at dc;refine aQ ?_;refine K.ld (he.cell lS) ?_;refine aQ ?_;refine K.call (Ix _ v.vars[i] 0 aU (jB.ext he)) ?_;rintro _ bb ⟨rfl,ax⟩;obtain⟨kI,kq⟩:=IZ v.vars[i] 0;refine aQ ?_;refine K.du (fun g=>?_) (fun g=>?_)
  .refine aQ ?_;rw[kI g];exact cC
  .refine aQ ?_;rw[kq g];exact cC
 refine aQ ?_;apply K.cond<;>intro g4
 .have hk:o.iZ x v t=o.jm v.locals x.n:=by rw[o.iZ,if_neg g1,if_neg g2,if_neg ag,if_pos g4]
  rw[hk];refine aQ ?_;refine K.call (Ix _ v.locals x.n aU (dM.ext he)) ?_;rintro _ bb ⟨rfl,ax⟩;obtain⟨kI,kq⟩:=IZ v.locals x.n;refine aQ ?_;refine K.du (fun g=>?_) (fun g=>?_)
  .refine aQ ?_;rw[kI g];exact cC
  .refine aQ ?_;rw[kq g];exact cC
 refine aQ ?_;apply K.cond<;>intro g5
 .have hk:o.iZ x v t=(v.self,0):=by rw[o.iZ,if_neg g1,if_neg g2,if_neg ag,if_neg g4,if_neg (by omega),if_pos g5]
  rw[hk];refine aQ ?_;exact cC
 refine aQ ?_;apply K.cond<;>intro g6
 .have hk:o.iZ x v t=o.jm v.lens x.n:=by rw[o.iZ,if_neg g1,if_neg g2,if_neg ag,if_neg g4,if_pos g6]
  rw[hk];refine aQ ?_;refine K.call (Ix _ v.lens x.n aU (dH.ext he)) ?_;rintro _ bb ⟨rfl,ax⟩;obtain⟨kI,kq⟩:=IZ v.lens x.n;refine aQ ?_;refine K.du (fun g=>?_) (fun g=>?_)
  .refine aQ ?_;rw[kI g];exact cC
  .refine aQ ?_;rw[kq g];exact cC
 refine aQ ?_;apply K.cond<;>intro g7;rotate_left
 .have hk:o.iZ x v t=(0,0):=by rw[o.iZ,if_neg g1,if_neg g2,if_neg ag,if_neg g4,if_neg g6,if_neg g5,if_neg g7]
  rw[hk];refine aQ ?_;exact cC
 have hk:o.iZ x v t=if 0<=x.n then (match o.nth v.at_ (x.n.tdiv 16) with | some l=>o.jm l (x.n.tmod 16) | none=>(0,8)) else (0,8):=by
  rw[o.iZ,if_neg g1,if_neg g2,if_neg ag,if_neg g4,if_neg g6,if_neg g5,if_pos g7];split
  .cases o.nth v.at_ (x.n.tdiv 16)<;>rfl
  .rfl
 refine aQ ?_;apply K.cond<;>intro g8
 .rw[hk,if_neg (by omega)];refine aQ ?_;exact cC
 rw[if_pos (by omega)] at hk;obtain⟨i,ad⟩:=Int.eq_ofNat_of_zero_le (show 0<=x.n by omega);obtain⟨_,hA⟩:=au.n;rw[ad] at hA;have aG:x.n.tdiv 16=((i / 16:Nat):Int):=by rw[ad];rfl
 have aor:x.n.tmod 16=((i % 16:Nat):Int):=by rw[ad];rfl
 refine aQ ?_;refine K.quo (by omega) ?_;rw[aG];refine aQ ?_;apply K.cond<;>intro g9
 .rw[hk,o.hL (.inr (by omega))];refine aQ ?_;exact cC
 have aR:i / 16<v.at_.length:=by omega
 obtain⟨a,rfl⟩:=eh.addr (by omega);obtain⟨cy,lS,jB⟩:=eh.at (i / 16) aR;rw[aG,o.iT (by omega) (by omega)] at hk;simp only[Int.toNat_natCast] at hk;rw[hk];refine aQ ?_;refine K.quo (by omega) ?_;rw[aG];refine aQ ?_;refine K.ld (he.cell lS) ?_;refine aQ ?_;refine K.rem (by omega) ?_;refine aQ ?_;refine K.gB _ (fun w' e=>Ix _ v.at_[i / 16] _ w' (jB.ext (he.trans e))) ?_;obtain⟨kI,kq⟩:=IZ v.at_[i / 16] (x.n.tmod 16);refine aQ ?_;intro bb ax;refine aQ ?_;refine K.du (fun g=>?_) (fun g=>?_)
 .refine aQ ?_;rw[kI g];exact cC
 .refine aQ ?_;rw[kq g];exact cC
def r6(x:o.Node)(k:Int)(v:o.Env):Int×Int:=match o.gI x.op with | some al=>o.Ox al [k] | none=>o.iZ x v k
theorem aj9(x:o.Node)(k:Int)(cs:List Value)(v:o.Env)(w:World)(h:o.tv w cs v)(lv:x.op=3\/x.op=9\/x.op=10) :
  bu Tryz.prog F.D9 #[.agg x.enc.toArray,.int .i64 k,.agg cs.toArray] w fun u w'=>u = .tuple #[.int .i64 (r6 x k v).1,.int .i64 (r6 x k v).2]/\Ext w w':=by
 obtain⟨a0,bS,dD,c1,a2,c2,a3,bP,rfl,qc,dH,dM,eh,hc,eI,ej,eo,dX⟩:=h.form;refine bL E.D9 ?_;refine bG ?_;refine aQ ?_;refine K.new fun av bC cR aB ao=>?_;refine aQ ?_;refine K.new fun aU cr dQ aA aP=>?_;have he:=aB.trans aA;have dc:aU.heap[bC]? = some (.cells #[.int .i64 x.op,.int .i64 x.n] T.f):=aA.obj ao;clear ao;refine aQ ?_;apply K.cond<;>intro g9
 .have hk:r6 x k v=(o.bit (decide (k=0)),0):=by rw[r6,g9];rfl
  rw[hk];refine aQ ?_;refine K.call (yV _ aU) ?_;rintro _ _ ⟨rfl,rfl⟩;refine aQ ?_;exact cC
 refine aQ ?_;apply K.cond<;>intro g10
 .have hk:r6 x k v=if (o.tell (· - ·) 0 k).2=true then ((o.tell (· - ·) 0 k).1,0) else (0,10):=by rw[r6,g10];rfl
  rw[hk];refine aQ ?_;refine K.call (XR 0 k aU) ?_;rintro _ bb ⟨rfl,ax⟩;refine aQ ?_;refine K.du (fun g=>?_) (fun g=>?_)
  all_goals
   refine aQ ?_;rw[g];exact cC
 have g3:x.op=3:=by omega
 have yc:r6 x k v=o.iZ x v k:=by rw[r6,show o.gI x.op=none from by rw[g3];rfl]
 have hk:r6 x k v=(match o.nth v.vars x.n with | some l=>(match o.nth l (k - 1) with | some y=>(y,0) | none=>(0,10)) | none=>(0,8)):=by
  rw[yc,o.iZ,if_neg (by omega),if_neg (by omega),if_pos g3];cases o.nth v.vars x.n with
  | none=>rfl
  | some l=>simp only;cases o.nth l (k - 1)<;>rfl
 clear yc;by_cases KK:x.n<0\/(v.vars.length:Int)<=x.n
 .rw[o.hL KK] at hk;rw[hk]
  (repeat' (refine aQ ?_;first | (refine K.cond (fun _=>?_) (fun _=>?_)<;>try (exfalso;omega)) | refine K.du (fun _=>?_) (fun _=>?_)))<;>try refine aQ ?_
  all_goals exact cC
 obtain⟨i,ad⟩:=Int.eq_ofNat_of_zero_le (show 0<=x.n by omega);have qM:i<v.vars.length:=by omega
 obtain⟨a,rfl⟩:=qc.addr (by omega);obtain⟨cy,lS,jB⟩:=qc.at i qM;obtain⟨cU,ci,rfl,li⟩:=jB.form;rw[ad,o.iT (by omega) (by omega)] at hk;simp only[Int.toNat_natCast] at hk;rw[ad] at dc;have jj:=jB.ext he;generalize v.vars[i]=l at *;by_cases anz:k<1\/(l.length:Int)<k
 .rw[o.hL (by omega)] at hk;simp only at hk;rw[hk];by_cases anA:k<1
  .refine aQ ?_;exact cC
  .refine aQ ?_;refine K.ld (he.cell lS) ?_;refine aQ ?_;exact cC
 obtain⟨j,aR⟩:=Int.eq_ofNat_of_zero_le (show 0<=k - 1 by omega);have p0:j<l.length:=by omega
 rw[o.iT (by omega) (by omega)] at hk;simp only[aR,Int.toNat_natCast] at hk;rw[hk];obtain⟨di,rfl⟩:=jB.addr (by omega);refine aQ ?_;refine K.ld (he.cell lS) ?_;refine aQ ?_;refine K.ld (he.cell lS) ?_;refine aQ ?_;refine K.dp j (by omega) (by omega) ?_;refine aQ ?_;exact cC
end Go.Proofs.R
end
section
namespace Go.Proofs.R
open Go Go.RowKit bt
theorem acO{v:o.Env}{x:o.Node}{st:List Int}(h:o.e0 x.op=0):o.je v x st=o.iZ x v (st.getLastD 0):=by
 unfold o.je;rw[(Im h).2.2.2]
theorem acP{v:o.Env}{x:o.Node}{st:List Int}(h:o.e0 x.op=1)(aS:1<=st.length):o.je v x st=r6 x st[st.length - 1] v:=by
 unfold o.je r6;cases bc:o.gI x.op with
 | none=>simp only;rw[KJ st (by omega)]
 | some al =>
  have:=(o.ER bc).1
  simp only;rw[show al.parts.toNat=1 from by omega,Ki aS]
theorem acQ{v:o.Env}{x:o.Node}{st:List Int}(h:o.e0 x.op=2)(aS:2<=st.length):o.je v x st=ql x.op st[st.length - 2] st[st.length - 1]:=by
 unfold o.je ql;obtain⟨al,bc,aO⟩:=WZ (show 9<=x.op/\x.op<=19 by have:=Io h;omega);rw[bc];simp only;rw[show al.parts.toNat=2 from by omega,Ss aS]
theorem Iy(ht:Value)(e:List o.Node)(cs:List Value)(v:o.Env)(w:World)(he:o.fW w ht e)(h:o.tv w cs v) :
  bu Tryz.prog F.wD #[ht,.agg cs.toArray] w fun u w'=>u = .tuple #[.int .i64 (o.eval e v).1,.int .i64 (o.eval e v).2]/\Ext w w':=by
 obtain⟨v0,v1,v2,v3,rfl,_⟩:=h.ex;obtain⟨bl,cap,rfl,hlen⟩:=he.form;refine bL E.wD ?_;refine bG ?_;refine aQ ?_;refine K.new fun av dy wm aB ao=>?_;refine aQ ?_;apply K.cond<;>intro g1
 .refine aQ ?_;rw[o.eval,o.ko,if_pos (by omega)];exact cC
 refine aQ ?_;apply K.cond<;>intro g2
 .refine aQ ?_;rw[o.eval,o.ko,if_neg (by omega),if_pos (by omega)];exact cC
 refine aQ ?_;refine K.zX 7 e.length (fun k S w' => ∃u st,S 6=u/\l4 av.heap.size w' u st/\o.eS (o.je v) (e.take k) []=(0,st)/\(0<k->1<=st.length)/\st.length<=12/\Ext av w')
  (by simp -dsimp only[c4,cF,Nat.reduceAdd,Nat.reduceEqDiff,reduceIte,reduceCtorEq,db]) ⟨.slice none 0 0,[],by simp -dsimp only[c4,cF,Nat.reduceAdd,Nat.reduceEqDiff,reduceIte,reduceCtorEq,db],bs.nil _ _ _ _ _,by simp[o.eS],by simp,by simp,Ext.refl _⟩ ?_
 rintro k S aU cg hk cj ⟨v6,st,bO,gj,hn,CT,qH,aA⟩;have ak:=cg 0 rfl;have ag:=cg 3 rfl;simp only[cu,Nat.reduceAdd,Nat.reduceEqDiff,reduceIte,jg,me] at ak ag;clear cg;obtain⟨wL,tI,rfl,ct,lU⟩:=gj.form;have ad:Ints aU _ st:=bs.pq (enc:=encI) (sz:=1) (fun _=>rfl) gj;unfold maxLen at lU;refine dq (zI ak (zI ag (zI bO cj))) ?_;apply K.cond<;>intro g3;rotate_left
 .have br:k=e.length:=by omega
  subst br;rw[List.take_length] at hn;have h1:=CT (by omega);obtain⟨a,rfl⟩:=ad.addr h1;have fF:o.eval e v=if st.length > 1 then (0,5) else (st.headD 0,0):=by
   rw[o.eval,o.ko,if_neg (by omega),if_neg (by omega),hn,if_neg (by simp)]
  rw[fF];clear fF;refine dq (zI ak (zI ag (zI bO cj))) ?_;apply K.cond<;>intro g4
  .refine aQ ?_;rw[if_pos (by omega)];exact cC
  .refine dq (zI ak (zI ag (zI bO cj))) ?_;refine K.dp 0 rfl (by omega) ?_;refine aQ ?_;rw[if_neg (by omega)]
   have:st.headD 0=st[0]:=by
    cases st with
    | nil=>simp at h1
    | cons z st=>rfl
   rw[this];exact cC
 have br:k<e.length:=by omega
 obtain⟨a,rfl⟩:=he.addr (by omega);have s5:=(he.at k br).ok;have jW:=fun ak=>o.NT (f:=o.je v) (e:=e) (by omega) br hn ak;have sY:=o.wT br hn;have CR:=aB.trans aA;have eC:=aA.obj ao;refine dq (zI ak (zI ag (zI bO cj))) ?_;refine K.call (Yv e[k].op aU) ?_;rintro _ _ ⟨rfl,rfl⟩;generalize aD:o.e0 e[k].op=n at *;have ki : -1<=n/\n<=2:=by rw[<-aD];unfold o.e0; (repeat' split)<;>omega
 refine dq (zI ak (zI ag (zI bO cj))) ?_;apply K.cond<;>intro g4
 .have ay:o.stepG (o.je v) e[k] st=(3,st):=by unfold o.stepG;rw[aD,if_pos g4]
  rw[ay] at jW;refine aQ ?_;rw[o.eval,jW (by simp)];exact cC
 refine dq (zI ak (zI ag (zI bO cj))) ?_;apply K.cond<;>intro g5
 .have ay:o.stepG (o.je v) e[k] st=(4,st):=by unfold o.stepG;rw[aD,if_neg g4,if_pos g5]
  rw[ay] at jW;refine aQ ?_;rw[o.eval,jW (by simp)];exact cC
 obtain⟨p,rfl⟩:=Int.eq_ofNat_of_zero_le (show 0<=n by omega);have eD:o.stepG (o.je v) e[k] st=if (o.je v e[k] st).2≠0 then ((o.je v e[k] st).2,st) else if (st.take (st.length - p)++[(o.je v e[k] st).1]).length > 12 then (12,st) else (0,st.take (st.length - p)++[(o.je v e[k] st).1]):=by
  unfold o.stepG;rw[aD,if_neg g4,if_neg g5];simp only[Int.toNat_natCast]
 have ik:(st.take (st.length - p)++[(o.je v e[k] st).1]).length=st.length - p+1:=by simp[List.length_take]
 rw[ik] at eD;have fin:p=0\/p=1\/p=2:=by omega
 rcases fin with yg | yg | yg
 .have aK:=acO (v:=v) (st:=st) (x:=e[k]) (by omega);obtain⟨gh,z2,z3,z4⟩:=Im (x:=e[k].op) (by omega);refine dq (zI ak (zI ag (zI bO cj))) ?_;refine K.gS (c:=[_,_,_,_,_]) eC (Ext.refl _) rfl ?_;refine dq (zI ak (zI ag (zI bO cj))) ?_;refine K.gB _ (fun w' e'=>akw e[k] _ v w' s5 (h.ext (CR.trans e')) z3 (st.getLastD 0)) ?_;rw[<-aK];refine dq (zI ak (zI ag (zI bO cj))) ?_;intro bb ax;refine dq (zI ak (zI ag (zI bO cj))) ?_;apply K.cond<;>intro g6;rotate_left
  .rw[if_pos g6] at eD;refine aQ ?_;rw[o.eval,jW (by rw[eD];exact g6),eD];exact cC
  rw[if_neg (by simpa using g6)] at eD;have fO:=gj.ext ax;refine dq (zI ak (zI ag (zI bO cj))) ?_;refine K.lk (cs:=[]) (by simp[List.range,List.range.loop,eQ]) fun bp cM fM aN bA=>?_;have z12:=aA.size;have z23:=ax.size;have Bx:=aN.size;have pS:l4 av.heap.size bp (.slice (some ⟨cM,0,none⟩) 0 0) []:=bs.empty (by omega) bA;have fq:=fO.ext aN;have eG:l4 av.heap.size bp (.slice _ (st.length - p) _) (st.take (st.length - p)):=bs.head (enc:=encI) (sz:=1) (xs:=st) (fun _=>rfl) fq (st.length - p) (Nat.sub_le _ _);have cw:(st.take (st.length - p)).length=st.length - p:=by simp[List.length_take]
  refine dq (zI ak (zI ag (zI bO cj))) ?_;refine K.tm (st.length - p) (by simp -dsimp only[c4,cF,Nat.reduceAdd,Nat.reduceEqDiff,reduceIte,reduceCtorEq,db,bO];first | rfl | (congr 1;omega)) (by omega) ?_;refine aQ ?_;refine K.zr (xs:=[]) (ys:=st.take (st.length - p)) pS eG (fun _=>rfl) qE (by rw[cw];simp only[List.length_nil];omega) (by rw[cw];simp only[List.length_nil,maxLen];omega) (by omega) fun v5 bR mZ kx=>?_;have mY:Ext bb bR:=aN.grown kx fun q aG=>by simp[Value.ownBlock] at aG;omega
  rw[List.nil_append] at mZ;have z35:=mY.size;refine aQ ?_;refine K.lk (cs:=[(o.je v e[k] st).1].flatMap encI) (by simp[List.range,List.range.loop,eQ,lay,ft,cu,Value.cells,encI]) fun bY ek e6 a8 ct=>?_;have y3:=a8.size;have dO:=mZ.ext a8;refine aQ ?_;refine K.su (xs:=st.take (st.length - p)) (ys:=[(o.je v e[k] st).1]) dO (fun _=>rfl) (hl ct) rfl qE (by rw[cw];simp only[List.length_cons,List.length_nil];omega) (by rw[cw];simp only[List.length_cons,List.length_nil,maxLen];omega) (by omega) fun Bs cd ew jV=>?_;have bJ:Ext av cd:=Ext.grown (((aA.trans ax).trans mY).trans a8) jV fun q aG=>(dO.lt q aG).1;obtain⟨EP,pK,rfl,_⟩:=ew.form;rw[ik] at ew ⊢;by_cases g7:12<st.length - p+1
  .rw[if_pos (by omega)] at eD
   first
    | (exfalso;omega)
    | (refine aQ ?_
       rw[o.eval,jW (by rw[eD];simp),eD];exact⟨bk,aB.trans bJ⟩)
  rw[if_neg (by omega)] at eD;refine dq cj ?_;refine⟨br,bk,_,_,rfl,ew,by rw[sY,eD],fun _=>by rw[ik];omega,by rw[ik];omega,bJ⟩
 .have aK:=acP (v:=v) (st:=st) (x:=e[k]) (by omega) (by omega);obtain⟨lb,rfl⟩:=ad.addr (by omega);refine dq (zI ak (zI ag (zI bO cj))) ?_;refine K.dp (st.length - 1) (by omega) (by omega) ?_;refine dq (zI ak (zI ag (zI bO cj))) ?_;refine K.gS (c:=[_,_,_,_,_]) eC (Ext.refl _) rfl ?_;refine dq (zI ak (zI ag (zI bO cj))) ?_;refine K.gB _ (fun w' e'=>aj9 e[k] _ _ v w' (h.ext (CR.trans e')) (WS (by omega))) ?_;rw[<-aK];refine dq (zI ak (zI ag (zI bO cj))) ?_;intro bb ax;refine dq (zI ak (zI ag (zI bO cj))) ?_;apply K.cond<;>intro g6;rotate_left
  .rw[if_pos g6] at eD;refine aQ ?_;rw[o.eval,jW (by rw[eD];exact g6),eD];exact cC
  rw[if_neg (by simpa using g6)] at eD;have fO:=gj.ext ax;refine dq (zI ak (zI ag (zI bO cj))) ?_;refine K.lk (cs:=[]) (by simp[List.range,List.range.loop,eQ]) fun bp cM fM aN bA=>?_;have z12:=aA.size;have z23:=ax.size;have Bx:=aN.size;have pS:l4 av.heap.size bp (.slice (some ⟨cM,0,none⟩) 0 0) []:=bs.empty (by omega) bA;have fq:=fO.ext aN;have eG:l4 av.heap.size bp (.slice _ (st.length - p) _) (st.take (st.length - p)):=bs.head (enc:=encI) (sz:=1) (xs:=st) (fun _=>rfl) fq (st.length - p) (Nat.sub_le _ _);have cw:(st.take (st.length - p)).length=st.length - p:=by simp[List.length_take]
  refine dq (zI ak (zI ag (zI bO cj))) ?_;refine K.tm (st.length - p) (by simp -dsimp only[c4,cF,Nat.reduceAdd,Nat.reduceEqDiff,reduceIte,reduceCtorEq,db,bO];first | rfl | (congr 1;omega)) (by omega) ?_;refine aQ ?_;refine K.zr (xs:=[]) (ys:=st.take (st.length - p)) pS eG (fun _=>rfl) qE (by rw[cw];simp only[List.length_nil];omega) (by rw[cw];simp only[List.length_nil,maxLen];omega) (by omega) fun v5 bR mZ kx=>?_;have mY:Ext bb bR:=aN.grown kx fun q aG=>by simp[Value.ownBlock] at aG;omega
  rw[List.nil_append] at mZ;have z35:=mY.size;refine aQ ?_;refine K.lk (cs:=[(o.je v e[k] st).1].flatMap encI) (by simp[List.range,List.range.loop,eQ,lay,ft,cu,Value.cells,encI]) fun bY ek e6 a8 ct=>?_;have y3:=a8.size;have dO:=mZ.ext a8;refine aQ ?_;refine K.su (xs:=st.take (st.length - p)) (ys:=[(o.je v e[k] st).1]) dO (fun _=>rfl) (hl ct) rfl qE (by rw[cw];simp only[List.length_cons,List.length_nil];omega) (by rw[cw];simp only[List.length_cons,List.length_nil,maxLen];omega) (by omega) fun Bs cd ew jV=>?_;have bJ:Ext av cd:=Ext.grown (((aA.trans ax).trans mY).trans a8) jV fun q aG=>(dO.lt q aG).1;obtain⟨EP,pK,rfl,_⟩:=ew.form;rw[ik] at ew ⊢;by_cases g7:12<st.length - p+1
  .rw[if_pos (by omega)] at eD
   first
    | (exfalso;omega)
    | (refine aQ ?_
       rw[o.eval,jW (by rw[eD];simp),eD];exact⟨bk,aB.trans bJ⟩)
  rw[if_neg (by omega)] at eD;refine dq cj ?_;refine⟨br,bk,_,_,rfl,ew,by rw[sY,eD],fun _=>by rw[ik];omega,by rw[ik];omega,bJ⟩
 .have aK:=acQ (v:=v) (st:=st) (x:=e[k]) (by omega) (by omega);obtain⟨lb,rfl⟩:=ad.addr (by omega);refine dq (zI ak (zI ag (zI bO cj))) ?_;refine K.dp (st.length - 2) (by omega) (by omega) ?_;refine dq (zI ak (zI ag (zI bO cj))) ?_;refine K.dp (st.length - 1) (by omega) (by omega) ?_;refine dq (zI ak (zI ag (zI bO cj))) ?_;refine K.gB _ (fun w' e'=>ajK e[k].op _ _ w' (Io (by omega))) ?_;rw[<-aK];refine dq (zI ak (zI ag (zI bO cj))) ?_;intro bb ax;refine dq (zI ak (zI ag (zI bO cj))) ?_;apply K.cond<;>intro g6;rotate_left
  .rw[if_pos g6] at eD;refine aQ ?_;rw[o.eval,jW (by rw[eD];exact g6),eD];exact cC
  rw[if_neg (by simpa using g6)] at eD;have fO:=gj.ext ax;refine dq (zI ak (zI ag (zI bO cj))) ?_;refine K.lk (cs:=[]) (by simp[List.range,List.range.loop,eQ]) fun bp cM fM aN bA=>?_;have z12:=aA.size;have z23:=ax.size;have Bx:=aN.size;have pS:l4 av.heap.size bp (.slice (some ⟨cM,0,none⟩) 0 0) []:=bs.empty (by omega) bA;have fq:=fO.ext aN;have eG:l4 av.heap.size bp (.slice _ (st.length - p) _) (st.take (st.length - p)):=bs.head (enc:=encI) (sz:=1) (xs:=st) (fun _=>rfl) fq (st.length - p) (Nat.sub_le _ _);have cw:(st.take (st.length - p)).length=st.length - p:=by simp[List.length_take]
  refine dq (zI ak (zI ag (zI bO cj))) ?_;refine K.tm (st.length - p) (by simp -dsimp only[c4,cF,Nat.reduceAdd,Nat.reduceEqDiff,reduceIte,reduceCtorEq,db,bO];first | rfl | (congr 1;omega)) (by omega) ?_;refine aQ ?_;refine K.zr (xs:=[]) (ys:=st.take (st.length - p)) pS eG (fun _=>rfl) qE (by rw[cw];simp only[List.length_nil];omega) (by rw[cw];simp only[List.length_nil,maxLen];omega) (by omega) fun v5 bR mZ kx=>?_;have mY:Ext bb bR:=aN.grown kx fun q aG=>by simp[Value.ownBlock] at aG;omega
  rw[List.nil_append] at mZ;have z35:=mY.size;refine aQ ?_;refine K.lk (cs:=[(o.je v e[k] st).1].flatMap encI) (by simp[List.range,List.range.loop,eQ,lay,ft,cu,Value.cells,encI]) fun bY ek e6 a8 ct=>?_;have y3:=a8.size;have dO:=mZ.ext a8;refine aQ ?_;refine K.su (xs:=st.take (st.length - p)) (ys:=[(o.je v e[k] st).1]) dO (fun _=>rfl) (hl ct) rfl qE (by rw[cw];simp only[List.length_cons,List.length_nil];omega) (by rw[cw];simp only[List.length_cons,List.length_nil,maxLen];omega) (by omega) fun Bs cd ew jV=>?_;have bJ:Ext av cd:=Ext.grown (((aA.trans ax).trans mY).trans a8) jV fun q aG=>(dO.lt q aG).1;obtain⟨EP,pK,rfl,_⟩:=ew.form;rw[ik] at ew ⊢;by_cases g7:12<st.length - p+1
  .rw[if_pos (by omega)] at eD
   first
    | (exfalso;omega)
    | (refine aQ ?_
       rw[o.eval,jW (by rw[eD];simp),eD];exact⟨bk,aB.trans bJ⟩)
  rw[if_neg (by omega)] at eD;refine dq cj ?_;refine⟨br,bk,_,_,rfl,ew,by rw[sY,eD],fun _=>by rw[ik];omega,by rw[ik];omega,bJ⟩
end Go.Proofs.R
end
section
namespace o
open Go
theorem Tb{m:Model}(bq:eF m){s:List Int}(aK:Fits m s):∀x∈s,-9223372036854775808<=x/\x<=9223372036854775807:=fun x au=>by
 obtain⟨i,ad,rfl⟩:=List.mem_iff_getElem.1 au;have bE:i<(cc m).length:=by have:=aK.len;unfold eA at this;omega
 have h1:=aK.cell i ad bE;have U:=aaW bq _ (List.getElem_mem bE);obtain⟨bC,cr,b5⟩:=U;omega
structure Jj(v:Env):Prop where
 vars:∀l∈v.vars,∀x∈l,ez x
 lens:∀x∈v.lens,ez x
 locals:∀x∈v.locals,ez x
 at_:∀l∈v.at_,∀x∈l,ez x
 self:ez v.self
theorem SN{m:Model}(bq:eF m){s:List Int}(aK:Fits m s){q:Nat}(aG:q<(insts m).length):Jj (cZ m s q):=by
 have eU:=Tb bq aK;have um:=(rT _ (List.getElem_mem aG)).elem;have hx:=DV bq;refine⟨fun l aS x au=>?_,fun x au=>?_,fun x au=>?_,fun l aS x au=>?_,?_⟩
 .simp only[cZ,List.mem_map] at aS;obtain⟨k,_,rfl⟩:=aS;exact eU x (List.mem_of_mem_drop (List.mem_of_mem_take au))
 .simp only[cZ,List.mem_map] at au;obtain⟨k,_,rfl⟩:=au;rw[List.getElem!_eq_getElem?_getD];cases hk:s[df m k]? with
  | none=>simp[ez]
  | some y=>exact eU y (List.mem_of_getElem? hk)
 .rw[(yN s aG rfl).1] at au;exact eU x (List.mem_of_mem_drop (List.mem_of_mem_take au))
 .simp only[cZ,List.mem_map] at aS;obtain⟨k,_,rfl⟩:=aS;unfold js at au;obtain⟨d,_,rfl⟩:=List.mem_map.1 au
  have:=JJ m s k d (insts m).length
  unfold ez;omega
 .rw[(yN s aG rfl).2];unfold ez;omega
end o
namespace bt
open Go Go.RowKit
theorem K.AD{b n k:Nat}{c:List Value}{ty:TypeId}{w:World}{aI:Value->Prop}{t}(cs:List Value)(aC:w.heap[b]? = some (.cells c.toArray ty))(gy:(c.drop k).take n=cs)(aD:cs.length=n)(hk:aI (.agg cs.toArray)):sk n (.pointer (some (Addr.add ⟨b,0,none⟩ k))) w aI t:=by
 refine K.jX (cs:=cs) (fun j v aR=>?_) aD hk;subst gy;rw[List.getElem?_take] at aR;split at aR
 .rw[List.getElem?_drop] at aR;rw[add_add];exact e8 aC (by simpa using aR)
 .cases aR
end bt
namespace Go.Proofs.R
open Go Go.RowKit bt
theorem MC{w:World}{v:Value}{l:List Int}(h:eT w v l)(eU:∀x∈l,o.ez x):px w v l:=by
 obtain⟨bl,cap,e,h1,U,ag,aJ⟩:=h.ex;exact⟨bl,cap,e,h1,U,ag,fun a bo i ad=>⟨aJ a bo i ad,eU _ (List.getElem_mem ad)⟩⟩
theorem XP{w:World}{v:Value}{l:List (List Int)}(h:BO w v l)(eU:∀r∈l,∀x∈r,o.ez x):vq w v l:=by
 obtain⟨bl,cap,e,h1,U,ag,aJ⟩:=h.ex;refine⟨bl,cap,e,h1,U,ag,fun a bo i ad=>?_⟩;obtain⟨u,hu,aD⟩:=aJ a bo i ad;exact⟨u,hu,MC aD (eU _ (List.getElem_mem ad))⟩
theorem Ks{w:World}{cs:List Value}{x:o.Env}(h:Ps w cs x)(bc:o.Jj x):o.tv w cs x:=by
 obtain⟨v0,v1,v2,v3,rfl,ak,h1,U,ag⟩:=h.ex;exact⟨v0,v1,v2,v3,rfl,XP ak bc.vars,MC h1 bc.lens,MC U bc.locals,XP ag bc.at_,bc.self⟩
def Rb(base:Nat)(al:Option (List Int))(u:Value)(w:World):Prop :=
 (al=none/\u = .tuple #[.slice none 0 0,.bool false])\/(∃t nW,al=some t/\u = .tuple #[nW,.bool true]/\oR base w nW t)
theorem ajy(cs:List Value)(v cy cE:Value)(m:o.Model)(s:List Int)(q p:Nat)(a:o.Act)(w:World)(h:pF w cs m)(aZ:m.cQ)(bq:o.eF m)(ay:eT w v s)(aK:o.Fits m s)(bB:o.gr m q p)
  (ad:o.fW w cy a.index)(aT:o.fW w cE a.value)(bo:o.qm (o.inner (m.procs[p]'(bB.aO)) (o.eN m)) a) :
  bu Tryz.prog F.EI #[.agg cs.toArray,v,.int .i64 q,.agg (a.enc cy cE).toArray] w fun u w'=>Rb w.heap.size (o.l6 m s q a) u w'/\Ext w w':=by
 have iO:=h;obtain⟨gp,d0,eO,d1,fz,d2,gb,d3,gA,d4,cz,bS,b9,c1,cn,c2,cp,bP,cA,bX,cU,ci,iI,kP,rfl,dP,o3,gx,fA,gd,ir,k0,ak,h1,U,ag,adL,KT⟩:=h.form;obtain⟨os,Cg,rfl,Ig⟩:=ay.form;obtain⟨W3,c3,rfl,wH⟩:=ad.form;obtain⟨apu,ans,rfl,lvl⟩:=aT.form;have ye:=bo.kind;have hlen:=aK.len;have qI:o.eA m<=64:=o.nf bq;have hx:=bq.hx;have aG:=bB.aG;have aoz:=bB.E5 bq;obtain⟨f6,f7,f8⟩:=o.Ia m;obtain⟨LM,rN⟩:=o.ym aG;have dt:=o.SN bq aK aG;refine bL E.EI ?_;refine bG ?_;refine ae ?_;intro av cM fM aB bA;refine ae ?_;intro aU lh jw aA cS;replace bA:=aA.obj bA;have a6:=aB.trans aA;unfold o.Act.enc at cS;refine ae ?_;apply K.cond<;>intro g5
 .obtain⟨gk,e7⟩:=bo.chan (.inr g5);have fQ:a.to.toNat<m.aM.length:=e7;have iM:a.to=(a.to.toNat:Nat):=by omega
  rw[iM] at cS;refine ae ?_;refine K.call (ND _ _ m s a.to.toNat aU (iO.ext a6) bq (ay.ext Flat.ext a6) hlen fQ) ?_;rintro u bb ⟨hu,ax⟩;obtain⟨uV,sA,rfl,_⟩:=hu.form;have eM:(o.chanOf m s a.to.toNat).length=1+o.ju m a.to.toNat:=o.tL (by rw[hlen];exact o.oY fQ);have DI:=o.vC bq fQ;have aox:=o.oY fQ;obtain⟨eI,afq⟩:=bo.recv g5;have LW:a.loc.toNat<(m.procs[p]'(bB.aO)).vars.length:=afq;have aoy:=bB.room;have done:o.l6 m s q a=o.Bb m s q a:=by unfold o.l6;rw[if_pos g5]
  rw[done];unfold o.Bb;replace bA:=ax.obj bA;replace cS:=ax.obj cS;have bK:=a6.trans ax;refine ae ?_;refine K.call (akp _ _ bb hu (by omega)) ?_;rintro u bp ⟨fX,aN⟩;replace bA:=aN.obj bA;replace cS:=aN.obj cS;have b0:=bK.trans aN;rcases fX with ⟨hz,rfl⟩ | ⟨r,x,j0,lW,rfl,DF⟩
  .refine ae ?_;exact⟨.inl ⟨by rw[hz],bk⟩,b0⟩
  obtain⟨aiS,abJ,rfl,_⟩:=DF.form;have kk:=o.Og lW;rw[lW];obtain⟨oc,rfl⟩:=gd.addr (by omega);have wP:=gd.ext Flat.ext b0;refine ae ?_;intro bR aW;replace bA:=aW.obj bA;replace cS:=aW.obj cS;replace wP:=wP.ext Flat.ext aW;have b3:=b0.trans aW;refine ae ?_;rw[rN];refine ae ?_;refine K.call (NM _ _ _ m s r a.to.toNat bR (iO.ext b3) bq (ay.ext Flat.ext b3) ((r7 DF).ext Flat.ext aW) hlen fQ (by omega)) ?_;rintro u bY ⟨dO,a8⟩;obtain⟨Na,Kd,rfl,_⟩:=dO.form;have cV:=b3.trans a8;have qM:(o.mu s (o.df m a.to.toNat) r).length=o.eA m:=by rw[o.DX (by omega)];exact hlen
  refine⟨a8,?_⟩;refine ae ?_;refine K.call (Iz _ _ m (o.mu s (o.df m a.to.toNat) r) (o.eg m q+1+a.loc.toNat) _ x bY (iO.ext cV) bq (r7 dO) qM (by omega) (by omega)) ?_;rintro u cd ⟨fX,bJ⟩;rcases fX with ⟨hz,rfl⟩ | ⟨t,nW,age,rfl,mq⟩
  .refine ae ?_;exact⟨.inl ⟨hz,bk⟩,cV.trans bJ⟩
  .obtain⟨A5,zL,rfl,_⟩:=mq.form;refine ae ?_;exact⟨.inr ⟨t,_,age,rfl,bs.low cV.size mq⟩,cV.trans bJ⟩
 .refine ae ?_;refine K.AD [.slice gp m.scalars.length d0,.slice eO m.vars.length d1,.slice fz m.aM.length d2,.slice gb m.procs.length d3,.slice gA m.props.length d4] bA rfl rfl ?_;refine ae ?_;refine K.AD [.slice cz (o.layout m).vars.length bS,.slice b9 (o.layout m).aM.length c1,.slice cn (o.layout m).insts.length c2,.int .i64 (o.layout m).cells,.slice cp (o.layout m).bf.length bP,.slice cA (o.layout m).ad.length bX] bA rfl rfl ?_;refine ae ?_;refine K.call (NS _ _ _ m s q aU (dP.ext a6) aZ bq (o3.ext a6) (ay.ext Flat.ext a6) aK (by omega) (by omega)) ?_;rintro _ bb ⟨⟨es,rfl,aD⟩,ax⟩;have fF:=Ks aD.here dt;have GX:=fF;obtain⟨a0,gk,dD,dc,a2,dd,a3,gv,rfl,qc,dH,dM,eh,hc,_⟩:=fF.form;replace bA:=ax.obj bA;replace cS:=ax.obj cS;have bK:=a6.trans ax;refine ae ?_;intro bp pH C5 aN gV;replace bA:=aN.obj bA;replace cS:=aN.obj cS;have b0:=bK.trans aN;refine ae ?_;refine K.call (Iy _ a.value _ (o.cZ m s q) bp (aT.ext b0) (GX.ext aN)) ?_;rintro _ bR ⟨rfl,aW⟩;obtain⟨n,DC⟩:∃n,n=(o.eval a.value (o.cZ m s q)).1:=⟨_,rfl⟩;obtain⟨e,Ah⟩:∃e,e=(o.eval a.value (o.cZ m s q)).2:=⟨_,rfl⟩;rw[<-DC,<-Ah];replace bA:=aW.obj bA;replace cS:=aW.obj cS;replace gV:=aW.obj gV;have b3:=b0.trans aW;have gh:=a6.size;refine ae ?_;refine K.cond (fun uG=>?_) (fun uG=>?_);rotate_left
  .refine ae ?_;refine⟨.inl ⟨?_,bk⟩,b3⟩;unfold o.l6;rw[if_neg g5,<-Ah,if_pos uG]
  have done:o.l6 m s q a=if a.kind=1 then o.putAt m s (o.gT m a.to.toNat) n else if a.kind=2 then o.Ax m s a (o.eval a.index (o.cZ m s q)) n else if a.kind=3 then o.putAt m s (o.eg m q+1+a.to.toNat) n else o.yM m s a.to.toNat n:=by
   unfold o.l6;rw[if_neg g5,<-Ah,if_neg (by simpa using uG),<-DC]
  rw[done];have uy:=ay.ext Flat.ext b3;have TP:=iO.ext b3;refine ae ?_;apply K.cond<;>intro g1
  .obtain⟨gk,ck,e7,iF⟩:=bo.set g1;have jD:a.to.toNat<m.vars.length:=(List.getElem?_eq_some_iff.1 e7).1;obtain⟨fy,lx⟩:=o.Bt jD;have o9:=o.IV bq jD;have agp:=o.ts jD;have fG:=o.o0 m;have afo:=o.rW jD;have an7:o.cells m.vars[a.to.toNat] m.scalars=1:=by
    have Mm:m.vars[a.to.toNat]=ck:=(List.getElem?_eq_some_iff.1 e7).2;rw[Mm];unfold o.cells;rw[if_pos iF]
   obtain⟨oc,rfl⟩:=gx.addr (by omega);have Nw:=gx.ext Flat.ext b3;refine ae ?_;intro bY a8;replace bA:=a8.obj bA;replace cS:=a8.obj cS;replace Nw:=Nw.ext Flat.ext a8;have cV:=b3.trans a8;refine ae ?_;refine K.dp a.to.toNat (by omega) (by omega) ?_;refine ae ?_;refine K.call (Iz _ _ m s (o.gT m a.to.toNat) _ n bY (iO.ext cV) bq (ay.ext Flat.ext cV) hlen (by rw[lx]) (by omega)) ?_;rintro u cd ⟨fX,bJ⟩;rcases fX with ⟨hz,rfl⟩ | ⟨t,nW,lW,rfl,mq⟩
   .refine ae ?_;exact⟨.inl ⟨by rw[if_pos g1];exact hz,bk⟩,cV.trans bJ⟩
   .obtain⟨A5,zL,rfl,_⟩:=mq.form;refine ae ?_;exact⟨.inr ⟨t,_,by rw[if_pos g1];exact lW,rfl,bs.low cV.size mq⟩,cV.trans bJ⟩
  refine ae ?_;apply K.cond<;>intro g2
  .obtain⟨gk,Ml,UD⟩:=bo.item g2;have jD:a.to.toNat<m.vars.length:=Ml;obtain⟨fy,lx⟩:=o.Bt jD;have agp:=o.ts jD;have fG:=o.o0 m;have afo:=o.rW jD;have eM:=o.tJ m.vars[a.to.toNat] m.scalars;have agn:=o.II (s:=s) (inst:=(q:Int)) jD;have aoC:=o.N8 m s q;obtain⟨agq,agr⟩:=List.getElem?_eq_some_iff.1 agn;have kk:((o.cZ m s q).vars[a.to.toNat]).length=o.oD m a.to.toNat:=by rw[agr,List.length_take,List.length_drop];omega
   obtain⟨oc,rfl⟩:=gx.addr (by omega);obtain⟨oX,rfl⟩:=qc.addr (by omega);obtain⟨j0,jk,nP⟩:=qc.at a.to.toNat agq;obtain⟨apr,anm,rfl,_⟩:=nP.form;rw[kk] at jk;refine ae ?_;refine K.call (Iy _ a.index _ (o.cZ m s q) bR (ad.ext b3) (GX.ext (aN.trans aW))) ?_;rintro _ bY ⟨rfl,a8⟩;obtain⟨k,UK⟩:∃k,k=(o.eval a.index (o.cZ m s q)).1:=⟨_,rfl⟩;obtain⟨f,Uu⟩:∃f,f=(o.eval a.index (o.cZ m s q)).2:=⟨_,rfl⟩;have pb:∀n,o.Ax m s a (o.eval a.index (o.cZ m s q)) n=if f≠0\/k<1\/(o.oD m a.to.toNat:Int)<k then none else o.putAt m s (o.gT m a.to.toNat+k.toNat - 1) n:=fun n=>by unfold o.Ax;rw[<-UK,<-Uu]
   rw[pb,<-UK,<-Uu];clear pb;replace bA:=a8.obj bA;replace cS:=a8.obj cS;replace gV:=a8.obj gV;have cV:=b3.trans a8;have aeK:=((aN.trans aW).trans a8).cell jk;refine ae ?_;refine K.cond (fun nb=>?_) (fun nb=>?_);rotate_left
   .refine ae ?_;exact⟨.inl ⟨by rw[if_neg g1,if_pos g2,if_pos (.inl nb)],bk⟩,cV⟩
   refine ae ?_;refine K.cond (fun ph=>?_) (fun ph=>?_)
   .refine ae ?_;exact⟨.inl ⟨by rw[if_neg g1,if_pos g2,if_pos (.inr (.inl ph))],bk⟩,cV⟩
   refine ae ?_;refine K.dp a.to.toNat (by omega) (by omega) ?_;refine ae ?_;refine K.ld aeK ?_;refine ae ?_;refine K.cond (fun uF=>?_) (fun uF=>?_)
   .refine ae ?_;exact⟨.inl ⟨by rw[if_neg g1,if_pos g2,if_pos (.inr (.inr (by omega)))],bk⟩,cV⟩
   have Xm:=gx.ext Flat.ext cV;refine ae ?_;intro cd bJ;replace bA:=bJ.obj bA;replace cS:=bJ.obj cS;replace Xm:=Xm.ext Flat.ext bJ;have dw:=cV.trans bJ;refine ae ?_;refine K.dp a.to.toNat (by omega) (by omega) ?_;refine ae ?_;refine K.call (Iz _ _ m s (o.gT m a.to.toNat+k.toNat - 1) _ n cd (iO.ext dw) bq (ay.ext Flat.ext dw) hlen (by rw[lx];omega) (by omega)) ?_;rintro u dg ⟨fX,bV⟩;rcases fX with ⟨hz,rfl⟩ | ⟨t,nW,lW,rfl,mq⟩
   .refine ae ?_;exact⟨.inl ⟨by rw[if_neg g1,if_pos g2,if_neg (by omega)];exact hz,bk⟩,dw.trans bV⟩
   .obtain⟨A5,zL,rfl,_⟩:=mq.form;refine ae ?_;exact⟨.inr ⟨t,_,by rw[if_neg g1,if_pos g2,if_neg (by omega)];exact lW,rfl,bs.low dw.size mq⟩,dw.trans bV⟩
  refine ae ?_;apply K.cond<;>intro g3
  .obtain⟨gk,jD⟩:=bo.loc g3;have fQ:a.to.toNat<(m.procs[p]'(bB.aO)).vars.length:=jD;have DI:=bB.room;obtain⟨oc,rfl⟩:=gd.addr (by omega);have Ba:=gd.ext Flat.ext b3;refine ae ?_;intro bY a8;replace bA:=a8.obj bA;replace cS:=a8.obj cS;replace Ba:=Ba.ext Flat.ext a8;have cV:=b3.trans a8;refine ae ?_;rw[rN];refine ae ?_;refine K.call (Iz _ _ m s (o.eg m q+1+a.to.toNat) _ n bY (iO.ext cV) bq (ay.ext Flat.ext cV) hlen (by omega) (by omega)) ?_;rintro u cd ⟨fX,bJ⟩;rcases fX with ⟨hz,rfl⟩ | ⟨t,nW,lW,rfl,mq⟩
   .refine ae ?_;exact⟨.inl ⟨by rw[if_neg g1,if_neg g2,if_pos g3];exact hz,bk⟩,cV.trans bJ⟩
   .obtain⟨A5,zL,rfl,_⟩:=mq.form;refine ae ?_;exact⟨.inr ⟨t,_,by rw[if_neg g1,if_neg g2,if_pos g3];exact lW,rfl,bs.low cV.size mq⟩,cV.trans bJ⟩
  have g4:a.kind=4:=by omega
  rw[if_neg g1,if_neg g2,if_neg g3];obtain⟨gk,jD⟩:=bo.chan (.inl g4);have fQ:a.to.toNat<m.aM.length:=jD;have Uh:=bq.chan _ (List.getElem_mem fQ);obtain⟨xt,rfl⟩:=U.addr (by omega);have en:=((U.at a.to.toNat fQ).cells).ext b3;refine ae ?_;refine K.dp a.to.toNat (by omega) fQ ?_;refine ef ?_;intro bY am6 anP a8 K9;replace bA:=a8.obj bA;replace cS:=a8.obj cS;have cV:=b3.trans a8;refine ef ?_;simp -dsimp only[cF];refine ef ?_;intro cd bJ;replace bA:=bJ.obj bA;replace cS:=bJ.obj cS;replace K9:=bJ.obj K9;have dw:=cV.trans bJ;have kX:=o.JZ Uh hx.1;have Hc:o.vG m a.to.toNat=o.fb m.aM[a.to.toNat].scalar m.aM[a.to.toNat].bf m.aM[a.to.toNat].ad m.scalars:=by unfold o.vG;rw[List.getElem?_eq_getElem fQ]
  clear en;unfold o.dv.enc at K9;refine ef ?_;refine K.gU [1,4,7,14,18] (fun x:Int×Int=>[(19,.int .i64 x.1),(20,.int .i64 x.2)]) (fun x W=>Ext cd W/\x.1=(o.vG m a.to.toNat).bf/\x.2=(o.vG m a.to.toNat).ad) ?_ ?_
  .refine ae ?_;refine K.cond (fun nb=>?_) (fun nb=>?_)
   .have bQ:=Uh.sc.resolve_left (by omega);obtain⟨j,aR,aoj,Dr⟩:∃(j:Nat) (aR:j<m.scalars.length),m.aM[a.to.toNat].scalar=(j:Int)+1/\o.size m.aM[a.to.toNat].scalar m.scalars=m.scalars[j].size:=by
     unfold o.size at bQ ⊢;cases au:m.scalars[(m.aM[a.to.toNat].scalar - 1).toNat]? with
     | none=>rw[au] at bQ;exact absurd rfl bQ
     | some x =>
      rw[au] at bQ;obtain⟨aR,rfl⟩:=List.getElem?_eq_some_iff.1 au;simp only at bQ ⊢;split at bQ
      .rename_i dm;exact⟨_,aR,by omega,by rw[if_pos dm]⟩
      .exact absurd rfl bQ
    obtain⟨xw,rfl⟩:=ak.addr (by omega);have gy:=((ak.at j aR).cells).ext dw;refine ae ?_;refine K.dp j (by omega) aR ?_;refine ae ?_;intro dg bV;refine ae ?_;refine⟨(0,m.scalars[j].size),⟨rfl,rfl,trivial⟩,bV,?_,?_⟩
    .rw[Hc];unfold o.fb;rw[if_neg (by omega)]
    .rw[Hc];unfold o.fb;rw[if_neg (by omega)];exact Dr.symm
   .refine ae ?_;refine⟨(m.aM[a.to.toNat].bf,m.aM[a.to.toNat].ad),⟨rfl,rfl,trivial⟩,Ext.refl _,?_,?_⟩
    .rw[Hc];unfold o.fb;rw[if_pos (by omega)]
    .rw[Hc];unfold o.fb;rw[if_pos (by omega)]
  rintro⟨bf,cO⟩ S dg ⟨bV,jA,Dp⟩;simp only at jA Dp;replace bA:=bV.obj bA;replace cS:=bV.obj cS;have dW:=dw.trans bV;have OH:=dW.size;rw[show o.yM m s a.to.toNat n=if n<bf\/cO<n then none else (o.qb (o.chanOf m s a.to.toNat) n).map (o.mu s (o.df m a.to.toNat)) from by unfold o.yM;rw[<-jA,<-Dp]];refine ae ?_;refine K.cond (fun nb=>?_) (fun nb=>?_)
  .refine ae ?_;exact⟨.inl ⟨by rw[if_pos (.inl nb)],bk⟩,dW⟩
  refine ae ?_;refine K.cond (fun ph=>?_) (fun ph=>?_)
  .refine ae ?_;exact⟨.inl ⟨by rw[if_pos (.inr (by omega))],bk⟩,dW⟩
  rw[if_neg (by omega)];have iM:a.to=(a.to.toNat:Nat):=by omega
  rw[iM] at cS;have eM:(o.chanOf m s a.to.toNat).length=1+o.ju m a.to.toNat:=o.tL (by rw[hlen];exact o.oY fQ);have DI:=o.vC bq fQ;refine ae ?_;refine K.call (ND _ _ m s a.to.toNat dg (iO.ext dW) bq (ay.ext Flat.ext dW) hlen fQ) ?_;rintro u ea ⟨hu,b1⟩;obtain⟨uV,sA,rfl,_⟩:=hu.form;replace bA:=b1.obj bA;replace cS:=b1.obj cS;have iz:=dW.trans b1;refine ae ?_;refine K.call (ako _ _ n ea hu (by omega)) ?_;rintro u e3 ⟨fX,cv⟩;replace bA:=cv.obj bA;replace cS:=cv.obj cS;have jv:=iz.trans cv;rcases fX with ⟨hz,rfl⟩ | ⟨r,j0,lW,rfl,DF⟩
  .refine ae ?_;exact⟨.inl ⟨by rw[hz];rfl,bk⟩,jv⟩
  .obtain⟨aiS,abJ,rfl,_⟩:=DF.form;have kk:=o.Nl lW;refine ae ?_;refine K.call (NM _ _ _ m s r a.to.toNat e3 (iO.ext jv) bq (ay.ext Flat.ext jv) (r7 DF) hlen fQ (by omega)) ?_;rintro u gg ⟨qU,fH⟩;obtain⟨Na,Kd,rfl,_⟩:=qU.form;refine ae ?_;exact⟨.inr ⟨_,_,by rw[lW];rfl,rfl,bs.low jv.size qU⟩,jv.trans fH⟩
end Go.Proofs.R
end
section
namespace o
open Go
theorem ZQ(m:Model)(q:Nat)(l:List Act)(s:List Int){k:Nat}(hk:k<l.length):ku m q (l.take (k+1)) s=match ku m q (l.take k) s with | none=>none | some t=>l6 m t q l[k]:=by
 rw[List.take_succ_eq_append_getElem hk,RB];rfl
theorem RA(m:Model)(q:Nat):∀(l:List Act) (s:List Int) (k:Nat),ku m q (l.take k) s=none->ku m q l s=none
 | [],s,k,h=>by simp[ku] at h
 | a :: l,s,0,h=>by simp[ku] at h
 | a :: l,s,k+1,h=>by
  simp only[List.take_succ_cons,ku] at h ⊢;cases h1:l6 m s q a with
  | none=>rfl
  | some t=>rw[h1] at h;exact RA m q l t k h
end o
namespace Go.Proofs.R
open Go Go.RowKit bt
theorem ajE(cs:List Value)(v:Value)(m:o.Model)(s:List Int)(ref:Int)(q p k:Nat)(w:World)(h:pF w cs m)(aZ:m.cQ)(ay:eT w v s)(aK:o.Fits m s)(cf:o.gl m ref q p k) :
  bu Tryz.prog F.EJ #[.agg cs.toArray,v,.int .i64 ref] w fun u w'=>Rb w.heap.size (o.nE m s q (o.cL m p k)) u w'/\Ext w w':=by
 have iO:=h;have bq:=o.lZ cf.ok;obtain⟨gp,d0,eO,d1,fz,d2,gb,d3,gA,d4,cz,bS,b9,c1,cn,c2,cp,bP,cA,bX,cU,ci,iI,kP,rfl,dP,o3,gx,fA,gd,ir,k0,ak,h1,U,ag,adL,KT⟩:=h.form;obtain⟨os,Cg,rfl,Ig⟩:=ay.form;have bB:=cf.inst;have sR:=cf.cin;have rM:=sR.hx;have aG:=bB.aG;have hlen:=aK.len;have qI:o.eA m<=64:=o.nf bq;have LO:=bB.room;obtain⟨r,rfl⟩:=Int.eq_ofNat_of_zero_le cf.bf;have ba:r<(o.refs m).length:=cf.ad;have jB:(o.refs m)[r].inst=(q:Int):=cf.at_.u0;have oy:(o.refs m)[r].cmd=(k:Int):=cf.at_.wR;obtain⟨LM,rN⟩:=o.ym aG;obtain⟨lg,rfl⟩:=KT.addr (by omega);obtain⟨a2,rfl⟩:=gd.addr (by omega);obtain⟨Z7,rfl⟩:=ay.addr (by omega);have dt:=o.SN bq aK aG;obtain⟨c,Dd⟩:∃c,c=o.cL m p k:=⟨_,rfl⟩;rw[<-Dd] at sR rM ⊢;refine bL E.EJ ?_;refine bG ?_;refine ae ?_;intro av b5 fo aB bz;have adV:=KT.ext Flat.ext aB;refine ae ?_;intro aU kN qK aA cK;have zS:(o.refs m)[r].enc=[.int .i64 q,.int .i64 k]:=by unfold o.Ref.enc;rw[jB,oy]
 rw[zS] at cK;replace bz:=aA.obj bz;have a6:=aB.trans aA;clear adV;refine ae ?_;refine K.call (Ny _ m r q p k aU (iO.ext a6) cf) ?_;rintro _ bb ⟨⟨fB,ee,rfl,kz,iE⟩,ax⟩;rw[<-Dd] at kz iE ⊢;obtain⟨hM,gF,rfl,_⟩:=kz.form;obtain⟨wM,vD,rfl,_⟩:=iE.form;replace bz:=ax.obj bz;replace cK:=ax.obj cK;have bK:=a6.trans ax;unfold o.dI.enc;refine ae ?_;intro bp hi lp aN dJ;replace bz:=aN.obj bz;replace cK:=aN.obj cK;have b0:=bK.trans aN;have kW:=ay.ext Flat.ext b0;have wP:=gd.ext Flat.ext b0;have U2:=kz.ext (ax.trans aN);have UZ:=iE.ext (ax.trans aN);clear kz iE;refine ae ?_;refine K.dp (o.eg m q) (by rw[rN]) (by omega) ?_;refine ae ?_;intro bR aW;replace bz:=aW.obj bz;replace cK:=aW.obj cK;replace dJ:=aW.obj dJ;have b3:=b0.trans aW;have afx:=U2.ext aW;have U0:=UZ.ext aW;have UP:s[o.eg m q]? = some (s[o.eg m q]'(by omega)):=List.getElem?_eq_getElem (by omega);clear U2 UZ kW wP;refine ef ?_;apply K.cond<;>intro g1;rotate_left
 .refine ae ?_;exact⟨.inl ⟨by unfold o.nE;rw[UP,if_pos (by simpa using g1)],bk⟩,b3⟩
 have x7:o.nE m s q c=if 0<c.guard.length/\((o.eval c.guard (o.cZ m s q)).2≠0\/(o.eval c.guard (o.cZ m s q)).1=0) then none else (o.ku m q c.cb s).map fun t=>t.set (o.eg m q) c.to:=by
  unfold o.nE;rw[UP,if_neg (by simpa using g1)]
 have TW:=bz;have aey:=cK;have T0:=dJ;refine ef ?_;refine K.gU [1,3,8,9] (fun _:Unit=>[]) (fun _ W=>Ext bR W/\¬(0<c.guard.length/\((o.eval c.guard (o.cZ m s q)).2≠0\/(o.eval c.guard (o.cZ m s q)).1=0))) ?_ ?_
 .refine ae ?_;apply K.cond<;>intro g2;rotate_left
  .refine ae ?_;exact⟨(),trivial,Ext.refl _,fun dm=>by omega⟩
  have uy:=ay.ext Flat.ext b3;refine ae ?_;intro bY a8;replace bz:=a8.obj bz;replace cK:=a8.obj cK;replace dJ:=a8.obj dJ;have cV:=b3.trans a8;refine ae ?_;refine K.AD [.slice gp m.scalars.length d0,.slice eO m.vars.length d1,.slice fz m.aM.length d2,.slice gb m.procs.length d3,.slice gA m.props.length d4] bz rfl rfl ?_;refine ae ?_;refine K.AD [.slice cz (o.layout m).vars.length bS,.slice b9 (o.layout m).aM.length c1,.slice (some a2) (o.layout m).insts.length c2,.int .i64 (o.layout m).cells,.slice cp (o.layout m).bf.length bP,.slice cA (o.layout m).ad.length bX] bz rfl rfl ?_;refine ae ?_;refine K.call (NS _ _ _ m s q bY (dP.ext cV) aZ bq (o3.ext cV) (ay.ext Flat.ext cV) aK (by omega) (by omega)) ?_;rintro _ cd ⟨⟨es,rfl,aD⟩,bJ⟩;have fF:=Ks aD.here dt;refine⟨bJ,?_⟩;refine ae ?_;refine K.call (Iy _ c.guard _ (o.cZ m s q) cd (afx.ext (a8.trans bJ)) fF) ?_;rintro _ dg ⟨rfl,bV⟩;obtain⟨n,DC⟩:∃n,n=(o.eval c.guard (o.cZ m s q)).1:=⟨_,rfl⟩;obtain⟨e,Ah⟩:∃e,e=(o.eval c.guard (o.cZ m s q)).2:=⟨_,rfl⟩;rw[<-DC,<-Ah];rw[<-DC,<-Ah] at x7;have dW:=(cV.trans bJ).trans bV;refine ae ?_;refine K.cond (fun nb=>?_) (fun nb=>?_);rotate_left
  .refine ae ?_;exact⟨.inl ⟨by rw[x7,if_pos ⟨by omega,.inl nb⟩],bk⟩,dW⟩
  refine ae ?_;refine K.cond (fun ph=>?_) (fun ph=>?_)
  .refine ae ?_;exact⟨.inl ⟨by rw[x7,if_pos ⟨by omega,.inr ph⟩],bk⟩,dW⟩
  .refine ae ?_;exact⟨(),trivial,(a8.trans bJ).trans bV,fun dm=>by rcases dm.2 with h | h;exact h nb;exact ph h⟩
 clear bz cK dJ;rintro _ S bY ⟨a8,wb⟩;have kT:o.nE m s q c=(o.ku m q c.cb s).map fun t=>t.set (o.eg m q) c.to:=by rw[x7,if_neg wb]
 rw[kT];clear x7 wb kT;have dJ:=a8.obj T0;refine ae ?_;refine K.dj 13 c.cb.length [1,3,8,9] (fun v:gN=>[(12,.slice v.1 v.2.1 v.2.2)]) (some Z7,s.length,Cg) (fun n v W=>Ext bR W/\∃t,o.ku m q (c.cb.take n) s=some t/\eT W (.slice v.1 v.2.1 v.2.2) t/\o.Fits m t) bx bx ⟨a8,s,rfl,ay.ext Flat.ext (b3.trans a8),aK⟩ ?_;clear dJ a8;rintro n nW bh cd aD ⟨bJ,t,aL,wk,LG⟩;have bz:=bJ.obj TW;have cK:=bJ.obj aey;have dJ:=bJ.obj T0;have aft:=U0.ext bJ;have dw:=b3.trans bJ;refine ae ?_;apply K.cond<;>intro g2
 .have ki:n<c.cb.length:=by omega
  obtain⟨kM,rfl⟩:=U0.addr (by omega);obtain⟨cy,cE,x2,Aq,DD⟩:=aft.at n ki;have C1:=sR.act n ki;obtain⟨apn,anl,rfl,_⟩:=Aq.form;obtain⟨apo,tN,rfl,_⟩:=DD.form;refine ae ?_;intro dg bV;replace bz:=bV.obj bz;replace cK:=bV.obj cK;replace dJ:=bV.obj dJ;replace x2:=x2.ext bV;have dW:=dw.trans bV;refine ae ?_;refine K.call (ajy _ _ _ _ m t q p c.cb[n] dg (iO.ext dW) aZ bq (wk.ext Flat.ext bV) LG bB (Aq.ext bV) (DD.ext bV) C1) ?_;rintro u ea ⟨fX,b1⟩;have HM:=o.ZQ m q c.cb s ki;rw[aL] at HM;simp only at HM;rcases fX with ⟨hz,rfl⟩ | ⟨hf,apO,lW,rfl,mq⟩
  .refine ae ?_;exact⟨.inl ⟨by rw[o.RA m q c.cb s (n+1) (HM.trans hz)];rfl,bk⟩,dW.trans b1⟩
  .obtain⟨A5,zL,rfl,_⟩:=mq.form;refine ae ?_;exact⟨ki,bk,(A5,_,zL),⟨rfl,trivial⟩,(bJ.trans bV).trans b1,hf,HM.trans lW,r7 mq,o.Rz bq bB C1 LG lW⟩
 .have HI:n=c.cb.length:=by omega
  subst HI;rw[List.take_length] at aL;rw[aL];obtain⟨YQ,l2,dT⟩:=nW;obtain⟨_,_,aoD,_⟩:=wk.form;have cw:=LG.len;have Xq:=gd.ext Flat.ext dw;refine ae ?_;intro dg bV;replace bz:=bV.obj bz;replace cK:=bV.obj cK;replace dJ:=bV.obj dJ;replace Xq:=Xq.ext Flat.ext bV;have dW:=dw.trans bV;refine ae ?_;refine K.call (Xv _ t (o.eg m q) c.to _ (wk.ext Flat.ext bV) (by rw[rN]) (by omega) (by omega)) ?_;rintro u ea ⟨ji,b1⟩;obtain⟨Na,Kd,rfl,_⟩:=ji.form;refine ae ?_;exact⟨.inr ⟨_,_,rfl,rfl,bs.low dW.size ji⟩,dW.trans b1⟩
end Go.Proofs.R
end