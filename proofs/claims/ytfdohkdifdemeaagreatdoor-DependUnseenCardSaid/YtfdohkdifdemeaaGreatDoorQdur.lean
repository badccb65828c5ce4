/- Parts. -/
import Derived.Test.YtfdohkdifdemeaaGreatDoorQduq
set_option linter.all false
set_option maxRecDepth 8000
set_option maxHeartbeats 32000000
section
namespace o
open Go
def wY(e:List Node):List Node:=e.filter fun x=>sf x.op
theorem alm{e:List Node}{k:Nat}(h:k<e.length):wY (e.take (k+1))=wY (e.take k)++if sf e[k].op then [e[k]] else []:=by
 unfold wY;rw[List.take_succ_eq_append_getElem h,List.filter_append];cases ay:sf e[k].op<;>simp[ay]
theorem Yk(e:List Node):(wY e).length<=e.length:=List.length_filter_le _ _
theorem YL{e s:List Node}(aO:s.Perm (wY e))(ay:s.Pairwise fun x y => ¬mz y x):F9 e (comp s):=by
 refine⟨Sc s ay,fun x=>?_⟩;rw[J9,aO.mem_iff];unfold wY;rw[List.mem_filter]
end o
namespace Go.Proofs.R
open Go Go.RowKit bt
theorem ail(x:o.Node):∀u∈x.enc,u.oneCell'=true:=by simp[o.Node.enc,Value.oneCell']
theorem Td:∀(l:List o.Node) (i:Nat) (h:i<l.length),(l.flatMap o.Node.enc)[2*i]? = some (.int .i64 l[i].op)/\(l.flatMap o.Node.enc)[2*i+1]? = some (.int .i64 l[i].n)
 | x :: l,0,_=>⟨rfl,rfl⟩
 | x :: l,i+1,h=>by
  have eV:=Td l i (by simpa using h);rw[show 2*(i+1)=2*i+2 from by omega,show 2*i+2+1=(2*i+1)+2 from by omega];exact eV
theorem aip{w:World}{base:Nat}{v:Value}{l:List o.Node}(h:bs o.Node.enc T.f 2 base w v l)(aS:l≠[]):∃b c,v = .slice (some ⟨b,0,none⟩) l.length c/\base<=b/\gM w b l/\l.length<=c/\c<=maxLen:=by
 rcases h.2 with ⟨_,ak⟩ | ⟨g,cap,cur,h1,U,ag,aJ,bg,bO,cj⟩
 .exact absurd (List.eq_nil_of_length_eq_zero ak) aS
 .refine⟨g,cap,h1,U,⟨cur,ag,by omega,fun i ad=>?_⟩,aJ,bg⟩;have get:∀j,j<2*l.length->cur[j]? = (l.flatMap o.Node.enc)[j]? := fun j aR=>by
   rw[<-cj,List.getElem?_take_of_lt (by omega),Array.getElem?_toList]
  rw[get _ (by omega),get _ (by omega)];exact Td l i ad
structure JA(w:World)(base:Nat)(v:Value)(l:List o.Node):Prop where
 ex:(l=[]/\∃p c,v = .slice p 0 c/\c<=maxLen)\/∃b c,v = .slice (some ⟨b,0,none⟩) l.length c/\base<=b/\gM w b l/\l.length<=c/\c<=maxLen
theorem ak8(p:Option Addr)(c:Nat)(w:World):bu Tryz.prog F.CO #[.slice p 0 c,.func (.func F.CP) #[] #[]] w fun _ w'=>Ext w w':=by
 have h:=AnyF.slices_SortFunc_none Tryz.Yf p c (.func (.func F.CP) #[] #[]) w;change Calls Tryz.prog F.CO _ _ _ at h;refine Calls.mono h ?_;rintro e w' ⟨rfl,rfl⟩;exact⟨_,rfl,Ext.refl _⟩
theorem abF(p:Option Addr)(c:Nat)(w:World):bu Tryz.prog F.mO #[.slice p 0 c] w fun v w'=>v = .slice p 0 c/\Ext w w':=by
 refine bL E.mO ?_;refine bG ?_;refine ae ?_;exact⟨bk,Ext.refl _⟩
theorem ama(v:Value)(e:List o.Node)(w:World)(h:o.fW w v e)(aS:e.length<=1000000) :
  bu Tryz.prog F.Ck #[v] w fun u w'=>(∃r,o.F9 e r/\JA w' w.heap.size u r)/\Ext w w':=by
 obtain⟨bl,gO,rfl,_⟩:=h.form;refine bL E.Ck ?_;refine bG ?_;refine ae ?_;refine K.dj 8 e.length [2,6,7] (fun u:Value=>[(3,u)]) (.slice none 0 0) (fun k u W=>bs o.Node.enc T.f 2 w.heap.size W u (o.wY (e.take k))/\Ext w W) bx bx ⟨bs.nil _ _ _ _ _,Ext.refl _⟩ ?_;rintro k u S av hk ⟨hu,aB⟩;refine ae ?_;apply K.cond<;>intro g1
 .have de:k<e.length:=by omega
  obtain⟨a,rfl⟩:=h.addr (by omega);have au:=(h.at k de).cells.ext aB;obtain⟨uV,sA,rfl,_⟩:=hu.form;have kA:=o.Yk (e.take k);have kB:=o.alm de;unfold o.Node.enc at au;rw[List.length_take] at kA;refine ef ?_;simp -dsimp only[cF];refine ef ?_;simp -dsimp only[cF];refine ef ?_;intro aU dR kR aA cD;have Mk:=hu.ext aA;have a6:=aB.trans aA;simp -dsimp only[cF];refine ef ?_;refine K.gU [2,3,5,6,7,8] (fun t:Bool=>[(14,.bool t)]) (fun t W=>t=o.sf e[k].op/\W=aU) ?_ ?_
  .have sp:∀b,(b=true↔(e[k].op=2\/e[k].op=3\/e[k].op=4\/e[k].op=6\/e[k].op=7))->b=o.sf e[k].op:=fun b aC=>by
    unfold o.sf;cases b with
    | true=>exact(decide_eq_true (aC.1 rfl)).symm
    | false=>exact(decide_eq_false fun q=>by have:=aC.2 q;cases this).symm
   refine ae ?_;apply K.cond<;>intro g2
   .refine ae ?_;exact⟨_,⟨bk,trivial⟩,sp _ (by simp[g2]),bk⟩
   refine ae ?_;apply K.cond<;>intro g3
   .refine ae ?_;exact⟨_,⟨bk,trivial⟩,sp _ (by simp[g3]),bk⟩
   refine ae ?_;apply K.cond<;>intro g4
   .refine ae ?_;exact⟨_,⟨bk,trivial⟩,sp _ (by simp[g4]),bk⟩
   refine ae ?_;apply K.cond<;>intro g5
   .refine ae ?_;exact⟨_,⟨bk,trivial⟩,sp _ (by simp[g5]),bk⟩
   refine ae ?_;exact⟨_,⟨bk,trivial⟩,sp _ (by simp[g2,g3,g4,g5]),bk⟩
  rintro t kt bb ⟨rfl,rfl⟩;refine ae ?_;cases wu:o.sf e[k].op with
  | true =>
   rw[wu,if_pos rfl] at kB;refine ae ?_;intro bp am7 anR aN Hf;refine ae ?_;refine K.mQ (y:=e[k]) (Mk.ext aN) Hf rfl (fun _=>rfl) ail (by omega) (by unfold maxLen;omega) (by have:=aN.size;have:=a6.size;omega) fun bl n c bR eG kx=>?_;have aW:=bs.mc (Mk.ext aN) (a6.trans aN) kx (Nat.le_refl _);refine ae ?_;refine⟨de,bk,_,⟨rfl,trivial⟩,?_,aW⟩;rw[kB];exact eG
  | false =>
   rw[wu,if_neg (by simp),List.append_nil] at kB;refine ae ?_;refine⟨de,bk,_,⟨bk,trivial⟩,?_,a6⟩;rw[kB];exact Mk
 .have jz:k=e.length:=by omega
  rw[jz,List.take_length] at hu;have kA:=o.Yk e;by_cases aD:o.wY e=[]
  .rw[aD] at hu;obtain⟨uV,sA,rfl,_⟩:=hu.form;have aeJ:sA<=maxLen:=by
    obtain⟨jH,cap,h1,_,ag,_⟩:=(bs.pq (enc:=o.Node.enc) (fun _=>rfl) hu).ex;injection h1 with _ _ h1
    omega
   have agl:o.F9 e (o.comp []):=o.YL (s:=[]) (by rw[aD]) List.Pairwise.nil;refine ae ?_;refine K.call (ak8 uV sA av) ?_;rintro _ aU aA;refine ae ?_;refine K.call (abF uV sA aU) ?_;rintro _ bb ⟨rfl,ax⟩;refine ae ?_;exact⟨⟨_,agl,⟨.inl ⟨rfl,uV,sA,rfl,aeJ⟩⟩⟩,(aB.trans aA).trans ax⟩
  .obtain⟨b,c,rfl,aC,ba,aw,hm⟩:=aip hu aD;refine ae ?_;refine K.call (ak9 b c _ av ba (by omega)) ?_;rintro _ aU ⟨s,aO,ay,jj,fp⟩;have agd:=aO.length_eq;have eM:=o.J8 s;rw[<-agd];refine ae ?_;refine K.call (abG b c s aU jj (by omega) hm) ?_;rintro _ bb ⟨rfl,afZ,ij⟩;refine ae ?_;exact⟨⟨_,o.YL aO ay,⟨.inr ⟨b,c,rfl,aC,afZ,by omega,hm⟩⟩⟩,(fp.trans ij).ext aB fun i ad e=>by omega⟩
end Go.Proofs.R
end
section
namespace o
open Go
theorem al6{m:Model}{x:Node}(h:sf x.op=false):fU m 0 false x=[]:=by
 unfold sf at h;have h:=of_decide_eq_false h;unfold fU;rw[if_neg (by omega),if_neg (by omega),if_neg (by omega),if_neg (by omega),if_neg (by omega)]
theorem al9{m:Model}{e r:List Node}(h:F9 e r)(z:Int):z∈r.flatMap (fU m 0 false)↔z∈wN m e:=by
 unfold wN;simp only[List.mem_flatMap];constructor
 .rintro⟨x,au,bQ⟩;exact⟨x,((h.mem x).1 au).1,bQ⟩
 .rintro⟨x,au,bQ⟩;cases ay:sf x.op with
  | false=>rw[al6 ay] at bQ;cases bQ
  | true=>exact⟨x,(h.mem x).2 ⟨au,ay⟩,bQ⟩
def wV(m:Model)(k:Nat):List Int:=(m.props.take k).flatMap fun p=>wN m p.expr
theorem akL{m:Model}{k:Nat}(h:k<m.props.length):wV m (k+1)=wV m k++wN m m.props[k].expr:=by
 unfold wV;rw[List.take_succ_eq_append_getElem h,List.flatMap_append];simp
theorem akK(m:Model):wV m m.props.length=qh m:=by unfold wV qh;rw[List.take_length]
end o
namespace Go.Proofs.R
open Go Go.RowKit bt
theorem JA.form{w:World}{base:Nat}{v:Value}{r:List o.Node}(h:JA w base v r):∃bl c,v = .slice bl r.length c/\(0<r.length->∃b,bl=some ⟨b,0,none⟩/\base<=b/\gM w b r/\r.length<=c/\c<=maxLen):=by
 rcases h.ex with ⟨rfl,p,c,rfl,_⟩ | ⟨b,c,rfl,aC,ba,aw,hm⟩
 .exact⟨p,c,rfl,fun h=>absurd h (Nat.lt_irrefl _)⟩
 .exact⟨_,c,rfl,fun _=>⟨b,rfl,aC,ba,aw,hm⟩⟩
theorem MO{a b c d e:Option Addr}{lD jY pn r4 n5 c1 c2 bP bX xC:Nat}{n:Int}:∀x∈(#[.slice a lD c1,.slice b jY c2,.slice c pn bP,.int .i64 n,.slice d r4 bX,.slice e n5 xC]:Array Value).toList,x.oneCell'=true:=by simp[Value.oneCell']
theorem akR(cs:List Value)(m:o.Model)(w:World)(h:o.ec w cs m)(aZ:m.cQ)(bc:hv w) :
  bu Tryz.prog F.xD #[.agg cs.toArray] w fun u w'=>(∃b n,((o.ni m=[]/\n=0/\u = .slice none 0 0)\/u = .slice (some ⟨b,0,none⟩) n n/\n=(o.ni m).length/\w.heap.size<=b/\w'.heap[b]? = some (.cells (j7 (o.ni m)).toArray T.p)))/\Ext w w':=by
 have dP:=h;obtain⟨cz,bS,b9,c1,cn,c2,cp,bP,cA,bX,rfl,ak,h1,U,ag,aJ,eI,ej,eo,dX,ep⟩:=h.form;refine bL E.xD ?_;refine bG ?_;refine ae ?_;intro av bC cR aB ao;refine ae ?_;refine K.call (AX _ m av (dP.ext aB) aZ (bc.ext aB)) ?_;rintro _ aU ⟨rfl,aA⟩;replace ao:=aA.obj ao;have a6:=aB.trans aA;refine ae ?_;refine K.jf (v:=.int .i64 (o.check m).cX) rfl ?_;refine ae ?_;apply K.cond<;>intro g1;rotate_left
 .have e:o.ni m=[]:=by unfold o.ni;rw[if_neg g1]
  refine ae ?_;exact⟨⟨0,0,.inl ⟨e,rfl,bk⟩⟩,a6⟩
 have kc:=o.lZ g1;have LU:o.lay m=o.layout m:=by unfold o.lay;rw[if_pos g1]
 refine ef ?_;refine K.gU [1] (fun x:Nat×Value=>[(3,.pointer (some ⟨x.1,0,none⟩)),(4,x.2)]) (fun x W => ∃ys:List Value,W.heap[x.1]? = some (.cells ys.toArray T.g)/\o.ja W ys (o.layout m)/\kK W x.2 (o.insts m)/\Ext aU W) ?_ ?_
 .have LW:∀{W},Ext aU W->bu Tryz.prog F.x #[.agg #[.slice cz m.scalars.length bS,.slice b9 m.vars.length c1,.slice cn m.aM.length c2,.slice cp m.procs.length bP,.slice cA m.props.length bX]] W fun v w'=>(∃gp d0 eO d1 fz d2 gb d3 gA d4,v = .agg #[.slice gp (o.layout m).vars.length d0,.slice eO (o.layout m).aM.length d1,.slice fz (o.layout m).insts.length d2,.int .i64 (o.layout m).cells,.slice gb (o.layout m).bf.length d3,.slice gA (o.layout m).ad.length d4]/\eH W (fun w=>o.ja w [.slice gp (o.layout m).vars.length d0,.slice eO (o.layout m).aM.length d1,.slice fz (o.layout m).insts.length d2,.int .i64 (o.layout m).cells,.slice gb (o.layout m).bf.length d3,.slice gA (o.layout m).ad.length d4] (o.layout m)) w')/\Ext W w':=fun {W} he=>(Wh _ m W (dP.ext (a6.trans he)) aZ (bc.ext (a6.trans he))).mono fun v w' ⟨⟨xs,aT,aD⟩,gP⟩=>by
   rw[LU] at aD;obtain⟨gp,d0,eO,d1,fz,d2,gb,d3,gA,d4,rfl,_⟩:=aD.here.form;exact⟨⟨gp,d0,eO,d1,fz,d2,gb,d3,gA,d4,aT,aD⟩,gP⟩
  have qN:∀{W},Ext aU W->bu Tryz.prog F.a #[.agg #[.slice cz m.scalars.length bS,.slice b9 m.vars.length c1,.slice cn m.aM.length c2,.slice cp m.procs.length bP,.slice cA m.props.length bX]] W fun v w'=>(∃cU ci,v = .slice cU (o.insts m).length ci/\bs o.c8.enc T.l 2 W.heap.size w' v (o.insts m))/\Ext W w':=fun {W} he=>(Aw _ m W (dP.ext (a6.trans he)) aZ).mono fun v w' ⟨aT,gP⟩=>by
   obtain⟨cU,ci,rfl,_⟩:=aT.form;exact⟨⟨cU,ci,rfl,aT⟩,gP⟩
  refine ef ?_;intro bb ax;replace ao:=ax.obj ao;refine ae ?_;refine⟨?_,?_⟩
  .refine K.call (LW ax) ?_;rintro _ bp ⟨⟨gp,d0,eO,d1,fz,d2,gb,d3,gA,d4,rfl,c7⟩,aN⟩;have b0:=ax.trans aN;refine⟨aN,?_⟩;refine ae ?_;refine⟨?_,?_⟩
   .refine K.call (qN b0) ?_;rintro _ bR ⟨⟨cU,ci,rfl,bB⟩,aW⟩;have b3:=b0.trans aW;refine ae ?_;intro bY b5 fo a8 bz;refine⟨(aN.trans aW).trans a8,?_⟩;refine K.h6 bz rfl rfl MO fun cd dB cS=>?_;have dw:=dB.ext a8 fo;refine ae ?_;exact⟨(b5,_),⟨bk,bk,trivial⟩,_,cS,c7.here.ext (aW.trans dw),(bs.iW (enc:=o.c8.enc) (fun _=>rfl) bB).ext Flat.ext dw,b3.trans dw⟩
   .refine K.new ?_;intro bR b5 fo aW bz;have b3:=b0.trans aW;have cw:=cH bz;refine⟨aN.trans aW,?_⟩;refine ae ?_;refine K.call (qN b3) ?_;rintro _ bY ⟨⟨cU,ci,rfl,bB⟩,a8⟩;refine ae ?_;refine K.h6 (a8.obj bz) rfl rfl MO fun cd dB cS=>?_;have dw:=dB.ext (aW.trans a8) fo;refine ae ?_;exact⟨(b5,_),⟨bk,bk,trivial⟩,_,cS,c7.here.ext dw,bs.iW (enc:=o.c8.enc) (fun _=>rfl) (bs.wr dB cw bB),b0.trans dw⟩
  .refine K.new ?_;intro bp b5 fo aN bz;have b0:=ax.trans aN;have cw:=cH bz;refine⟨aN,?_⟩;refine ae ?_;refine K.call (LW b0) ?_;rintro _ bR ⟨⟨gp,d0,eO,d1,fz,d2,gb,d3,gA,d4,rfl,c7⟩,aW⟩;have b3:=b0.trans aW;have z5:=aW.size;refine⟨aN.trans aW,?_⟩;refine ae ?_;refine K.call (qN b3) ?_;rintro _ bY ⟨⟨cU,ci,rfl,bB⟩,a8⟩;refine ae ?_;refine K.h6 ((aW.trans a8).obj bz) rfl rfl MO fun cd dB cS=>?_;have dw:=dB.ext ((aN.trans aW).trans a8) fo;refine ae ?_;exact⟨(b5,_),⟨bk,bk,trivial⟩,_,cS,((c7.ext a8 z5).wr dB cw).here,bs.iW (enc:=o.c8.enc) (fun _=>rfl) (bs.wr dB (by omega) bB),ax.trans dw⟩
 rintro⟨b5,cy⟩ S bb ⟨ys,bz,c7,bB,ax⟩;dsimp only at bz c7 bB ⊢;replace ao:=ax.obj ao;have bK:=a6.trans ax;have o3:=c7;obtain⟨gp,d0,eO,d1,fz,d2,gb,d3,gA,d4,rfl,_⟩:=c7.form;have eM:(o.layout m).cells=(o.eA m:Nat):=rfl;have pU:o.eA m<=64:=o.nf kc;have rM:=o.Xb g1;refine ae ?_;refine K.WE (o.eA m) eM (by omega) fun bp b aC aN bA=>?_;refine ae ?_;intro wn bW mW gH fG;refine ae ?_;intro bR eZ jy;have aW:Ext bp bR:=eZ.ext gH mW;clear fG;have hS:=aN.trans aW;have oq:lN bR bW b (o.eA m) (o.wV m 0):=⟨jy,_,aW.obj bA,o.nA.start _⟩;have kR:=cH (aW.obj bA);have qJ:∀{W},Mod (fun i=>i=b) bR W->Ext bb W:=fun hm=>hm.ext hS fun k hk e=>by omega
 have aeD:=hS.obj ao;have Hj:=hS.obj bz;clear bA jy;refine ae ?_;refine K.dj 24 m.props.length [1,3,4,5,22,23] (fun _:Unit=>[]) () (fun k _ W=>lN W bW b (o.eA m) (o.wV m k)/\Mod (fun i=>i=b) bR W) bx bx ⟨oq,Mod.refl _ _⟩ ?_;rintro k _ kt bY hk ⟨G3,lU⟩;have vV:=qJ lU;have cV:=bK.trans vV;have aej:=G3.box;have sP:=vV.obj ao;have aes:=vV.obj bz;clear aeD Hj;refine ae ?_;apply K.cond<;>intro g2;rotate_left
 .have jz:k=m.props.length:=by omega
  rw[jz,o.akK] at G3;obtain⟨al,bc,ay⟩:=G3.row;have lW:=ay.akP g1;subst lW;have aS:=ay.len;refine ae ?_;exact⟨⟨b,o.eA m,.inr ⟨rfl,aS.symm,by have:=bK.size;omega,bc⟩⟩,cV⟩
 have de:k<m.props.length:=by omega
 obtain⟨a4,rfl⟩:=aJ.addr (by omega);obtain⟨mr,ht,dL,gY⟩:=aJ.at k de;obtain⟨Iq,ce,rfl,_⟩:=gY.form;have eU:=o.Nj g1 de;have hle:=eU.len;unfold o.ks.enc at dL;have afM:=dL.ext cV;refine ae ?_;intro cd lh jw bJ cS;have dw:=cV.trans bJ;refine ae ?_;refine K.call (ama _ m.props[k].expr cd (gY.ext dw) (by omega)) ?_;rintro _ dg ⟨⟨r,ba,adE⟩,bV⟩;obtain⟨bl,c,rfl,nP⟩:=adE.form;have uk:=bJ.trans bV;have x1:=G3.ext uk;have nN:=lU.trans uk.mod;have qK:=bJ.size;have e6:b<bY.heap.size:=by have:=lU.size;omega
 clear cS afM aej sP aes;refine ae ?_;refine K.dj 32 r.length [1,3,4,5,22,23,24,30,31] (fun _:Unit=>[]) () (fun i _ W=>lN W bW b (o.eA m) (o.wV m k++(r.take i).flatMap (o.fU m 0 false))/\Mod (fun i=>i=b) dg W) bx bx ⟨by simpa using x1,Mod.refl _ _⟩ ?_;rintro i _ Jx ea ad ⟨G4,qR⟩;have UW:=nN.trans qR;have GZ:=qJ UW;have iz:=bK.trans GZ;have TU:=G4.box;have C9:=GZ.obj ao;have TX:=GZ.obj bz;refine ae ?_;apply K.cond<;>intro g3;rotate_left
 .have afb:i=r.length:=by omega
  rw[afb,List.take_length] at G4;refine ae ?_;refine⟨de,bk,(),trivial,G4.congr fun z=>?_,UW⟩;rw[o.akL de,List.mem_append,List.mem_append,o.al9 ba]
 have ky:i<r.length:=by omega
 obtain⟨tG,rfl,K6,afz,HJ,DI⟩:=nP (by omega);have zZ:=(afz.mod qR (by omega)).Ye HJ DI;obtain⟨Mv,_⟩:=(ba.mem r[i]).1 (List.getElem_mem ky);have aow:r.length<=9223372036854775807:=by unfold maxLen at DI;omega
 have dt:(r[i]).ok:=by
  have Vb:=List.length_pos_of_mem Mv;obtain⟨xr,rfl⟩:=gY.addr Vb;obtain⟨j,aR,pN⟩:=List.mem_iff_getElem.1 Mv;rw[<-pN];exact(gY.at j aR).ok
 have agb:=o.Xc g1 de Mv;refine ae ?_;intro e3 hi lp cv dJ;replace TU:=cv.obj TU;replace C9:=cv.obj C9;replace TX:=cv.obj TX;refine ae ?_;refine K.call (ab0 r[i] _ _ _ bW b _ m bb e3 (dP.ext bK) o3 bB (GZ.trans cv) aC (G4.ext cv) kc agb dt) ?_;rintro _ gg ⟨adW,HF⟩;refine ae ?_;refine⟨ky,bk,(),trivial,?_,(qR.trans cv.mod).trans HF⟩;rw[List.take_succ_eq_append_getElem ky,List.flatMap_append,<-List.append_assoc];simpa using adW
theorem Sp(cs:List Value)(cy:Value)(m:o.Model)(ref:Int)(q p k:Nat)(w:World)(h:o.ec w cs m)(bB:kK w cy (o.insts m))(cf:o.gl m ref q p k)(x:o.Ref)(kl:x.inst=q)(hA:x.cmd=k) :
  bu Tryz.prog F.j #[.agg cs.toArray,cy,.agg x.enc.toArray] w fun u w'=>(∃fB ee,u = .agg ((o.cL m p k).enc fB ee).toArray/\o.fW w fB (o.cL m p k).guard/\o.nt w ee (o.cL m p k).cb)/\Ext w w':=by
 obtain⟨cz,bS,b9,c1,cn,c2,cp,bP,cA,bX,rfl,ak,h1,U,ag,aJ,eI,ej,eo,dX,ep⟩:=h.form;obtain⟨cU,ci,rfl,_⟩:=bB.form;have aG:=cf.at_.ad;have aO:=cf.at_.aO;have nM:=cf.at_.hk;have ov:=cf.at_.ip;obtain⟨jc,rfl⟩:=bB.addr (by omega);obtain⟨a3,rfl⟩:=ag.addr (by omega);obtain⟨mr,cE,dT,dL,eR,gn⟩:=ag.at p aO;obtain⟨Ip,Gq,rfl,Ib⟩:=gn.form;obtain⟨ac,rfl⟩:=gn.addr (by omega);obtain⟨fG,fB,ee,gu,kz,iE⟩:=gn.at k nM;obtain⟨hM,gF,rfl,_⟩:=kz.form;obtain⟨wM,vD,rfl,_⟩:=iE.form;have pV:=o.xG aO nM;have zS:x.enc=[.int .i64 q,.int .i64 k]:=by unfold o.Ref.enc;rw[kl,hA]
 rw[zS];unfold o.dz.enc at dL;unfold o.dI.enc at gu;refine bL E.j ?_;refine bG ?_;refine ae ?_;intro av b5 fo aB bz;refine ae ?_;intro aU dR kR aA cD;replace bz:=aA.obj bz;refine ae ?_;intro bb ek e6 ax ct;replace bz:=ax.obj bz;replace cD:=ax.obj cD;have bK:=(aB.trans aA).trans ax;have kq:=aB.size;have yZ:=aA.size;intro bp aN;replace bz:=aN.obj bz;replace cD:=aN.obj cD;replace ct:=aN.obj ct;have b0:=bK.trans aN;have Ty:=bB.ext Flat.ext b0;have aou:=dL.ext b0;have an6:=gu.ext b0;refine ae ?_;refine K.dp p (by rw[ov]) aO ?_;refine ae ?_;intro bR eZ aeu;refine ae ?_;exact⟨⟨.slice hM (o.cL m p k).guard.length gF,.slice wM (o.cL m p k).cb.length vD,by rw[pV];rfl,by rw[pV];exact kz,by rw[pV];exact iE⟩,eZ.ext b0 (by omega)⟩
structure vt(w:World)(bW b:Nat)(al:List Bool):Prop where
 box:w.heap[bW]? = some (.cells #[.slice (some ⟨b,0,none⟩) al.length al.length] T.z)
 row:w.heap[b]? = some (.cells (j7 al).toArray T.p)
theorem vt.ext{w w':World}{bW b:Nat}{al:List Bool}(h:vt w bW b al)(he:Ext w w'):vt w' bW b al:=⟨he.obj h.box,he.obj h.row⟩
def rb(al:List Bool)(x:Int):Bool:=(al[x.toNat]?).getD false
theorem aly(x:Int)(bW b:Nat)(al:List Bool)(w:World)(h:vt w bW b al)(ak:0<=x)(h1:x.toNat<al.length) :
  bu Tryz.prog F.v #[.int .i64 x,.pointer (some ⟨bW,0,none⟩)] w fun v w'=>v = .bool (rb al x)/\Ext w w':=by
 have mW:=h.box;have aw:w.cell? (Addr.add ⟨b,0,none⟩ (x.toNat*1))=some (.bool (rb al x)):=e8 h.row (by rw[Nat.mul_one];simp[j7,rb,h1]);refine bL E.v ?_;refine bG ?_;refine ae ?_;refine K.dp x.toNat (by omega) h1 ?_;refine ae ?_;refine K.ld aw ?_;refine ae ?_;exact⟨bk,Ext.refl _⟩
theorem akZ(v:Value)(l:List Int)(bW b:Nat)(al:List Bool)(w:World)(h:eT w v l)(cg:0<l.length->vt w bW b al)(aS:∀x∈l,0<=x/\x.toNat<al.length) :
  bu Tryz.prog F.Cm #[v,.func (.func F.v) #[] #[.pointer (some ⟨bW,0,none⟩)]] w fun ck w'=>ck = .int .i64 (qG (rb al) l 0)/\Ext w w':=by
 obtain⟨b9,c1,rfl,bC⟩:=h.form;refine bL E.Cm ?_;refine bG ?_;refine ae ?_;refine K.dj 8 l.length [0,1,7] (fun _:Unit=>[]) () (fun k _ w'=>Ext w w'/\qG (rb al) l 0=qG (rb al) (l.drop k) k) bx bx ⟨Ext.refl _,by simp⟩ ?_;rintro k _ S aU hk ⟨aA,bB⟩;have U:=h.ext Flat.ext aA;refine ae ?_;apply K.cond<;>intro g1
 .have br:k<l.length:=by omega
  obtain⟨a,rfl⟩:=h.addr (by omega);obtain⟨qc,dH⟩:=aS _ (List.getElem_mem br);rw[S5 br] at bB;refine ae ?_;refine K.mS (first:=[]) (cap:=[.pointer (some ⟨bW,0,none⟩)]) (by kernel_rfl) (aly l[k] bW b al aU ((cg (by omega)).ext aA) qc dH) ?_;rintro _ bb ⟨rfl,ax⟩;cases ay:rb al l[k] with
  | true =>
   rw[ay,if_pos rfl] at bB;refine ae ?_;exact⟨by rw[bB],aA.trans ax⟩
  | false =>
   rw[ay,if_neg (by simp)] at bB;refine ae ?_;exact⟨br,bk,(),trivial,aA.trans ax,bB⟩
 .refine ae ?_;exact⟨by rw[bB,List.drop_eq_nil_of_le (by omega)];rfl,aA⟩
theorem akJ(v:Value)(l:List Int)(bW b:Nat)(al:List Bool)(w:World)(h:eT w v l)(cg:0<l.length->vt w bW b al)(aS:∀x∈l,0<=x/\x.toNat<al.length) :
  bu Tryz.prog F.zw #[v,.func (.func F.v) #[] #[.pointer (some ⟨bW,0,none⟩)]] w fun ck w'=>ck = .bool (l.any (rb al))/\Ext w w':=by
 refine bL E.zw ?_;refine bG ?_;refine ae ?_;refine K.call (akZ v l bW b al w h cg aS) ?_;rintro _ aU ⟨rfl,aA⟩;refine ae ?_;refine⟨?_,aA⟩;congr 1;exact Bool.eq_iff_iff.2 (by rw[decide_eq_true_eq];exact KC)
structure amV(w:World)(b N:Nat)(L:List Int):Prop where
 row:∃al,w.heap[b]? = some (.cells (j7 al).toArray T.p)/\o.nA N L al
end Go.Proofs.R
end
section
namespace o
structure P8(m:Model):Prop where
 s:m.scalars.length<=8
 v:m.vars.length<=20
 c:m.aM.length<=8
 p:m.procs.length<=10
 q:m.props.length<=16
 i:∀(j:Nat) (h:j<m.procs.length),m.procs[j].vars.length<=10/\m.procs[j].cI.length<=16
end o
namespace Go.Proofs.R
open Go Go.RowKit bt
theorem ahI(cs:List Value)(c:o.dI)(w:World)(h:o.w8 w cs c) :
  bu Tryz.prog F.Et #[.agg cs.toArray] w fun v w'=>(∃b:Bool,v = .bool b)/\Ext w w':=by
 obtain⟨ak,_,_,rfl,aZ,bo⟩:=h;obtain⟨_,_,rfl,_⟩:=aZ.form;obtain⟨bl,gO,rfl,oC⟩:=bo.form;unfold o.dI.enc;refine bL E.Et ?_;refine bG ?_;refine aa ?_;intro av bC cR aB ao;refine aa ?_;apply K.cond<;>intro g0
 .refine aa ?_;exact⟨⟨_,rfl⟩,aB⟩
 refine aa ?_;apply K.cond<;>intro g1
 .refine aa ?_;exact⟨⟨_,rfl⟩,aB⟩
 refine aa ?_;apply K.cond<;>intro g2
 .refine aa ?_;exact⟨⟨_,rfl⟩,aB⟩
 refine aa ?_;refine K.dj 3 c.cb.length [1] (fun _=>[]) () (fun k _ w'=>w'=av) bx bx rfl ?_;rintro k _ S aU hk rfl;refine aa ?_;apply K.cond<;>intro g5
 .have br:k<c.cb.length:=by omega
  obtain⟨a,rfl⟩:=bo.addr (by omega);obtain⟨cE,dT,aO,eR,dL⟩:=bo.at k br;obtain⟨e1,fv,rfl,ga⟩:=eR.form;obtain⟨oE,oe,rfl,lc⟩:=dL.form;refine aa ?_;apply K.cond<;>intro g6
  .refine aa ?_;exact⟨⟨_,rfl⟩,aB⟩
  refine aa ?_;apply K.cond<;>intro g7
  .refine aa ?_;exact⟨⟨_,rfl⟩,aB⟩
  refine aa ?_;exact⟨br,bk,(),trivial,bk⟩
 refine aa ?_;exact⟨⟨_,rfl⟩,aB⟩
theorem ahH(cs:List Value)(m:o.Model)(w:World)(h:o.ec w cs m) :
  bu Tryz.prog F.Ep #[.agg cs.toArray] w fun v w'=>(∃b,v = .bool b/\(b=true->o.P8 m))/\Ext w w':=by
 obtain⟨cz,bS,b9,c1,cn,c2,cp,bP,cA,bX,rfl,ak,h1,U,ag,aJ,eI,ej,eo,dX,ep⟩:=h.form;refine bL E.Ep ?_;refine bG ?_;refine aa ?_;intro av bC cR aB ao;refine aa ?_;apply K.cond<;>intro g0
 .refine aa ?_;exact⟨⟨false,rfl,fun h=>by cases h⟩,aB⟩
 refine aa ?_;apply K.cond<;>intro g1
 .refine aa ?_;exact⟨⟨false,rfl,fun h=>by cases h⟩,aB⟩
 refine aa ?_;apply K.cond<;>intro g2
 .refine aa ?_;exact⟨⟨false,rfl,fun h=>by cases h⟩,aB⟩
 refine aa ?_;apply K.cond<;>intro g3
 .refine aa ?_;exact⟨⟨false,rfl,fun h=>by cases h⟩,aB⟩
 refine aa ?_;apply K.cond<;>intro g4
 .refine aa ?_;exact⟨⟨false,rfl,fun h=>by cases h⟩,aB⟩
 have o4:=ao;refine aa ?_;refine K.dj 3 m.procs.length [1] (fun _=>[]) () (fun k _ w'=>Ext av w'/\∀j (h:j<m.procs.length),j<k->m.procs[j].vars.length<=10/\m.procs[j].cI.length<=16) bx bx ⟨Ext.refl _,fun j _ h=>absurd h (Nat.not_lt_zero _)⟩ ?_;rintro k _ S aU hk ⟨aA,dF⟩;replace ao:=aA.obj o4;have a6:=aB.trans aA;refine aa ?_;apply K.cond<;>intro g5
 .have br:k<m.procs.length:=by omega
  obtain⟨a,rfl⟩:=ag.addr (by omega);obtain⟨_,cE,dT,aO,eR,dL⟩:=ag.at k br;obtain⟨e1,fv,rfl,ga⟩:=eR.form;obtain⟨oE,oe,rfl,lc⟩:=dL.form;refine aa ?_;apply K.cond<;>intro g6
  .refine aa ?_;exact⟨⟨false,rfl,fun h=>by cases h⟩,a6⟩
  refine aa ?_;apply K.cond<;>intro g7
  .refine aa ?_;exact⟨⟨false,rfl,fun h=>by cases h⟩,a6⟩
  refine aa ?_;refine K.dj 4 m.procs[k].cI.length [1,3] (fun _=>[]) () (fun i _ w'=>Ext av w') bx bx aA ?_;clear ao a6 aA;rintro i _ S bb ad aA;have ao:=aA.obj o4;have a6:=aB.trans aA;refine aa ?_;apply K.cond<;>intro g8
  .have cO:i<m.procs[k].cI.length:=by omega
   obtain⟨ac,rfl⟩:=dL.addr (by omega);obtain⟨ani,gu,cf⟩:=Rel.out (dL.at i cO);obtain⟨_,_,_,rfl,_,_⟩:=id cf;refine aa ?_;refine K.call (ahI _ m.procs[k].cI[i] bb (cf.ext a6)) ?_;rintro _ bp ⟨⟨b,rfl⟩,aN⟩;cases b with
   | false =>
    refine aa ?_;exact⟨⟨false,rfl,fun h=>by cases h⟩,a6.trans aN⟩
   | true =>
    refine aa ?_;exact⟨cO,bk,(),trivial,aA.trans aN⟩
  .refine aa ?_;refine⟨br,bk,(),trivial,aA,fun j aR h2=>?_⟩;by_cases kU:j=k
   .subst kU;exact⟨by omega,by omega⟩
   .exact dF j aR (by omega)
 refine aa ?_;refine K.dj 5 m.props.length [1] (fun _=>[]) () (fun i _ w'=>w'=aU) bx bx rfl ?_;rintro i _ S bb ad rfl;refine aa ?_;apply K.cond<;>intro g8
 .have cO:i<m.props.length:=by omega
  obtain⟨ac,rfl⟩:=aJ.addr (by omega);obtain⟨_,ht,gu,lx⟩:=aJ.at i cO;obtain⟨e1,fv,rfl,ga⟩:=lx.form;refine aa ?_;apply K.cond<;>intro g9
  .refine aa ?_;exact⟨⟨false,rfl,fun h=>by cases h⟩,a6⟩
  refine aa ?_;exact⟨cO,bk,(),trivial,bk⟩
 refine aa ?_;exact⟨⟨true,rfl,fun _=>⟨by omega,by omega,by omega,by omega,by omega,fun j aR=>dF j aR (by omega)⟩⟩,a6⟩
end Go.Proofs.R
end
section
namespace o
open Go
structure nB(m:Model)(ref:Int)(t:Bool):Prop where
 none:¬Told m ref->t=false
 there:∀q p k a b,gl m ref q p k->jq m ref a b->(t=true↔(cL m p k).to<=(cL m p k).from_\/∃x∈b,x∈qh m)
theorem nB.no{m:Model}{ref:Int}(h:¬Told m ref):nB m ref false:=⟨fun _=>rfl,fun _ _ _ _ _ cf=>absurd cf.told h⟩
theorem nB.of{m:Model}{ref:Int}{q p k:Nat}{a b:List Int}{t:Bool}(cf:gl m ref q p k)(dr:jq m ref a b)(h:t=true↔(cL m p k).to<=(cL m p k).from_\/∃x∈b,x∈qh m):nB m ref t :=
 ⟨fun aD=>absurd cf.told aD,fun hC hN k' di ib adG adS=>by
  obtain⟨rfl,rfl,rfl⟩:=cf.one adG;obtain⟨rfl,rfl⟩:=dr.eq adS;exact h⟩
theorem amz{m:Model}{ref:Int}{q p k:Nat}{a b:List Int}(cf:gl m ref q p k)(dr:jq m ref a b):∀x∈b,0<=x/\x<eA m:=fun x au=>write_lt cf x (((dr.there q p k cf).2.mem x).1 au)
end o
namespace Go.Proofs.R
open Go Go.RowKit bt
theorem akD{m:o.Model}{b:List Int}(hk:(o.check m).cX=0)(aC:∀x∈b,0<=x/\x<o.eA m):b.any (rb (o.ni m))=true↔∃x∈b,x∈o.qh m:=by
 rw[List.any_eq_true];have key:∀x∈b,(rb (o.ni m) x=true↔x∈o.qh m):=fun x au=>by
  obtain⟨ak,h1⟩:=aC x au;unfold rb o.ni;rw[if_pos hk,List.getElem?_map,List.getElem?_range (by omega)];simp only[Option.map_some,Option.getD_some,decide_eq_true_eq];rw[show((x.toNat:Nat):Int)=x from by omega]
 constructor
 .rintro⟨x,au,h⟩;exact⟨x,au,(key x au).1 h⟩
 .rintro⟨x,au,h⟩;exact⟨x,au,(key x au).2 h⟩
theorem akQ{m:o.Model}(hk:(o.check m).cX=0):(o.ni m).length=o.eA m:=by unfold o.ni;rw[if_pos hk];simp
theorem vI{s:ByteArray}{f t:Int}{a b:Option Addr}{lD jY c1 c2:Nat}{y:Bool}:∀x∈(#[.string s,.int .i64 f,.int .i64 t,.slice a lD c1,.slice b jY c2,.bool y]:Array Value).toList,x.oneCell'=true:=by simp[Value.oneCell']
theorem Sq(cs:List Value)(m:o.Model)(ref:Int)(w:World)(h:o.ec w cs m)(aZ:m.cQ)(bc:hv w) :
  bu Tryz.prog F.p #[.agg cs.toArray,.int .i64 ref] w fun u w'=>(∃t,u = .bool t/\o.nB m ref t)/\Ext w w':=by
 have dP:=h;obtain⟨cz,bS,b9,c1,cn,c2,cp,bP,cA,bX,rfl,_⟩:=h.form;refine bL E.p ?_;refine bG ?_;refine ae ?_;intro av cr dQ aB aP;refine ae ?_;refine K.call (AX _ m av (dP.ext aB) aZ (bc.ext aB)) ?_;rintro _ aU ⟨rfl,aA⟩;replace aP:=aA.obj aP;have a6:=aB.trans aA;refine ae ?_;refine K.jf (v:=.int .i64 (o.check m).cX) rfl ?_;refine ae ?_;apply K.cond<;>intro g1;rotate_left
 .refine ae ?_;exact⟨⟨false,bk,o.nB.no fun h=>g1 h.1⟩,a6⟩
 have kc:=o.lZ g1;have kk:=o.wQ kc.lim;refine ae ?_;refine K.call (E4 _ m aU (dP.ext a6) kc.lim) ?_;rintro j0 bb ⟨jk,ax⟩;obtain⟨iI,pM,rfl,_⟩:=jk.form;have sK:bF 2 (Flat o.Ref.enc) bb _ _:=bs.iW (enc:=o.Ref.enc) (fun _=>rfl) jk;replace aP:=ax.obj aP;have bK:=a6.trans ax;clear jk;refine ae ?_;apply K.cond<;>intro g2
 .refine ae ?_;exact⟨⟨false,bk,o.nB.no fun h=>by have:=h.2.1;omega⟩,bK⟩
 refine ae ?_;apply K.cond<;>intro g3
 .refine ae ?_;exact⟨⟨false,bk,o.nB.no fun h=>by have:=h.2.2;omega⟩,bK⟩
 obtain⟨q,p,k,cf⟩:=o.tM (m:=m) (ref:=ref) ⟨g1,by omega,by omega⟩;obtain⟨r,rfl⟩:=Int.eq_ofNat_of_zero_le (show 0<=ref by omega);have ba:r<(o.refs m).length:=by omega
 have jB:(o.refs m)[r].inst=(q:Int):=cf.at_.u0;have oy:(o.refs m)[r].cmd=(k:Int):=cf.at_.wR;obtain⟨lg,rfl⟩:=sK.addr (by omega);refine ef ?_;refine K.gU [1,2] (fun ek:Nat=>[(6,.pointer (some ⟨ek,0,none⟩))]) (fun ek W=>(∃hM gF bl gO,W.heap[ek]? = some (.cells #[.string (o.cL m p k).name,.int .i64 (o.cL m p k).from_,.int .i64 (o.cL m p k).to,.slice hM (o.cL m p k).guard.length gF,.slice bl (o.cL m p k).cb.length gO,.bool (o.cL m p k).fair] T.h))/\Ext bb W) ?_ ?_
 .have qN:∀{W},Ext bb W->bu Tryz.prog F.a #[.agg #[.slice cz m.scalars.length bS,.slice b9 m.vars.length c1,.slice cn m.aM.length c2,.slice cp m.procs.length bP,.slice cA m.props.length bX]] W fun v w'=>(∃cU ci,v = .slice cU (o.insts m).length ci/\kK w' v (o.insts m))/\Ext W w':=fun {W} he=>(Aw _ m W (dP.ext (bK.trans he)) aZ).mono fun v w' ⟨aT,gP⟩=>by
   obtain⟨cU,ci,rfl,_⟩:=aT.form;exact⟨⟨cU,ci,rfl,bs.iW (enc:=o.c8.enc) (fun _=>rfl) aT⟩,gP⟩
  have en:∀{W} {cy},Ext bb W->kK W cy (o.insts m)->bu Tryz.prog F.j #[.agg #[.slice cz m.scalars.length bS,.slice b9 m.vars.length c1,.slice cn m.aM.length c2,.slice cp m.procs.length bP,.slice cA m.props.length bX],cy,.agg ((o.refs m)[r]).enc.toArray] W fun u w'=>(∃hM gF bl gO,u = .agg #[.string (o.cL m p k).name,.int .i64 (o.cL m p k).from_,.int .i64 (o.cL m p k).to,.slice hM (o.cL m p k).guard.length gF,.slice bl (o.cL m p k).cb.length gO,.bool (o.cL m p k).fair])/\Ext W w':=fun {W cy} he ad=>(Sp _ cy m r q p k W (dP.ext (bK.trans he)) ad cf _ jB oy).mono fun u w' ⟨⟨fB,ee,hu,aD,bo⟩,gP⟩=>by
   obtain⟨hM,gF,rfl,_⟩:=aD.form;obtain⟨bl,gO,rfl,_⟩:=bo.form;exact⟨⟨hM,gF,bl,gO,hu⟩,gP⟩
  refine ae ?_;intro bp aN;replace aP:=aN.obj aP;have KV:=sK.ext Flat.ext aN;refine ae ?_;refine⟨?_,?_⟩
  .refine K.call (qN aN) ?_;rintro _ bR ⟨⟨cU,ci,rfl,bB⟩,aW⟩;have b3:=aN.trans aW;refine⟨aW,?_⟩;refine ae ?_;refine⟨?_,?_⟩
   .refine K.call (en b3 bB) ?_;rintro _ bY ⟨⟨hM,gF,bl,gO,rfl⟩,a8⟩;have cV:=b3.trans a8;refine ae ?_;intro cd ek e6 bJ ct;refine⟨(aW.trans a8).trans bJ,?_⟩;refine K.h6 ct rfl rfl vI fun dg iG cK=>?_;have dW:=iG.ext bJ e6;refine ae ?_;exact⟨ek,⟨bk,trivial⟩,⟨_,_,_,_,cK⟩,cV.trans dW⟩
   .refine K.new ?_;intro bY ek e6 a8 ct;have cV:=b3.trans a8;refine⟨aW.trans a8,?_⟩;refine ae ?_;refine K.call (en cV (bB.ext Flat.ext a8)) ?_;rintro _ cd ⟨⟨hM,gF,bl,gO,rfl⟩,bJ⟩;refine ae ?_;refine K.h6 (bJ.obj ct) rfl rfl vI fun dg iG cK=>?_;have dW:=iG.ext (a8.trans bJ) e6;refine ae ?_;exact⟨ek,⟨bk,trivial⟩,⟨_,_,_,_,cK⟩,b3.trans dW⟩
  .refine K.new ?_;intro bR ek e6 aW ct;have b3:=aN.trans aW;refine⟨aW,?_⟩;refine ae ?_;refine K.call (qN b3) ?_;rintro _ bY ⟨⟨cU,ci,rfl,bB⟩,a8⟩;have cV:=b3.trans a8;refine⟨aW.trans a8,?_⟩;refine ae ?_;refine K.call (en cV bB) ?_;rintro _ cd ⟨⟨hM,gF,bl,gO,rfl⟩,bJ⟩;refine ae ?_;refine K.h6 ((a8.trans bJ).obj ct) rfl rfl vI fun dg iG cK=>?_;have dW:=iG.ext ((aW.trans a8).trans bJ) e6;refine ae ?_;exact⟨ek,⟨bk,trivial⟩,⟨_,_,_,_,cK⟩,aN.trans dW⟩
 rintro ek S bp ⟨⟨hM,gF,bl,gO,ct⟩,aN⟩;replace aP:=aN.obj aP;have b0:=bK.trans aN;refine ae ?_;refine K.call (Zv _ m (r:Int) bp (dP.ext b0) aZ (bc.ext b0)) ?_;rintro _ bR ⟨⟨ah,bT,a,b,rfl,eL,jh,dr⟩,aW⟩;have b3:=b0.trans aW;replace aP:=aW.obj aP;replace ct:=aW.obj ct;have eU:=o.amz cf dr;have hlen:=akQ g1;refine ae ?_;refine K.call (akR _ m bR (dP.ext b3) aZ (bc.ext b3)) ?_;rintro amn bY ⟨⟨hi,n,aT⟩,a8⟩;have cV:=b3.trans a8;replace ct:=a8.obj ct;have fin:∀(W:World) (bW:Nat),Ext bY W->(0<b.length->vt W bW hi (o.ni m))->bu Tryz.prog F.zw #[bT,.func (.func F.v) #[] #[.pointer (some ⟨bW,0,none⟩)]] W fun ck w'=>ck = .bool (b.any (rb (o.ni m)))/\Ext W w':=fun W bW he cg =>
  akJ bT b bW hi _ W (jh.ext Flat.ext (a8.trans he)) cg fun x au=>⟨(eU x au).1,by have:=eU x au;omega⟩
 have kA:∃p,amn = .slice p n n/\(0<b.length->p=some ⟨hi,0,none⟩/\n=(o.ni m).length/\bY.heap[hi]? = some (.cells (j7 (o.ni m)).toArray T.p)):=by
  rcases aT with ⟨ay,rfl,rfl⟩ | ⟨rfl,aD,_,nP⟩
  .refine⟨none,rfl,fun aC=>?_⟩;have h1:=eU _ (List.getElem_mem aC);rw[ay] at hlen;simp at hlen;omega
  .exact⟨_,rfl,fun _=>⟨rfl,aD,nP⟩⟩
 obtain⟨apv,rfl,afL⟩:=kA;refine ae ?_;intro wn bW mW gH fG;refine ae ?_;intro cd dB jy;have bJ:Ext bY cd:=dB.ext gH mW;clear fG;have dw:=cV.trans bJ;replace ct:=bJ.obj ct;have adX:0<b.length->vt cd bW hi (o.ni m):=fun aC=>by
  obtain⟨rfl,rfl,nP⟩:=afL aC;exact⟨jy,bJ.obj nP⟩
 refine ae ?_;apply K.cond<;>intro g5
 .refine ae ?_;exact⟨⟨true,bk,o.nB.of cf dr ⟨fun _=>.inl g5,fun _=>rfl⟩⟩,dw⟩
 refine ae ?_;refine K.call (fin cd bW bJ adX) ?_;rintro _ dg ⟨rfl,bV⟩;refine ae ?_;refine⟨⟨_,bk,o.nB.of cf dr ?_⟩,dw.trans bV⟩;rw[akD g1 eU];exact⟨.inr,fun h=>h.resolve_left (by omega)⟩
end Go.Proofs.R
end
section
namespace bt
open Go Go.RowKit
def aca(b:Bool):List Value:=[.bool b]
end bt
namespace Go.Proofs.R
open Go Go.RowKit bt
def aeT(n:Nat)(vs:Nat->Option Addr×Nat×Nat):List Value:=(List.range n).map fun j=>cB (vs j)
structure amT(w:World)(fE n base:Nat)(vs:Nat->Option Addr×Nat×Nat)(xs:Nat->List Bool):Prop where
 head:w.heap[fE]? = some (.cells (aeT n vs).toArray T.z)
 rows:hU aca T.p 1 base w n vs xs
end Go.Proofs.R
end
section
namespace o
open Go
def rr(m:Model)(q l:Int)(i:Nat):Prop := ∃(hC p k:Nat),gl m i hC p k/\(hC:Int)=q/\(cL m p k).from_=l
def qq(m:Model)(q l:Int):Prop:=(check m).cX=0/\∃(hC p:Nat) (h:gr m hC p),(hC:Int)=q/\0<=l/\l<(m.procs[p]'(h.aO)).cx
def FX(m:Model)(L:List (List Int×List Int))(q l:Int):Prop :=
 ∀i,rr m q l i->∀j (aR:j<(refs m).length),(refs m)[j].inst≠q->∀x y,L[i]? = some x->L[j]? = some y->¬qt x.1 x.2 y.1 y.2
structure ny(m:Model)(q l:Int)(t:Bool):Prop where
 off:¬qq m q l->t=false
 there:qq m q l->∀L,mM m (refs m).length L->(t=true↔FX m L q l)
theorem ny.no{m:Model}{q l:Int}(h:¬qq m q l):ny m q l false:=⟨fun _=>rfl,fun k=>absurd k h⟩
theorem ny.of{m:Model}{q l:Int}{t:Bool}{L:List (List Int×List Int)}(eL:qq m q l)(jT:mM m (refs m).length L)(h:t=true↔FX m L q l):ny m q l t :=
 ⟨fun k=>absurd eL k,fun _ mH ad3=>by rw[<-jT.eq ad3];exact h⟩
theorem MT{m:Model}{q p:Nat}{l:Int}(hk:(check m).cX=0)(bB:gr m q p)(ak:0<=l)(h1:l<(m.procs[p]'bB.aO).cx):qq m q l:=⟨hk,q,p,bB,rfl,ak,h1⟩
theorem gr.one{m:Model}{q p hN:Nat}(h:gr m q p)(bE:gr m q hN):p=hN:=by
 have a:=h.eq;have b:=bE.eq;omega
theorem qq.lt{m:Model}{q p:Nat}{l:Int}(h:qq m q l)(bB:gr m q p):0<=l/\l<(m.procs[p]'bB.aO).cx:=by
 obtain⟨_,hC,hN,adJ,e,ak,h1⟩:=h
 have:hC=q:=by omega
 subst this
 have:=bB.one adJ
 subst this;exact⟨ak,h1⟩
theorem qq.bf{m:Model}{q l:Int}(h:qq m q l):0<=q/\q<(insts m).length/\0<=l:=by
 obtain⟨_,hC,hN,bB,e,ak,h1⟩:=h
 have:=bB.aG
 omega
theorem ac5{m:Model}{q l:Int}{i hC p k:Nat}(cf:gl m i hC p k):rr m q l i↔((hC:Int)=q/\(cL m p k).from_=l):=by
 constructor
 .rintro⟨a,b,c,h,h1,U⟩;obtain⟨rfl,rfl,rfl⟩:=cf.one h;exact⟨h1,U⟩
 .rintro⟨h1,U⟩;exact⟨hC,p,k,cf,h1,U⟩
theorem rr.lt{m:Model}{q l:Int}{i:Nat}(h:rr m q l i):i<(refs m).length:=by
 obtain⟨_,_,_,cf,_⟩:=h
 have:=cf.told.2.2
 omega
theorem NN:∀l:List Int,∃r,rz l r
 | []=>⟨[],List.Pairwise.nil,fun _=>Iff.rfl⟩
 | x :: l=>by
  obtain⟨r,ba⟩:=NN l;by_cases au:x∈r
  .exact⟨r,ba.kZ,fun y=>by
    rw[ba.mem,List.mem_cons];exact⟨.inr,fun h=>h.elim (fun e=>e ▸ (ba.mem x).1 au) id⟩⟩
  .refine⟨r.filter (· < x)++x :: r.filter (x < ·),?_,fun y=>?_⟩
   .refine List.pairwise_append.2 ⟨ba.kZ.sublist List.filter_sublist,List.pairwise_cons.2 ⟨fun y b8=>?_,ba.kZ.sublist List.filter_sublist⟩,fun y b8 z bQ=>?_⟩
    .simpa using(List.mem_filter.1 b8).2
    .have h1:y<x:=by simpa using(List.mem_filter.1 b8).2
     rcases List.mem_cons.1 bQ with e | e
     .omega
     .have U:x<z:=by simpa using(List.mem_filter.1 e).2
      omega
   .rw[List.mem_append,List.mem_cons,List.mem_filter,List.mem_filter,List.mem_cons,<-ba.mem y];simp only[decide_eq_true_eq];constructor
    .rintro(h | h | h)
     .exact .inr h.1
     .exact .inl h
     .exact .inr h.1
    .rintro(h | h)
     .exact .inr (.inl h)
     .have:y≠x:=fun e=>au (e ▸ h)
      rcases Int.lt_or_lt_of_ne this with k | k
      .exact .inl ⟨h,k⟩
      .exact .inr (.inr ⟨h,k⟩)
theorem NG(m:Model)(ref:Int):∃a b,jq m ref a b:=by
 by_cases aL:Told m ref
 .obtain⟨q,p,k,cf⟩:=tM aL;obtain⟨a,bo⟩:=NN (qf m q (cL m p k) (cL m p k).cb.length);obtain⟨b,aC⟩:=NN (mB m q (cL m p k) (cL m p k).cb.length);exact⟨a,b,jq.of cf bo aC⟩
 .exact⟨[],[],jq.nil aL⟩
def GN:List Node:=[⟨1,1⟩]
def tV:Act:=⟨3,0,0,[],GN⟩
def pP:dI:=⟨⟨#[103,111]⟩,0,1,[],[tV],false⟩
def sF:Var:=⟨⟨#[110]⟩,0,0,0,1,0⟩
def zU:dz:=⟨⟨#[80]⟩,0,2,[sF],[pP]⟩
def zV:dz:=⟨⟨#[81]⟩,0,2,[sF],[pP]⟩
def fm:Model:=⟨[],[],[],[zU,zV],[]⟩
def tT:dI:=⟨⟨#[103,111]⟩,1,0,[],[],false⟩
def vT:dz:=⟨⟨#[80]⟩,0,2,[],[tT]⟩
def kQ:Model:=⟨[],[],[],[vT],[]⟩
theorem CI:(check fm).cX=0:=by decide +kernel
theorem CH:insts fm=[⟨0,0⟩,⟨1,0⟩]:=by decide +kernel
theorem tU:refs fm=[⟨0,0⟩,⟨1,0⟩]:=by decide +kernel
theorem acs:(check kQ).cX=0:=by decide +kernel
theorem SR:insts kQ=[⟨0,0⟩]:=by decide +kernel
theorem SS:refs kQ=[⟨0,0⟩]:=by decide +kernel
theorem Kx:gl fm 0 0 0 0:=⟨CI,by decide,by rw[tU];decide,by
 have e:∀h,(refs fm)[(0:Int).toNat]'h=⟨0,0⟩:=fun h=>by simp[tU]
 rw[e];exact⟨by rw[CH];decide,rfl,by simp[CH],by decide,rfl,by decide⟩⟩
theorem SU:gl fm 1 1 1 0:=⟨CI,by decide,by rw[tU];decide,by
 have e:∀h,(refs fm)[(1:Int).toNat]'h=⟨1,0⟩:=fun h=>by simp[tU]
 rw[e];exact⟨by rw[CH];decide,rfl,by simp[CH],by decide,rfl,by decide⟩⟩
theorem acq:gl kQ 0 0 0 0:=⟨acs,by decide,by rw[SS];decide,by
 have e:∀h,(refs kQ)[(0:Int).toNat]'h=⟨0,0⟩:=fun h=>by simp[SS]
 rw[e];exact⟨by rw[SR];decide,rfl,by simp[SR],by decide,rfl,by decide⟩⟩
theorem acz:qf fm 0 (cL fm 0 0) (cL fm 0 0).cb.length=[0]:=by decide +kernel
theorem acE:mB fm 0 (cL fm 0 0) (cL fm 0 0).cb.length=[0,1]:=by decide +kernel
theorem acA:qf fm 1 (cL fm 1 0) (cL fm 1 0).cb.length=[2]:=by decide +kernel
theorem acF:mB fm 1 (cL fm 1 0) (cL fm 1 0).cb.length=[2,3]:=by decide +kernel
theorem acB:qh fm=[]:=by decide +kernel
theorem SY{L:List (List Int×List Int)}(h:mM fm (refs fm).length L):L=[([0],[0,1]),([2],[2,3])]:=by
 have aS:=h.len;rw[tU] at aS
 match L,aS with
 | [x,y],_ =>
  obtain⟨h1,U⟩:=(h.is 0 (by simp)).there _ _ _ Kx;obtain⟨ag,aJ⟩:=(h.is 1 (by simp)).there _ _ _ SU;rw[acz] at h1;rw[acE] at U;rw[acA] at ag;rw[acF] at aJ;have bU:=Bg _ [0] h1.kZ (by decide) h1.mem;have a6:=Bg _ [0,1] U.kZ (by decide) U.mem;have bK:=Bg _ [2] ag.kZ (by decide) ag.mem;have b0:=Bg _ [2,3] aJ.kZ (by decide) aJ.mem;simp only[List.getElem_cons_zero,List.getElem_cons_succ] at bU a6 bK b0;obtain⟨j1,j2⟩:=x;obtain⟨kI,kq⟩:=y;simp only at bU a6 bK b0;subst bU a6 bK b0;rfl
theorem SV:gr fm 0 0:=Kx.inst
theorem acw:gr fm 1 1:=SU.inst
theorem SX{q:Nat}(aG:q<2){t:Bool}{L:List (List Int×List Int)}(jT:mM fm (refs fm).length L)(h:ny fm q 0 t):t=true:=by
 have eL:qq fm q 0:=by
  match q,aG with
  | 0,_=>exact MT CI SV (by decide) (by decide)
  | 1,_=>exact MT CI acw (by decide) (by decide)
 have c7:=SY jT;refine(h.there eL L jT).2 ?_;intro i ad j aR c5 x y au b8;subst c7;have pc:j<2:=by rw[tU] at aR;exact aR
 obtain⟨hC,p,k,cf,bU,_⟩:=ad;have ky:i<2:=by have:=cf.told.2.2;rw[tU] at this;simp at this;omega
 have jB:=cf.at_.u0;simp only[tU] at c5 jB
 match i,ky,j,pc with
 | 0,_,0,_=>simp at c5 jB;omega
 | 1,_,1,_=>simp at c5 jB;omega
 | 0,_,1,_ =>
  simp only[List.getElem?_cons_zero,List.getElem?_cons_succ,Option.some.injEq] at au b8;subst au b8;decide
 | 1,_,0,_ =>
  simp only[List.getElem?_cons_zero,List.getElem?_cons_succ,Option.some.injEq] at au b8;subst au b8;decide
theorem acy{t:Bool}(h:ny fm 2 0 t):t=false:=h.off fun k=>by
 have:=k.bf.2.1
 rw[CH] at this;simp at this
theorem acx{t:Bool}(h:ny fm 0 2 t):t=false:=h.off fun k=>by
 have:=(k.lt SV).2
 revert this
 decide
theorem acC{t:Bool}{a b:List Int}(dr:jq fm 0 a b)(h:nB fm 0 t):t=false:=by
 refine Bool.eq_false_iff.2 fun e=>?_;rcases(h.there _ _ _ _ _ Kx dr).1 e with k | ⟨x,_,k⟩
 .revert k;decide
 .rw[acB] at k;cases k
theorem acD{t:Bool}(h:nB fm 2 t):t=false:=h.none fun k=>by
 have:=k.2.2
 rw[tU] at this;simp at this
theorem acu{t:Bool}{a b:List Int}(dr:jq kQ 0 a b)(h:nB kQ 0 t):t=true :=
 (h.there _ _ _ _ _ acq dr).2 (.inl (by decide))
theorem acI:tV.cQ:=by
 exact⟨ly (by simp[tV]),ly (by simp[tV]),ly (by simp[tV]),by simp[tV,dN],by simp[tV,GN,dN]⟩
theorem acG:pP.cQ:=by
 refine⟨ly (by simp[pP]),ly (by simp[pP]),by simp[pP,dN],by simp[pP,dN],?_⟩;intro b aC;simp[pP] at aC;subst aC;exact acI
theorem acv:fm.cQ:=by
 refine⟨by simp[fm,dN],by simp[fm,dN],by simp[fm,dN],by simp[fm,dN],by simp[fm,dN],by simp[fm],by simp[fm],by simp[fm],?_,by simp[fm]⟩;have aT:∀a∈[sF],a.cQ:=by
  intro a bo;simp at bo;subst bo;exact⟨ly (by simp[sF]),ly (by simp[sF]),ly (by simp[sF]),ly (by simp[sF]),ly (by simp[sF])⟩
 have aw:∀c∈[pP],c.cQ:=by
  intro c aw;simp at aw;subst aw;exact acG
 intro a bo;simp[fm] at bo;rcases bo with rfl | rfl
 .exact⟨ly (by simp[zU]),ly (by simp[zU]),by simp[zU,dN],by simp[zU,dN],aT,aw⟩
 .exact⟨ly (by simp[zV]),ly (by simp[zV]),by simp[zV,dN],by simp[zV,dN],aT,aw⟩
theorem acr:kQ.cQ:=by
 refine⟨by simp[kQ,dN],by simp[kQ,dN],by simp[kQ,dN],by simp[kQ,dN],by simp[kQ,dN],by simp[kQ],by simp[kQ],by simp[kQ],?_,by simp[kQ]⟩;intro a bo;simp[kQ] at bo;subst bo;refine⟨ly (by simp[vT]),ly (by simp[vT]),by simp[vT,dN],by simp[vT,dN],by simp[vT],?_⟩;intro c aw;simp[vT] at aw;subst aw;exact⟨ly (by simp[tT]),ly (by simp[tT]),by simp[tT,dN],by simp[tT,dN],by simp[tT]⟩
end o
end
section
namespace bt
open Go Go.RowKit
section
variable{P:Program}{S:Fr}{w:World}
theorem fV.ake{α:Type}{enc:α->Value}{g:Operand}{p:Nat}{a b:fa}{Q:Option Nat->eb->Fr->World->Prop}{jR:Nat}{ha:Array Value}{hG:World->World->Prop}{mK oU:List α->Prop}{N:Nat}{w0:World}
  (aZ:bn S g = .func (.func jR) #[] ha)(dt:okF P jR=true)(rQ:SeqStopsK Fence.wide 0 P jR ha (fun x=>#[enc x]) hG mK oU N w0)(he:Ext w0 w)(rL:BJ hG w.heap.size)
  (eu FO:List α->World->Prop)(bB:OwnFrom w.heap.size eu)(adM:OwnFrom w.heap.size FO)(ak:eu [] w)
  (DJ:∀pre x W,eu pre W->pre.length<N->dZ P a (hr (fun sn hV=>KeepsFrom w.heap.size W hV/\hG W hV/\∀eK,sm w.heap.size hV eK ->
   dZ P b (hr (fun _ b7=>KeepsFrom w.heap.size eK b7/\hG eK b7/\eu (pre++[x]) b7) (fun e _ b7=>e = .ret/\KeepsFrom w.heap.size eK b7/\FO (pre++[x]) b7) ⟨⟩) sn eK ⟨⟩) (fun _ _ _=>False) ⟨⟩) (cq S p (enc x)) W ⟨⟩)
  (x8:∀D xs W,w.heap.size<=D->mK xs->eu xs W->W.heap[D]? = some (.deferred (some []))->Q (some D) .normal S W)
  (af3:∀D xs W,w.heap.size<=D->FO xs W->W.heap[D]? = some (.deferred (some []))->Q (some D) .ret S W):nk P (.sd g p a b) Q S w:=by
 refine⟨α,enc,jR,ha,hG,mK,oU,N,w0,aZ,dt,rQ,he,rL,eu,fun e xs W=>e = .ret/\FO xs W,bB,fun e s A B row ay pZ ba=>⟨ay.1,adM s A B row ay.2 pZ ba⟩,ak,fun pre x W ad aS=>?_,x8,fun D e pre W _ lo _ h bw=>?_⟩
 .have h:=DJ pre x W ad aS;unfold dZ hr at h;refine oM a _ _ _ W (fun e sn hV _ h1=>?_) h;cases e with
  | normal =>
   obtain⟨dc,dd,gv⟩:=h1;refine⟨dc,dd,fun eK ba=>?_⟩;have U:=gv eK ba;refine oM b _ _ _ eK (fun e kt mN _ ag=>?_) U;cases e with
   | normal=>exact ag
   | exit _=>exact absurd ag.1 (by simp)
   | ret=>exact⟨ag.2.1,rfl,ag.2.2⟩
   | fS _=>exact absurd ag.1 (by simp)
  | exit _=>exact h1.elim
  | ret=>exact h1.elim
  | fS _=>exact h1.elim
 .obtain⟨rfl,ad⟩:=h;exact af3 D pre W lo ad bw
theorem fV.gU{β:Type}{a:fa}{b:ry}{Q:Option Nat->eb->Fr->World->Prop}(cJ:List Nat)(M:β->List (Nat×Value))(N:β->World->Prop)(h1:dZ P a (hr (fun fu b2 => ∃x,Has fu (M x)/\N x b2) (Q none) ⟨⟩) S w ⟨⟩)
  (U:∀x bh w',N x w'->nk P b Q (tn (M x) (s7 S cJ bh)) w')(bw:(cJ.all fun t => !a.fw.contains t)=true:=by rfl):nk P (.h5 a b) Q S w:=by
 unfold dZ hr at h1;show dT P a (tr (fun S w=>nk P b Q S w) (Q none)) S w;refine oM a _ _ _ w (fun e sn hV hk h=>?_) h1;cases e with
 | normal =>
  obtain⟨x,bq,gi⟩:=h;have h:=U x sn hV gi;rw[D1 cJ fun t aL=>hk t (Il bw t aL),Fe _ bq] at h;exact h
 | exit _=>exact h
 | ret=>exact h
 | fS _=>exact h
theorem lM.mod{hb:Nat}{cJ:List TypeId}{W b7:World}(h:lM hb cJ W b7):Mod (fun k => ¬∃c t f,W.heap[k]? = some (.cells c t f)/\t∈cJ) W b7 :=
 ⟨h.1.os,h.1.tape,h.1.output,h.1.size,fun k _ aD=>by
  obtain⟨c,t,f,h1,U⟩:=Classical.not_not.1 aD;exact h.2 k c t f h1 U⟩
theorem lM.ext{w:World}{cJ:List TypeId}{W b7:World}(h:lM w.heap.size cJ W b7)(he:Ext w W):Ext w b7:=Below.trans he h.1
theorem lM.own{α:Type}{enc:α->List Value}{e:TypeId}{sz base hb:Nat}{cJ:List TypeId}{W b7:World}{v:Value}{xs:List α}(h:lM hb cJ W b7)(bc:bs enc e sz base W v xs)(he:e∈cJ):bs enc e sz base b7 v xs :=
 bc.mod h.mod fun k hk a=>by
  obtain⟨cur,aw⟩:=bc.aV k hk;exact a ⟨_,_,_,aw,he⟩
theorem lM.obj{hb:Nat}{cJ:List TypeId}{W b7:World}(h:lM hb cJ W b7){k:Nat}{c:Array Value}{t:TypeId}{f:Nat×Nat}(hk:W.heap[k]? = some (.cells c t f))(aL:t∈cJ):b7.heap[k]? = some (.cells c t f):=(h.2 k c t f hk aL).trans hk
end
end bt
end
section
namespace o
open Go
abbrev BX(m:Model)(q l:Int):={i:Nat // i<(refs m).length/\rr m q l i}
end o
namespace Go.Proofs.R
open Go Go.RowKit bt
abbrev ac6:List TypeId:=[T.m,T.l,T.a,T.b]
theorem ac7{nX w0:World}{cN qB tF:Nat}{cs:List Value}{m:o.Model}{q l:Int}(ot:w0.heap[cN]? = some (.cells cs.toArray T.b))(Ui:w0.heap[qB]? = some (.cells #[.int .i64 q] T.a))(eM:w0.heap[tF]? = some (.cells #[.int .i64 l] T.a))
  (h:o.ec nX cs m)(pe:Ext nX w0)(aZ:m.cQ)(yc:(o.check m).cX=0) :
  SeqStopsK Fence.wide 0 Tryz.prog F.am #[.pointer (some ⟨cN,0,none⟩),.pointer (some ⟨qB,0,none⟩),.pointer (some ⟨tF,0,none⟩)] (fun x:o.BX m q l=>#[.int .i64 (x.1:Nat)]) (lM nX.heap.size ac6) (fun xs => ∀i,o.rr m q l i->i∈xs.map Subtype.val) (fun _=>True) (o.refs m).length w0:=by
 intro uS ia Jo W aC pT adN b8 HA;have Ad:Ext nX W:=pe.trans aC;have Ug:=Ext.obj (w:=w0) aC ot;have Ul:=Ext.obj (w:=w0) aC Ui;have Ud:=Ext.obj (w:=w0) aC eM;have dP:=h;have kc:=o.lZ yc;have kk:=o.wQ kc.lim;obtain⟨cz,bS,b9,c1,cn,c2,cp,bP,cA,bX,rfl,ak,h1,U,ag,aJ,eI,ej,eo,dX,ep⟩:=h.form;refine callsIn_wide.2 (Calls.mono (show bu Tryz.prog F.am #[.func (.yield uS) #[] #[],.pointer (some ⟨cN,0,none⟩),.pointer (some ⟨qB,0,none⟩),.pointer (some ⟨tF,0,none⟩)] W (fun _ b7=>(∃xs,(∀i,o.rr m q l i->i∈xs.map Subtype.val)/\ia xs b7)\/(∃pre:List (o.BX m q l),True/\Jo pre b7)) from ?_) fun e b7 ⟨v,bU,a6⟩=>⟨⟨v,bU⟩,a6⟩);have z1:∀{pre:List (o.BX m q l)} {w w':World},ia pre w->Ext w w'->ia pre w':=fun {pre w w'} aR e=>pT pre w w' none aR e.Tm (fun r e=>by cases e);clear ot Ui eM;refine bL E.am ?_;refine bG ?_;refine ae ?_;refine K.call (Aw _ m W (dP.ext Ad) aZ) ?_;rintro cy av ⟨fy,aB⟩;obtain⟨cU,ci,rfl,_⟩:=fy.form;have bU:=Ad.trans aB;refine ae ?_;refine K.call (E4 _ m av (dP.ext bU) kc.lim) ?_;rintro j0 aU ⟨jk,aA⟩;obtain⟨iI,pM,rfl,_⟩:=jk.form;have a6:=bU.trans aA;have zQ:=aB.trans aA;have Hm:=zQ.obj Ug;have Hn:=zQ.obj Ul;have Hl:=zQ.obj Ud;have Vo:=fy.ext aA;have pc:=z1 HA zQ;clear Ug Ul Ud fy HA;refine ae ?_;refine K.dj 13 (o.refs m).length [0,1,2,3,5,11,12] (fun _=>[]) ([]:List (o.BX m q l)) (fun k pre w'=>(Ext nX w'/\w'.heap[cN]? = aU.heap[cN]? /\ w'.heap[qB]? = aU.heap[qB]? /\ w'.heap[tF]? = aU.heap[tF]? /\ bs o.c8.enc T.l 2 W.heap.size w' (.slice cU (o.insts m).length ci) (o.insts m)/\bs o.Ref.enc T.m 2 av.heap.size w' (.slice iI (o.refs m).length pM) (o.refs m)/\ia pre w')/\pre.length<=k/\∀i,i<k->o.rr m q l i->i∈pre.map Subtype.val) bx bx
  ⟨⟨a6,rfl,rfl,rfl,Vo,jk,pc⟩,Nat.le_refl _,fun i h=>absurd h (Nat.not_lt_zero _)⟩ ?_
 rintro k pre S bb hk ⟨⟨bK,Lm,Lr,Lk,Mn,Mq,wc⟩,qV,eU⟩;rw[Hm] at Lm;rw[Hn] at Lr;rw[Hl] at Lk;refine ae ?_;apply K.cond<;>intro g1;rotate_left
 .refine ae ?_;exact .inl ⟨pre,fun i ad=>eU i (by have:=ad.lt;omega) ad,wc⟩
 have de:k<(o.refs m).length:=by omega
 have sK:bF 2 (Flat o.Ref.enc) bb _ _:=bs.iW (enc:=o.Ref.enc) (fun _=>rfl) Mq;have Tz:kK bb _ (o.insts m):=bs.iW (enc:=o.c8.enc) (fun _=>rfl) Mn;obtain⟨lg,rfl⟩:=sK.addr (by omega);obtain⟨hC,hN,k',cf⟩:=o.tM (m:=m) (ref:=k) ⟨yc,by omega,by omega⟩;have jB:(o.refs m)[k].inst=(hC:Int):=cf.at_.u0;have oy:(o.refs m)[k].cmd=(k':Int):=cf.at_.wR;have LD:=o.ac5 (q:=q) (l:=l) cf;have h0:=sK.at k de;obtain⟨x,au⟩:∃x,x=(o.refs m)[k]:=⟨_,rfl⟩;rw[<-au] at jB oy h0;have h0:fg bb (lg.add (k*2)) x.enc:=h0;unfold o.Ref.enc at h0;refine ae ?_;intro wn lh jw gH fG;refine ae ?_;intro bp ey cS;replace cS:bp.heap[lh]? = some (.cells #[.int .i64 x.inst,.int .i64 x.cmd] T.m):=by rw[au];exact cS
 have aN:Ext bb bp:=ey.ext gH jw;have b0:=bK.trans aN;have Ue:=aN.obj Lm;have Uj:=aN.obj Lr;have Ub:=aN.obj Lk;have TA:=Tz.ext Flat.ext aN;clear fG gH Lm Lr Lk;refine ae ?_;intro bR aW;have b3:=b0.trans aW;have Ln:=aW.obj Ue;have Ls:=aW.obj Uj;have Ll:=aW.obj Ub;have Hg:=aW.obj cS;have TB:=TA.ext Flat.ext aW;have Jh:=aN.trans aW;have Dq:=z1 wc Jh;have Mo:=Mn.ext Jh;have Mr:=Mq.ext Jh;clear Ue Uj Ub cS TA Mn Mq;have skip:¬o.rr m q l k->∀i,i<k+1->o.rr m q l i->i∈pre.map Subtype.val:=fun aD i ad aK=>by
  rcases Nat.lt_or_ge i k with h | h
  .exact eU i h aK
  .obtain rfl:i=k:=by omega
   exact absurd aK aD
 refine ae ?_;apply K.cond<;>intro g2;rotate_left
 .refine ae ?_;exact⟨de,bk,pre,trivial,⟨b3,Ln.trans Hm.symm,Ls.trans Hn.symm,Ll.trans Hl.symm,Mo,Mr,Dq⟩,by omega,skip fun aK=>by rw[LD] at aK;omega⟩
 refine ae ?_;have en:bu Tryz.prog F.j #[.agg #[.slice cz m.scalars.length bS,.slice b9 m.vars.length c1,.slice cn m.aM.length c2,.slice cp m.procs.length bP,.slice cA m.props.length bX],.slice cU (o.insts m).length ci,.agg #[.int .i64 x.inst,.int .i64 x.cmd]] bR fun u w'=>(∃hM gF bl gO,u = .agg #[.string (o.cL m hN k').name,.int .i64 (o.cL m hN k').from_,.int .i64 (o.cL m hN k').to,.slice hM (o.cL m hN k').guard.length gF,.slice bl (o.cL m hN k').cb.length gO,.bool (o.cL m hN k').fair])/\Ext bR w':=(Sp _ _ m k hC hN k' bR (dP.ext b3) TB cf x jB oy).mono fun u w' ⟨⟨fB,ee,hu,aD,bo⟩,gP⟩=>by
  obtain⟨hM,gF,rfl,_⟩:=aD.form;obtain⟨bl,gO,rfl,_⟩:=bo.form;exact⟨⟨hM,gF,bl,gO,hu⟩,gP⟩
 refine K.call en ?_;clear en;rintro _ bY ⟨⟨hM,gF,bl,gO,rfl⟩,a8⟩;have cV:=b3.trans a8;have Am:=z1 Dq a8;have Uf:=a8.obj Ln;have Uk:=a8.obj Ls;have Uc:=a8.obj Ll;have Vp:=Mo.ext a8;have Vq:=Mr.ext a8;refine⟨a8,?_⟩;clear Ln Ls Ll Hg Mo Mr TB sK Tz h0;refine ae ?_;refine K.jf (v:=.int .i64 (o.cL m hN k').from_) rfl ?_;refine ae ?_;apply K.cond<;>intro g3;rotate_left
 .refine ae ?_;exact⟨de,bk,pre,trivial,⟨cV,Uf.trans Hm.symm,Uk.trans Hn.symm,Uc.trans Hl.symm,Vp,Vq,Am⟩,by omega,skip fun aK=>by rw[LD] at aK;omega⟩
 have aK:o.rr m q l k:=LD.2 ⟨by omega,g3⟩;refine ae ?_;refine K.yield (b8 pre ⟨k,de,aK⟩ bY Am (by omega)) ?_;rintro e cd (⟨rfl,LP,An⟩ | ⟨rfl,LP⟩)
 .refine⟨.bool true,rfl,?_⟩;refine ae ?_;refine⟨de,bk,pre++[⟨k,de,aK⟩],trivial,⟨An.ext cV,(An.obj Uf (by decide)).trans Hm.symm,(An.obj Uk (by decide)).trans Hn.symm,(An.obj Uc (by decide)).trans Hl.symm,An.own Vp (by decide),An.own Vq (by decide),LP⟩,by simp;omega,fun i ad LF=>?_⟩;rw[List.map_append,List.mem_append];rcases Nat.lt_or_ge i k with h | h
  .exact .inl (eU i h LF)
  .obtain rfl:i=k:=by omega
   exact .inr (by simp)
 .refine⟨.bool false,rfl,?_⟩;refine ae ?_;exact .inr ⟨_,trivial,LP⟩
theorem ahM(x:o.Ref)(qB:Nat)(q:Int)(w:World)(h:w.heap[qB]? = some (.cells #[.int .i64 q] T.a)) :
  bu Tryz.prog F.bi #[.agg #[.int .i64 x.inst,.int .i64 x.cmd],.pointer (some ⟨qB,0,none⟩)] w fun v w'=>v = .bool (!decide (x.inst=q))/\Ext w w':=by
 refine bL E.bi ?_;refine bG ?_;refine ae ?_;intro av bC cR aB ao;have afS:=aB.obj h;refine ae ?_;exact⟨bk,aB⟩
theorem ac4(cs:List Value)(m:o.Model)(q l:Int)(w:World)(h:o.ec w cs m) :
  bu Tryz.prog F.pK #[.agg cs.toArray,.int .i64 q,.int .i64 l] w fun v w'=>(∃cN qB tF,v = .func (.func F.am) #[] #[.pointer (some ⟨cN,0,none⟩),.pointer (some ⟨qB,0,none⟩),.pointer (some ⟨tF,0,none⟩)]/\w'.heap[cN]? = some (.cells cs.toArray T.b)/\w'.heap[qB]? = some (.cells #[.int .i64 q] T.a)/\w'.heap[tF]? = some (.cells #[.int .i64 l] T.a))/\Ext w w':=by
 obtain⟨cz,bS,b9,c1,cn,c2,cp,bP,cA,bX,rfl,_⟩:=h.form;refine bL E.pK ?_;refine bG ?_;refine ae ?_;intro av b5 fo aB ao;refine ae ?_;intro aU cM fM aA aP;refine ae ?_;intro bb dR kR ax bz;refine ae ?_;exact⟨⟨_,_,_,bk,(aA.trans ax).obj ao,ax.obj aP,bz⟩,(aB.trans aA).trans ax⟩
def Zn(m:o.Model)(q:Int)(L:List (List Int×List Int))(i:Nat):Prop := ∀j (aR:j<(o.refs m).length),(o.refs m)[j].inst≠q->∀x y,L[i]? = some x->L[j]? = some y->¬o.qt x.1 x.2 y.1 y.2
theorem abN(cs:List Value)(m:o.Model)(q l:Int)(w:World)(h:o.ec w cs m)(aZ:m.cQ)(bc:hv w) :
  bu Tryz.prog F.al #[.agg cs.toArray,.int .i64 q,.int .i64 l] w fun u w'=>(∃t,u = .bool t/\o.ny m q l t)/\Ext w w':=by
 have dP:=h;obtain⟨cz,bS,b9,c1,cn,c2,cp,bP,cA,bX,rfl,ak,h1,U,ag,aJ,eI,ej,eo,dX,ep⟩:=h.form;refine fV.start mn BG.al (args:=[_,_,_]) (Nat.le_of_ble_eq_true rfl) ?_;dsimp only[D.al,ab,aj,bT,bd,n0,aF,dh,hF,vd,I,ai,ah,af,bj,ys,bM,ar,aH,cG,bm,az,dx,cm,J,aE,a7,ca,hE,bD,aY,eW,e9,aX,aq,an,List.map_cons,List.map_nil];refine fV.h5 ?_;refine ae ?_;intro av b5 fo aB bz;refine ae ?_;intro aU cM fM aA bA;refine ae ?_;intro bb ek e6 ax ct;have bK:=(aB.trans aA).trans ax;replace bz:=(aA.trans ax).obj bz;replace bA:=ax.obj bA;have kI:=aB.size;have kq:=aA.size;have ue:w.heap.size<=ek:=by omega
 refine ae ?_;refine fV.h5 ?_;refine ae ?_;refine K.call (AX _ m bb (dP.ext bK) aZ (bc.ext bK)) ?_;rintro _ bp ⟨rfl,aN⟩;replace bz:=aN.obj bz;replace bA:=aN.obj bA;replace ct:=aN.obj ct;have b0:=bK.trans aN;refine ae ?_;refine K.jf (v:=.int .i64 (o.check m).cX) rfl ?_;refine ae ?_;apply K.cond<;>intro g1;rotate_left
 .refine ae ?_;intro bR eZ cD;have aW:=eZ.ext b0 ue;refine fV.CA ?_;refine ae ?_;exact⟨⟨false,bk,o.ny.no fun k=>g1 k.1⟩,aW⟩
 have kc:=o.lZ g1;have kk:=o.wQ kc.lim;refine ae ?_;refine fV.gU [1,2,3,4,6] (fun x:(Option Addr×Nat)×Nat=>[(7,.slice x.1.1 (o.insts m).length x.1.2),(8,.pointer (some ⟨x.2,0,none⟩))]) (fun x W=>(∃iI pM,W.heap[x.2]? = some (.cells #[.slice iI (o.refs m).length pM] T.t)/\BW W (.slice iI (o.refs m).length pM) (o.refs m))/\kK W (.slice x.1.1 (o.insts m).length x.1.2) (o.insts m)/\Ext bp W) ?_ ?_
 .have qN:∀{W},Ext bp W->bu Tryz.prog F.a #[.agg #[.slice cz m.scalars.length bS,.slice b9 m.vars.length c1,.slice cn m.aM.length c2,.slice cp m.procs.length bP,.slice cA m.props.length bX]] W fun v w'=>(∃cU ci,v = .slice cU (o.insts m).length ci/\bs o.c8.enc T.l 2 W.heap.size w' v (o.insts m))/\Ext W w':=fun {W} he=>(Aw _ m W (dP.ext (b0.trans he)) aZ).mono fun v w' ⟨aT,gP⟩=>by
   obtain⟨cU,ci,rfl,_⟩:=aT.form;exact⟨⟨cU,ci,rfl,aT⟩,gP⟩
  have Mc:∀{W},Ext bp W->bu Tryz.prog F.e #[.agg #[.slice cz m.scalars.length bS,.slice b9 m.vars.length c1,.slice cn m.aM.length c2,.slice cp m.procs.length bP,.slice cA m.props.length bX]] W fun v w'=>(∃cU ci,v = .slice cU (o.refs m).length ci/\bs o.Ref.enc T.m 2 W.heap.size w' v (o.refs m))/\Ext W w':=fun {W} he=>(E4 _ m W (dP.ext (b0.trans he)) kc.lim).mono fun v w' ⟨aT,gP⟩=>by
   obtain⟨cU,ci,rfl,_⟩:=aT.form;exact⟨⟨cU,ci,rfl,aT⟩,gP⟩
  have NA:∀{W v base},bs o.c8.enc T.l 2 base W v (o.insts m)->kK W v (o.insts m):=fun h=>bs.iW (enc:=o.c8.enc) (fun _=>rfl) h;have NB:∀{W v base},bs o.Ref.enc T.m 2 base W v (o.refs m)->BW W v (o.refs m):=fun h=>bs.iW (enc:=o.Ref.enc) (fun _=>rfl) h;refine ae ?_;intro bR aW;replace bz:=aW.obj bz;refine ae ?_;refine⟨?_,?_⟩
  .refine K.call (qN aW) ?_;rintro _ bY ⟨⟨cU,ci,rfl,bB⟩,a8⟩;have cV:=aW.trans a8;refine⟨a8,?_⟩;refine ae ?_;refine⟨?_,?_⟩
   .refine K.call (Mc cV) ?_;rintro _ cd ⟨⟨iI,pM,rfl,dr⟩,bJ⟩;have dw:=cV.trans bJ;refine ae ?_;intro dg kN qK bV cK;refine⟨(a8.trans bJ).trans bV,?_⟩;refine ae ?_;intro ea iQ dJ;have b1:=iQ.ext bV qK;refine ae ?_;exact⟨((cU,ci),kN),⟨bk,bk,trivial⟩,⟨_,_,dJ,NB (dr.ext b1)⟩,NA (bB.ext (bJ.trans b1)),dw.trans b1⟩
   .refine K.new ?_;intro cd kN qK bJ cK;refine⟨a8.trans bJ,?_⟩;have dw:=cV.trans bJ;refine ae ?_;refine K.call (Mc dw) ?_;rintro _ dg ⟨⟨iI,pM,rfl,dr⟩,bV⟩;have Lb:=cK;replace cK:=bV.obj cK;refine ae ?_;intro ea iQ dJ;have b1:Ext bY ea:=iQ.ext (bJ.trans bV) qK;have MK:=cH Lb;refine ae ?_;exact⟨((cU,ci),kN),⟨bk,bk,trivial⟩,⟨_,_,dJ,NB (dr.wr iQ MK)⟩,NA (bB.ext b1),cV.trans b1⟩
  .refine K.new ?_;intro bY kN qK a8 cK;have cV:=aW.trans a8;refine⟨a8,?_⟩;refine ae ?_;refine K.call (qN cV) ?_;rintro _ cd ⟨⟨cU,ci,rfl,bB⟩,bJ⟩;have dw:=cV.trans bJ;refine⟨a8.trans bJ,?_⟩;refine ae ?_;refine K.call (Mc dw) ?_;rintro _ dg ⟨⟨iI,pM,rfl,dr⟩,bV⟩;have aez:=cK;have Lb:=bJ.obj cK;replace cK:=(bJ.trans bV).obj cK;refine ae ?_;intro ea iQ dJ;have ahj:=cH aez;have MK:=cH Lb;have b1:Ext bR ea:=iQ.ext ((a8.trans bJ).trans bV) qK;refine ae ?_;exact⟨((cU,ci),kN),⟨bk,bk,trivial⟩,⟨_,_,dJ,NB (dr.wr iQ MK)⟩,NA ((bB.ext bV).wr iQ ahj),aW.trans b1⟩
 rintro⟨⟨cU,ci⟩,kN⟩ S bR ⟨⟨iI,pM,cK,dr⟩,bB,aW⟩;dsimp only at cK bB;replace bz:=aW.obj bz;replace bA:=aW.obj bA;replace ct:=aW.obj ct;have b3:=b0.trans aW;refine fV.h5 ?_;have bad:∀{W:World} {bh:Fr},Ext bR W->¬o.qq m q l->True:=fun _ _=>trivial;have aoG:=cH ct;refine ae ?_;apply K.cond<;>intro g2
 .refine ae ?_;intro bY a8;replace ct:=a8.obj ct;refine ae ?_;intro cd dB cS;refine fV.CA ?_;refine ae ?_;exact⟨⟨false,bk,o.ny.no fun k=>by have:=k.bf;omega⟩,dB.ext (b3.trans a8) ue⟩
 refine ae ?_;apply K.cond<;>intro g3
 .refine ae ?_;intro bY a8;replace ct:=a8.obj ct;refine ae ?_;intro cd dB cS;refine fV.CA ?_;refine ae ?_;exact⟨⟨false,bk,o.ny.no fun k=>by have:=k.bf;omega⟩,dB.ext (b3.trans a8) ue⟩
 refine ae ?_;apply K.cond<;>intro g4
 .refine ae ?_;intro bY a8;replace ct:=a8.obj ct;refine ae ?_;intro cd dB cS;refine fV.CA ?_;refine ae ?_;exact⟨⟨false,bk,o.ny.no fun k=>by have:=k.bf;omega⟩,dB.ext (b3.trans a8) ue⟩
 obtain⟨qe,rfl⟩:=Int.eq_ofNat_of_zero_le (show 0<=q by omega);have aG:qe<(o.insts m).length:=by omega
 obtain⟨p,hIn⟩:=o.HY aG;have aO:=hIn.aO;have ov:=hIn.eq;obtain⟨jc,rfl⟩:=bB.addr (by omega);obtain⟨a3,rfl⟩:=ag.addr (by omega);obtain⟨mr,cE,dT,dL,eR,gn⟩:=ag.at p aO;obtain⟨e1,fv,rfl,_⟩:=eR.form;obtain⟨Ip,Gq,rfl,Ib⟩:=gn.form;unfold o.dz.enc at dL;have U8:=dL.ext b3;refine ae ?_;refine K.dp p (by rw[ov]) aO ?_;refine ae ?_;intro bY a8;replace bz:=a8.obj bz;replace bA:=a8.obj bA;replace ct:=a8.obj ct;replace cK:=a8.obj cK;have G1:=dr.ext Flat.ext a8;have cV:=b3.trans a8;apply K.cond<;>intro g5
 .refine ae ?_;intro cd dB cS;refine fV.CA ?_;refine ae ?_;exact⟨⟨false,bk,o.ny.no fun k=>by have:=k.lt hIn;omega⟩,dB.ext cV ue⟩
 have eL:o.qq m qe l:=o.MT g1 hIn (by omega) (by omega);clear dL U8 bB dr;refine ae ?_;refine fV.h5 ?_;refine ae ?_;refine K.call (YK _ m bY (dP.ext cV) aZ (bc.ext cV) kc.lim) ?_;rintro _ cd ⟨⟨L,base,jT,sL,ad9,KU⟩,bJ⟩;obtain⟨aiw,aaL,rfl,_⟩:=KU.form;have vY:bF 2 Jw cd _ L:=KU.pq;have TM:=jT.len;have dw:=cV.trans bJ;replace bz:=bJ.obj bz;replace bA:=bJ.obj bA;replace ct:=bJ.obj ct;replace cK:=bJ.obj cK;have adT:=G1.ext Flat.ext bJ;clear KU G1;refine ae ?_;intro wn hi lp gH fG;refine ae ?_;intro dg iG dJ;have bV:Ext cd dg:=iG.ext gH lp;clear fG;have dW:=dw.trans bV;replace bz:=bV.obj bz;replace bA:=bV.obj bA;replace ct:=bV.obj ct;replace cK:=bV.obj cK;refine ae ?_;refine fV.se (fV.h5 ?_);refine ae ?_;refine K.call (ac4 _ m qe l dg (dP.ext dW)) ?_;rintro _ ea ⟨⟨cN,qB,tF,rfl,ae0,ae1,nL⟩,b1⟩;have iz:=dW.trans b1;replace bA:=b1.obj bA;replace ct:=b1.obj ct;replace cK:=b1.obj cK;replace dJ:=b1.obj dJ;have adU:=adT.ext Flat.ext (bV.trans b1);have abX:=bV.trans b1;clear bz;have By:=cH ct;have z4:=cH bA;have OH:=cH cK;have z9:=cH dJ;refine ae ?_;refine fV.aV (fV.ake (w0:=ea) (enc:=fun x:o.BX m qe l=>.int .i64 (x.1:Nat)) (by simp[ft,cu]) (by kernel_rfl) (ac7 ae0 ae1 nL h iz aZ g1) (Ext.refl _) (lM.ok _ iz.size)
  (fun pre W=>Ext ea W/\∀x∈pre,Zn m qe L x.1) (fun _ W=>Mod (fun k=>k=ek) ea W/\W.heap[ek]? = some (.cells #[.bool false] T.p)/\¬o.FX m L qe l) ?_ ?_ ⟨Ext.refl _,fun x au=>by cases au⟩ ?_ ?_ ?_)
 .rintro pre W b7 row ⟨he,CV⟩ pZ ba;exact⟨he.grown pZ fun k hk=>(ba k hk).1,CV⟩
 .rintro _ W b7 row ⟨hm,aw,aD⟩ pZ ba;have fp:Mod (fun k=>row=some k) W b7:=Mod.grown pZ fun k hk=>hk;refine⟨hm.comp fp (fun _ _ a=>a) fun k hk a=>?_,fp.obj (fun a=>?_) aw,aD⟩
  .have:=(ba k a).1;omega
  .have:=(ba ek a).1;omega
 .rintro pre x W ⟨Di,CV⟩ cw;refine ef ?_;refine⟨(Ext.refl W).keeps _,(Ext.refl W).hB (Nat.le_trans iz.size Di.size),fun eK ux=>?_⟩;have aA:Ext ea eK:=ux.ext Di (Nat.le_refl _);have hc:=aA.obj bA;have A8:=aA.obj cK;have Ns:=aA.obj dJ;have KR:=adU.ext Flat.ext aA;have uC:=x.2.1;have HW:x.1<L.length:=by omega
  have TI:BW eK _ (o.refs m):=KR;have anH:=vY;have Zl:=abX.trans aA;obtain⟨ZJ,rfl⟩:=vY.addr (by omega);obtain⟨j1,j2,jy,agy,agz⟩:=vY.at x.1 HW;obtain⟨Nn,No⟩:=(jT.is x.1 HW).kZ;refine ae ?_;refine K.dj 58 (o.refs m).length [4,6,9,10,11,56,57] (fun _:Unit=>[]) () (fun j _ b7=>Ext eK b7/\∀k,k<j->∀(hk:k<(o.refs m).length),(o.refs m)[k].inst≠(qe:Int)->∀y,L[k]? = some y->¬o.qt L[x.1].1 L[x.1].2 y.1 y.2) bx bx ⟨Ext.refl _,fun k h=>absurd h (Nat.not_lt_zero _)⟩ ?_;rintro j _ kt e3 aR ⟨cv,U3⟩;refine ae ?_;apply K.cond<;>intro g6;rotate_left
  .refine ae ?_;refine⟨cv.keeps _,cv.hB (Nat.le_trans iz.size aA.size),aA.trans cv,fun v aT=>?_⟩;rcases List.mem_append.1 aT with aT | aT
   .exact CV v aT
   .rw[List.mem_singleton] at aT;subst aT;intro k hk c5 a b bo aC;rw[List.getElem?_eq_getElem HW] at bo;injection bo with bo
    subst bo;exact U3 k (by omega) hk c5 b aC
  have HC:j<(o.refs m).length:=by omega
  have HB:j<L.length:=by omega
  obtain⟨lg,rfl⟩:=TI.addr (by omega);have h0:=(TI.ext Flat.ext cv).at j HC;obtain⟨r,ba⟩:∃r,r=(o.refs m)[j]:=⟨_,rfl⟩;rw[<-ba] at h0;have h0:fg e3 (lg.add (j*2)) r.enc:=h0;unfold o.Ref.enc at h0;have next:∀{W},Ext eK W->(r.inst≠(qe:Int)->¬o.qt L[x.1].1 L[x.1].2 L[j].1 L[j].2)->Ext eK W/\∀k,k<j+1->∀(hk:k<(o.refs m).length),(o.refs m)[k].inst≠(qe:Int)->∀y,L[k]? = some y->¬o.qt L[x.1].1 L[x.1].2 y.1 y.2:=fun e aD=>⟨e,fun k hk afh c5 y b8=>by
   rcases Nat.lt_or_ge k j with h | h
   .exact U3 k h afh c5 y b8
   .obtain rfl:k=j:=by omega
    rw[List.getElem?_eq_getElem HB] at b8;injection b8 with b8
    subst b8;exact aD (by rw[ba];exact c5)⟩
  have Xj:=cv.obj hc;have Xk:=cv.obj Ns;refine ae ?_;intro wn pH C5 gH fG;refine ae ?_;intro gg gZ gV;replace gV:gg.heap[pH]? = some (.cells #[.int .i64 r.inst,.int .i64 r.cmd] T.m):=by first | exact gV | (rw[ba];exact gV)
  have fH:Ext e3 gg:=gZ.ext gH C5;have ajq:=fH.obj Xj;have apy:=fH.obj Xk;have pv:=cv.trans fH;clear fG h0 Xj Xk;have call:∀{w':World},Ext gg w'->bu Tryz.prog F.bi #[.agg #[.int .i64 r.inst,.int .i64 r.cmd],.pointer (some ⟨cM,0,none⟩)] w' fun v b2=>v = .bool (!decide (r.inst=(qe:Int)))/\Ext w' b2:=fun e=>ahM r cM qe _ (e.obj ajq);by_cases g7:r.inst=(qe:Int)
  .refine ae ?_;refine K.Nv (.bool false) (fun w' e=>K.JS (first:=[]) (cap:=[.pointer (some ⟨cM,0,none⟩)]) (by kernel_rfl) (call e) fun v b2 ⟨h1,U⟩=>⟨by rw[h1,decide_eq_true g7];rfl,U⟩) ?_;refine ae ?_;intro lI fx;refine ae ?_;exact⟨HC,bk,(),trivial,next (pv.trans fx) fun h=>absurd g7 h⟩
  .obtain⟨kI,kq,Lt,agF,agG⟩:=vY.at j HB;obtain⟨Np,Nq⟩:=(jT.is j HB).kZ;have y9:=Zl.trans pv;have an8:=jy.ext y9;have aoa:=Lt.ext y9;refine ae ?_;refine K.Nv (.bool true) (fun w' e=>K.JS (first:=[]) (cap:=[.pointer (some ⟨cM,0,none⟩)]) (by kernel_rfl) (call e) fun v b2 ⟨h1,U⟩=>⟨by rw[h1,decide_eq_false g7];rfl,U⟩) ?_;refine ae ?_;refine K.gB (.bool (decide (o.qt L[x.1].1 L[x.1].2 L[j].1 L[j].2))) (fun w' e=>WY j1 j2 kI kq _ _ _ _ w' (agy.ext Flat.ext (y9.trans e)) (agz.ext Flat.ext (y9.trans e)) (agF.ext Flat.ext (y9.trans e)) (agG.ext Flat.ext (y9.trans e)) Nn No Np Nq) ?_;refine ae ?_;intro lI fx;have qo:=pv.trans fx;have apx:=(aA.trans qo).obj ct;apply K.cond<;>intro g8
   .refine ae ?_;intro nn hK aek;have yf:Mod (fun k=>k=ek) lI nn:=hK.mod rfl;refine ae ?_;refine⟨bk,?_,?_,aek,fun aS=>aS x.1 x.2.2 j HC (by rw[<-ba];exact g7) _ _ (List.getElem?_eq_getElem HW) (List.getElem?_eq_getElem HB) g8⟩
    .exact⟨Nat.le_trans qo.size yf.size,fun k al jh hk aw=>yf.obj (fun a=>by subst a;omega) (qo.obj hk)⟩
    .exact Mod.comp (A':=fun k=>k=ek) (aA.trans qo).mod yf (fun _ _ a=>a) fun k hk a=>a
   .refine ae ?_;exact⟨HC,bk,(),trivial,next qo fun _=>g8⟩
 .rintro D xs W lo cg ⟨Di,CV⟩ bw;have sa:=Di.obj ct;refine ae ?_;intro e3 p5 hJ;have GW:D≠ek:=by omega
  refine fV.ret (p5.obj bw GW) ?_;have ay:dC D e3 (fe e3 D (.deferred none)):=dC.fe _ _ _;have Xi:=ay.obj hJ (Ne.symm GW);have adR:o.FX m L qe l:=fun i ad j aR c5 x y au b8=>by
   obtain⟨v,aT,rfl⟩:=List.mem_map.1 (cg i ad);exact CV v aT j aR c5 x y au b8
  refine ae ?_;exact⟨⟨true,bk,o.ny.of eL jT ⟨fun _=>adR,fun _=>rfl⟩⟩,ay.ext (p5.ext (iz.trans Di) ue) (Nat.le_trans iz.size lo)⟩
 .rintro D xs W lo ⟨hm,aw,aD⟩ bw;have GW:D≠ek:=by omega
  refine ae ?_;refine fV.ret bw ?_;have ay:dC D W (fe W D (.deferred none)):=dC.fe _ _ _;have Xi:=ay.obj aw (Ne.symm GW);refine ae ?_;exact⟨⟨false,bk,o.ny.of eL jT ⟨(fun h=>by cases h),fun h=>absurd h aD⟩⟩,ay.ext (hm.ext iz fun k hk a=>by omega) (Nat.le_trans iz.size lo)⟩
theorem Sg(s:ByteArray)(ay:o.hR s)(w:World):bu Tryz.prog F.AW #[.string s] w fun v w'=>(∃v1 v2 v3,v = .agg #[.string s,.int .i64 0,.int .i64 2,.slice v1 1 1,.slice v2 1 1]/\v3=()/\o.hh w' (.slice v1 1 1) [o.sF]/\o.oO w' (.slice v2 1 1) [o.pP])/\Ext w w':=by
 refine bL E.AW ?_;refine bG ?_;refine aa ?_;intro av cr dQ aB ao;refine aa ?_;intro aU dR kR aA aP;refine aa ?_;intro bb lh jw ax bz;refine aa ?_;intro bp hi lp aN bA;refine aa ?_;intro bR vx C4 aW cD;have SD:=((aA.trans ax).trans aN).trans aW;have x4:=SD.obj ao;refine aa ?_;intro bY fZ ct;have kI:=aB.size;have kq:=aA.size;have yZ:=ax.size;have y0:=aN.size;have ap1:=aW.size;have gh:=cH ao;have uG:=fZ.obj (((ax.trans aN).trans aW).obj aP) (by omega);have wC:=fZ.obj ((aN.trans aW).obj bz) (by omega);have H3:=fZ.obj (aW.obj bA) (by omega);have H2:=fZ.obj cD (by omega);have ag4:o.hh bY (.slice (some ⟨dR,0,none⟩) 1 1) [o.sF]:=o.hh.aV uG rfl (by decide) (by intro x au;simp only[List.mem_singleton] at au;subst au;decide);have ag3:o.fW bY (.slice (some ⟨lh,0,none⟩) 1 1) o.GN:=bF.aV (enc:=o.Node.enc) (fun _=>rfl) wC rfl (by decide) fun a x au aw=>⟨aw,o.acH x (by simp[o.GN] at au;subst au;simp)⟩;have ag1:o.nt bY (.slice (some ⟨hi,0,none⟩) 1 1) [o.tV]:=bF.Ca [⟨o.tV.enc (.slice none 0 0) (.slice (some ⟨lh,0,none⟩) 1 1),rfl,by simp[o.Act.enc,Value.oneCell']⟩] H3 rfl rfl rfl (by decide) (by
  intro i h1 U
  have:i=0:=by simp at h1;omega
  subst this;exact⟨_,_,rfl,bF.nil,ag3⟩)
 have ag2:o.oO bY (.slice (some ⟨vx,0,none⟩) 1 1) [o.pP]:=bF.Ca [⟨o.pP.enc (.slice none 0 0) (.slice (some ⟨hi,0,none⟩) 1 1),rfl,by simp[o.dI.enc,Value.oneCell']⟩] H2 rfl rfl rfl (by decide) (by
  intro i h1 U
  have:i=0:=by simp at h1;omega
  subst this;exact⟨(show o.hR o.pP.name by decide),_,_,rfl,bF.nil,ag1⟩)
 refine aa ?_;exact⟨⟨_,_,(),bk,bk,ag4,ag2⟩,fZ.ext (aB.trans SD) dQ⟩
theorem Ys{w:World}{fE n base:Nat}{b4:List Nat}{M:List (List Bool)}(h:lO w fE n base b4 M){i:Nat}(ad:i<b4.length)(ky:i<M.length):∃b,w.heap[fE]? = w.heap[fE]? /\ w.cell? (Addr.add ⟨fE,0,none⟩ (i*1))=some (.slice (some ⟨b,0,none⟩) n n)/\w.heap[b]? = some (.cells (j7 M[i]).toArray T.p):=by
 refine⟨b4[i],rfl,e8 h.row ?_,(h.rows i ad ky).1⟩;rw[Nat.mul_one];simp only[List.getElem?_toArray];rw[List.getElem?_append_left (by simpa using ad)];simp[ad]
theorem Kh{cs:List Value}{m:o.Model}{ref:Int}{t:Bool}{w:World}(h:o.ec w cs m)(aZ:m.cQ)(bc:hv w)(aL:∀u,o.nB m ref u->u=t):bu Tryz.prog F.p #[.agg cs.toArray,.int .i64 ref] w fun u w'=>u = .bool t/\Ext w w' :=
 (Sq cs m ref w h aZ bc).mono fun u w' ⟨⟨hf,h1,U⟩,ag⟩=>⟨by rw[h1,aL hf U],ag⟩
theorem GG{cs:List Value}{m:o.Model}{q l:Int}{t:Bool}{w:World}(h:o.ec w cs m)(aZ:m.cQ)(bc:hv w)(aL:∀u,o.ny m q l u->u=t):bu Tryz.prog F.al #[.agg cs.toArray,.int .i64 q,.int .i64 l] w fun u w'=>u = .bool t/\Ext w w' :=
 (abN cs m q l w h aZ bc).mono fun u w' ⟨⟨hf,h1,U⟩,ag⟩=>⟨by rw[h1,aL hf U],ag⟩
theorem aag(w:World)(bc:hv w):bu Tryz.prog F.uR #[] w fun v w'=>v = .bool true/\Ext w w':=by
 refine bL E.uR ?_;refine bG ?_;refine ae ?_;refine K.call (Sg ⟨#[80]⟩ (by decide) w) ?_;rintro _ av ⟨⟨v1,v2,_,rfl,_,V0,VV⟩,aB⟩;refine ae ?_;refine K.call (Sg ⟨#[81]⟩ (by decide) av) ?_;rintro _ aU ⟨⟨IT,w1,_,rfl,_,V1,VW⟩,aA⟩;have a6:=aB.trans aA;refine ae ?_;intro bb ek e6 ax bz;refine ae ?_;intro bp bC cR aN bA;replace bA:bp.heap[bC]? = some (.cells #[.slice none 0 0,.slice none 0 0,.slice none 0 0,.slice (some ⟨ek,0,none⟩) 2 2,.slice none 0 0] T.b):=bA;have Cr:=ax.trans aN;have VY:o.pB bp (.slice (some ⟨ek,0,none⟩) 2 2) o.fm.procs:=bF.Ca [⟨o.zU.enc (.slice v1 1 1) (.slice v2 1 1),rfl,by simp[o.dz.enc,Value.oneCell']⟩,⟨o.zV.enc (.slice IT 1 1) (.slice w1 1 1),rfl,by simp[o.dz.enc,Value.oneCell']⟩] (aN.obj bz) rfl rfl rfl (by decide) (by
  intro i h1 U
  match i,h1 with
  | 0,_=>exact⟨(show o.hR ⟨#[80]⟩ by decide),_,_,rfl,(V0.ext aA).ext Cr,(VV.ext aA).ext Cr⟩
  | 1,_=>exact⟨(show o.hR ⟨#[81]⟩ by decide),_,_,rfl,V1.ext Cr,VW.ext Cr⟩
  | n+2,h1=>simp at h1;omega)
 have bq:o.ec bp _ o.fm:=⟨_,_,_,_,_,rfl,bF.nil,bF.nil,bF.nil,VY,bF.nil⟩;have aZ:=o.acv;have b0:=a6.trans Cr;clear VY V0 VV V1 VW bz;refine ae ?_;refine K.call (abO _ o.fm bp bq aZ (bc.ext b0)) ?_;rintro _ bR ⟨hO,aW⟩;replace bA:=aW.obj bA;have b3:=b0.trans aW;rcases hO with ⟨Hb,_⟩ | ⟨_,L,fE,b4,jT,rfl,fX⟩
 .exact absurd o.CI Hb
 have c7:=o.SY jT;subst c7;obtain⟨gx,_,sX,s4⟩:=Ys fX (i:=0) (by have:=fX.len;simp[o.lR] at this;omega) (by simp[o.lR]);obtain⟨fA,_,kj,kl⟩:=Ys fX (i:=1) (by have:=fX.len;simp[o.lR] at this;omega) (by simp[o.lR]);have d0:(o.lR [([0],[0,1]),([2],[2,3])])[0]'(by simp[o.lR])=[true,false]:=by decide
 have d1:(o.lR [([0],[0,1]),([2],[2,3])])[1]'(by simp[o.lR])=[false,true]:=by decide
 rw[d0] at s4;rw[d1] at kl;replace s4:bR.heap[gx]? = some (.cells #[.bool true,.bool false] T.p):=s4;replace kl:bR.heap[fA]? = some (.cells #[.bool false,.bool true] T.p):=kl;clear fX d0 d1;refine ae ?_;intro bY vx C4 a8 ct;refine ae ?_;intro cd pH C5 bJ cS;refine ae ?_;intro dg b5 fo bV cK;replace cK:dg.heap[b5]? = some (.cells #[.slice none 0 0,.slice none 0 0,.slice none 0 0,.slice (some ⟨pH,0,none⟩) 1 1,.slice none 0 0] T.b):=cK;have xM:=(a8.trans bJ).trans bV;have VX:o.oO dg (.slice (some ⟨vx,0,none⟩) 1 1) [o.tT]:=bF.Ca [⟨o.tT.enc (.slice none 0 0) (.slice none 0 0),rfl,by simp[o.dI.enc,Value.oneCell']⟩] ((bJ.trans bV).obj ct) rfl rfl rfl (by decide) (by
  intro i h1 U
  have:i=0:=by simp at h1;omega
  subst this;exact⟨(show o.hR o.tT.name by decide),_,_,rfl,bF.nil,bF.nil⟩)
 have VZ:o.pB dg (.slice (some ⟨pH,0,none⟩) 1 1) o.kQ.procs:=bF.Ca [⟨o.vT.enc (.slice none 0 0) (.slice (some ⟨vx,0,none⟩) 1 1),rfl,by simp[o.dz.enc,Value.oneCell']⟩] (bV.obj cS) rfl rfl rfl (by decide) (by
  intro i h1 U
  have:i=0:=by simp at h1;omega
  subst this;exact⟨(show o.hR ⟨#[80]⟩ by decide),_,_,rfl,bF.nil,VX⟩)
 have jh:o.ec dg _ o.kQ:=⟨_,_,_,_,_,rfl,bF.nil,bF.nil,bF.nil,VZ,bF.nil⟩;have ae5:=o.acr;have dW:=b3.trans xM;have z6:=bq.ext (aW.trans xM);replace bA:=xM.obj bA;replace s4:=xM.obj s4;replace kl:=xM.obj kl;replace sX:=xM.cell sX;replace kj:=xM.cell kj;clear VX VZ ct cS bq;refine ae ?_
 repeat' first
  | (refine K.sy (by first | rfl | decide | simp) ?_;refine ae ?_)
  | (refine K.qC rfl ?_;refine ae ?_)
  | (refine K.dp 0 rfl (by decide) ?_;refine ae ?_)
  | (refine K.dp 1 rfl (by decide) ?_;refine ae ?_)
  | (refine K.ld sX ?_;refine ae ?_)
  | (refine K.ld kj ?_;refine ae ?_)
  | (refine K.ld (e8 (j:=0*1) s4 rfl) ?_;refine ae ?_)
  | (refine K.ld (e8 (j:=1*1) s4 rfl) ?_;refine ae ?_)
  | (refine K.ld (e8 (j:=0*1) kl rfl) ?_;refine ae ?_)
 refine K.call (GG (z6.ext (Ext.refl dg)) aZ (bc.ext (dW.trans (Ext.refl dg))) (t:=true) fun u h=>o.SX (q:=0) (by decide) jT h) ?_;rintro _ ea ⟨rfl,b1⟩;have jM:=(Ext.refl dg).trans b1;replace bA:=b1.obj bA;replace cK:=b1.obj cK;refine ae ?_;refine K.call (GG (z6.ext jM) aZ (bc.ext (dW.trans jM)) (t:=true) fun u h=>o.SX (q:=1) (by decide) jT h) ?_;rintro _ e3 ⟨rfl,cv⟩;have xa:=jM.trans cv;replace bA:=cv.obj bA;replace cK:=cv.obj cK;refine ae ?_;refine K.call (GG (z6.ext xa) aZ (bc.ext (dW.trans xa)) (t:=false) fun u h=>o.acy h) ?_;rintro _ gg ⟨rfl,fH⟩;have pv:=xa.trans fH;replace bA:=fH.obj bA;replace cK:=fH.obj cK;refine ae ?_;refine K.call (GG (z6.ext pv) aZ (bc.ext (dW.trans pv)) (t:=false) fun u h=>o.acx h) ?_;rintro _ lI ⟨rfl,fx⟩;have qo:=pv.trans fx;replace bA:=fx.obj bA;replace cK:=fx.obj cK;refine ae ?_;refine K.call (Kh (z6.ext qo) aZ (bc.ext (dW.trans qo)) (t:=false) fun u h=>(o.NG o.fm 0).elim fun a k=>k.elim fun b k=>o.acC k h) ?_;rintro _ nn ⟨rfl,ke⟩;have y8:=qo.trans ke;replace bA:=ke.obj bA;replace cK:=ke.obj cK;refine ae ?_;refine K.call (Kh (jh.ext y8) ae5 (bc.ext (dW.trans y8)) (t:=true) fun u h=>(o.NG o.kQ 0).elim fun a k=>k.elim fun b k=>o.acu k h) ?_;rintro _ YS ⟨rfl,sT⟩;have BF:=y8.trans sT;replace bA:=sT.obj bA;replace cK:=sT.obj cK;refine ae ?_;refine K.call (Kh (z6.ext BF) aZ (bc.ext (dW.trans BF)) (t:=false) fun u h=>o.acD h) ?_;rintro _ apP ⟨rfl,nK⟩;have Zk:=BF.trans nK;replace bA:=nK.obj bA;replace cK:=nK.obj cK;refine ae ?_;exact⟨bk,dW.trans Zk⟩
end Go.Proofs.R
end
section
namespace o
open Go
structure amU(m:Model)(M:List (List Bool)):Prop where
 bad:(check m).cX≠0->M=[]
 ok:(check m).cX=0->∃L,mM m (refs m).length L/\M=lR L
structure Zq where
 cmd:Int
 gL:Int
 to:List Int
structure amP(m:Model)(s:List Int)(x:Zq)(q p k:Nat)(u:List Int):Prop where
 at_:gl m x.cmd q p k
 anu:nE m s q (cL m p k)=some u
 apJ:x.gL=0/\x.to=u\/x.gL=1/\ways (cL m p k) m.aM=2/\x.to=lost m s u (cL m p k)
theorem YT{m:Model}{c:dI}(h:ways c m.aM=2):∃j:Nat,(comm c.cb).2=j/\j<m.aM.length:=by
 obtain⟨j,h1,U,_⟩:=YU (c:=c) (l:=m.aM) (by omega);exact⟨j,h1,U⟩
theorem ahQ{m:Model}{s t:List Int}{c:dI}{l:List Int}(aK:s.length=eA m)(h:eE s t l)(hw:ways c m.aM=2):eE s (lost m s t c) l:=by
 obtain⟨j,aR,p0⟩:=YT hw;have wq:=oY p0;unfold lost;rw[aR,Int.toNat_natCast];have eM:(chanOf m s j).length=1+ju m j:=tL (by omega);have ad:df m j+(chanOf m s j).length<=t.length:=by rw[eM,h.1];omega
 refine⟨(DX ad).trans h.1,fun c aw=>?_⟩;rw[DW ad] at aw;split at aw
 .rename_i ba;refine absurd ?_ aw;rw[eM] at ba;unfold chanOf;rw[List.getElem?_take_of_lt (by omega),List.getElem?_drop];congr 1;omega
 .exact h.2 c aw
theorem amp(c:dI)(l:List dv):ways c l<=2:=by
 unfold ways;split
 .split
  .split<;>omega
  .omega
 .omega
theorem aeU{c:dI}{cx:Int}(h:head c cx=0):0<=c.from_/\c.from_<cx/\0<=c.to/\c.to<cx:=by
 unfold head at h;by_cases dH:isName c.name=false
 .rw[if_pos dH] at h;exact absurd h (by decide)
 rw[if_neg dH] at h;by_cases dM:c.from_<0\/cx<=c.from_\/c.to<0\/cx<=c.to
 .rw[if_pos dM] at h;exact absurd h (by decide)
 omega
theorem abw{m:Model}(h:(check m).cX=0){p k:Nat}(aO:p<m.procs.length)(hk:k<m.procs[p].cI.length):0<=m.procs[p].cI[k].from_/\m.procs[p].cI[k].from_<m.procs[p].cx/\0<=m.procs[p].cI[k].to/\m.procs[p].cI[k].to<m.procs[p].cx:=by
 obtain⟨eO,_,_⟩:=Is (J2 h);obtain⟨_,dc,_,_⟩:=zR aO (eO p aO);obtain⟨_,_,iH⟩:=Nh dc;have bg:=(Gw _ _ iH k hk).1;unfold ix at bg;by_cases h1:head m.procs[p].cI[k] m.procs[p].cx≠0
 .rw[if_pos h1] at bg;exact absurd bg h1
 .exact aeU (Classical.byContradiction h1)
theorem gl.cx{m:Model}{ref:Int}{q p k:Nat}(h:gl m ref q p k):0<=(cL m p k).to/\(cL m p k).to<(m.procs[p]'(h.at_.aO)).cx:=by
 have:=abw h.ok h.at_.aO h.at_.hk
 rw[xG h.at_.aO h.at_.hk];omega
theorem abu{m:Model}{ref:Int}{q p k:Nat}(cf:gl m ref q p k){s t:List Int}(aK:Fits m s)(h:nE m s q (cL m p k)=some t):Fits m t:=by
 have bq:=lZ cf.ok;unfold nE at h;split at h
 .cases h
 split at h
 .cases h
 cases h1:ku m q (cL m p k).cb s with
 | none=>rw[h1] at h;cases h
 | some u =>
  rw[h1] at h;have e:u.set (eg m q) (cL m p k).to=t:=by injection h
  subst e;have hu:=RH bq cf.inst _ s u (fun a bo=>by
   obtain⟨j,aR,rfl⟩:=List.mem_iff_getElem.1 bo;exact cf.cin.act j aR) aK h1
  refine Tc hu (.inr (by have:=MU (m:=m) (q:=q) 0;omega)) fun aw=>?_;obtain⟨_,U,ag⟩:=Wj cf.inst.aG cf.inst.aO cf.inst.RR
  have:=cf.cx
  omega
theorem ahR{m:Model}(bq:eF m){s t:List Int}{c:dI}(aK:Fits m s)(aL:Fits m t)(hw:ways c m.aM=2):Fits m (lost m s t c):=by
 obtain⟨j,aR,p0⟩:=YT hw;have wq:=oY p0;have hZ:=(bq.chan _ (List.getElem_mem p0)).cap;have fG:=od p0;unfold lost;rw[aR,Int.toNat_natCast];have eM:(chanOf m s j).length=1+ju m j:=tL (by rw[aK.len];omega);refine KF aL p0 (by omega) eM ?_
 have:=aK.queue j p0
 unfold oh at this;unfold chanOf;rw[fG];exact this
theorem k5.right{m:Model}{s t:List Int}{ref gL:Int}(h:k5 m s ref gL t 0):oT m s/\oT m t/\∃q p k,gl m ref q p k/\eE s t (mB m q (cL m p k) (cL m p k).cb.length):=by
 have ak:oT m s/\Told m ref:=Classical.byContradiction fun aD=>absurd (h.f0 aD).2 (by decide);obtain⟨dr,aL⟩:=ak;obtain⟨q,p,k,cf⟩:=tM aL;have hw:0<=gL/\gL<ways (cL m p k) m.aM:=Classical.byContradiction fun aD=>absurd (h.f1 q p k dr cf aD).2 (by decide);cases bw:nE m s q (cL m p k) with
 | none=>exact absurd (h.f2 q p k dr cf hw bw).2 (by decide)
 | some u =>
  obtain⟨e,_⟩:=h.f3 q p k u dr cf hw bw;have hu:=abu cf dr.2 bw;have aw:=R5 cf.inst.aG rfl cf.cin dr.2.len bw;have agt:=amp (cL m p k) m.aM;refine⟨dr,?_,q,p,k,cf,?_⟩
  .rw[e];split
   .exact⟨dr.1,ahR (lZ dr.1) dr.2 hu (by omega)⟩
   .exact⟨dr.1,hu⟩
  .rw[e];split
   .exact ahQ dr.2.len aw (by omega)
   .exact aw
theorem al5{m:Model}{s t:List Int}{ref gL:Int}{b:List Int}{a:List Int}(cg:nB m ref false)(dr:jq m ref a b)(h:k5 m s ref gL t 0):rV m s=rV m t/\(rV m t).2=0:=by
 obtain⟨ba,aL,q,p,k,cf,aw⟩:=h.right;have hz:=cg.there q p k a b cf dr;have c5:∀x∈b,x∉qh m:=fun x h1 U=>by
  have:=hz.2 (.inr ⟨x,h1,U⟩)
  cases this
 have aC:=(dr.there q p k cf).2;rw[ML ba.1 ba.2,ML ba.1 aL.2];refine⟨?_,rfl⟩;congr 1;refine alN ba.1 fun nR aO x au=>?_;have qY:x∈qh m:=List.mem_flatMap.2 ⟨nR,aO,au⟩;have ak:=(akO ba.1 (lZ ba.1) x qY).1;refine Classical.byContradiction fun afu=>c5 x ?_ qY;refine(aC.mem x).2 ?_
 have:=aw.2 x.toNat fun e=>afu e.symm
 rwa[show((x.toNat:Nat):Int)=x from by omega] at this
theorem aio{m:Model}{ref:Int}{q p k:Nat}(cf:gl m ref q p k)(cg:nB m ref false)(dr:∃a b,jq m ref a b):(cL m p k).from_<(cL m p k).to:=by
 obtain⟨a,b,dr⟩:=dr;refine Classical.byContradiction fun aD=>?_
 have:=(cg.there q p k a b cf dr).2 (.inl (by omega))
 cases this
end o
end
section
namespace Go.Proofs.R
open Go Go.RowKit bt
theorem ajF(cs ys:List Value)(m:o.Model)(v:Value)(s:List Int)(w:World)(h:o.ec w cs m)(aZ:m.cQ)(c7:o.ja w ys (o.layout m))(dr:o.oT m s)(ay:eT w v s) :
  bu Tryz.prog F.EK #[.agg cs.toArray,.agg ys.toArray,v] w fun u w'=>u = .int .u64 (o.told m s:Nat)/\Ext w w':=by
 have dP:=h;have o3:=c7;obtain⟨cz,bS,b9,c1,cn,c2,cp,bP,cA,bX,rfl,ak,h1,U,ag,aJ,eI,ej,eo,dX,ep⟩:=h.form;obtain⟨gp,d0,eO,d1,fz,d2,gb,d3,gA,d4,rfl,_⟩:=c7.form;have kc:=o.lZ dr.1;have rM:=o.Xb dr.1;have dt:=o.ach kc dr.2;refine bL E.EK ?_;refine bG ?_;refine ae ?_;intro av b5 fo aB bz;refine ae ?_;intro aU cM fM aA bA;replace bz:=aA.obj bz;have a6:=aB.trans aA;refine ae ?_;refine K.call (NS _ _ v m s (-1) aU (dP.ext a6) aZ kc (o3.ext a6) (ay.ext Flat.ext a6) dr.2 (by omega) (by omega)) ?_;rintro _ bb ⟨⟨es,rfl,fF⟩,ax⟩;have Tw:=fF.here;have adH:=Ks Tw dt;obtain⟨Ot,IT,w1,al3,rfl,gk,dc,dd,gv⟩:=Tw.ex;obtain⟨_,_,rfl,_⟩:=gk.form;obtain⟨_,_,rfl,_⟩:=dc.form;obtain⟨_,_,rfl,_⟩:=dd.form;obtain⟨_,_,rfl,_⟩:=gv.form;clear gk dc dd gv;have bK:=a6.trans ax;replace bz:=ax.obj bz;refine ae ?_;intro bp lh jw aN cS;have b0:=bK.trans aN;replace bz:=aN.obj bz;have pS:=adH.ext aN;refine ae ?_;refine K.dj 9 m.props.length [3,7] (fun u:Nat=>[(8,.int .u64 (u:Nat))]) 0 (fun k u W=>u=o.qk m s k/\Ext bp W) bx bx ⟨rfl,Ext.refl _⟩ ?_;rintro k u S bR hk ⟨rfl,aW⟩;have TW:=aW.obj bz;have Hg:=aW.obj cS;have b3:=b0.trans aW;refine ae ?_;apply K.cond<;>intro g2
 .have de:k<m.props.length:=by omega
  obtain⟨a4,rfl⟩:=aJ.addr (by omega);obtain⟨mr,ht,dL,gY⟩:=aJ.at k de;obtain⟨Iq,ce,rfl,_⟩:=gY.form;unfold o.ks.enc at dL;have U8:=dL.ext b3;refine ae ?_;refine K.gB (.tuple #[.int .i64 (o.eval m.props[k].expr (o.cZ m s (-1))).1,.int .i64 (o.eval m.props[k].expr (o.cZ m s (-1))).2]) (fun w' gP=>Iy _ m.props[k].expr _ (o.cZ m s (-1)) w' (gY.ext (b3.trans gP)) (pS.ext (aW.trans gP))) ?_;refine ae ?_;intro cd bJ;refine ae ?_;apply K.cond<;>intro g3
  .refine ae ?_;apply K.cond<;>intro g4
   .refine ae ?_;refine⟨de,bk,_,⟨rfl,trivial⟩,(o.Yz de (fun dm=>dm.2 g4)).symm,aW.trans bJ⟩
   .refine ae ?_;refine K.amA k rfl (by omega) ?_;refine ae ?_;refine K.akX (by omega) ?_;refine ae ?_;refine K.aiR (by have:=o.alL (m:=m) (s:=s) (k:=k) (by omega);omega) (by have:=o.aje (k:=k) (by omega);omega) ?_;refine ae ?_;refine⟨de,bk,_,⟨rfl,trivial⟩,(o.alM de ⟨g3,g4⟩).symm,aW.trans bJ⟩
  .refine ae ?_;refine⟨de,bk,_,⟨rfl,trivial⟩,(o.Yz de (fun dm=>g3 dm.1)).symm,aW.trans bJ⟩
 .have jz:k=m.props.length:=by omega
  refine ae ?_;exact⟨by rw[jz,o.alJ],b3⟩
theorem Xr(cs:List Value)(m:o.Model)(v:Value)(s:List Int)(w:World)(h:o.ec w cs m)(aZ:m.cQ)(ay:eT w v s) :
  bu Tryz.prog F.AV #[.agg cs.toArray,v] w fun u w'=>u = .tuple #[.int .u64 ((o.rV m s).1:Nat),.int .i64 (o.rV m s).2]/\Ext w w':=by
 have dP:=h;obtain⟨cz,bS,b9,c1,cn,c2,cp,bP,cA,bX,rfl,_⟩:=h.form;refine bL E.AV ?_;refine bG ?_;refine ae ?_;intro av cr dQ aB aP;refine ae ?_;refine K.call (WC _ m av (dP.ext aB) aZ) ?_;rintro _ aU ⟨rfl,aA⟩;replace aP:=aA.obj aP;have a6:=aB.trans aA;refine ae ?_;apply K.cond<;>intro g1;rotate_left
 .refine ae ?_;exact⟨by rw[o.ahk g1]<;>rfl,a6⟩
 refine ae ?_;refine K.call (Xz _ m aU (dP.ext a6) aZ) ?_;rintro _ bb ⟨⟨ys,rfl,c7⟩,ax⟩;have bK:=a6.trans ax;replace aP:=ax.obj aP;have kc:=o.lZ g1;have LU:o.lay m=o.layout m:=by unfold o.lay;rw[if_pos g1]
 rw[LU] at c7;have TC:=c7.here;obtain⟨gp,d0,eO,d1,fz,d2,gb,d3,gA,d4,rfl,_⟩:=TC.form;refine ae ?_;intro bp ek e6 aN ct;have b0:=bK.trans aN;replace aP:=aN.obj aP;have TD:=TC.ext aN;refine ae ?_;refine K.call (Nz _ _ m v s bp (dP.ext b0) TD kc (ay.ext Flat.ext b0)) ?_;rintro _ bR ⟨⟨t,rfl,aL⟩,aW⟩;have b3:=b0.trans aW;replace aP:=aW.obj aP;replace ct:=aW.obj ct;cases t with
 | false =>
  have afv:¬o.Fits m s:=fun aK=>by have:=aL.2 aK;cases this
  refine ae ?_;exact⟨by rw[o.ahl g1 afv]<;>rfl,b3⟩
 | true =>
  have aK:=aL.1 rfl;refine ae ?_;refine K.call (ajF _ _ m v s bR (dP.ext b3) aZ (TD.ext aW) ⟨g1,aK⟩ (ay.ext Flat.ext b3)) ?_;rintro _ bY ⟨rfl,a8⟩;refine ae ?_;exact⟨by rw[o.ML g1 aK]<;>rfl,b3.trans a8⟩
end Go.Proofs.R
end