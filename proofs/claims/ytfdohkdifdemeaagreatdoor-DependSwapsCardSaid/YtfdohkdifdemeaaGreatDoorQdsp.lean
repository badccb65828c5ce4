/- Parts. -/
import Derived.Test.YtfdohkdifdemeaaGreatDoorQdso
set_option linter.all false
set_option maxRecDepth 4000
set_option maxHeartbeats 16000000
section
namespace bt
open Go Go.RowKit
theorem Tn:∀(l:List Int) (k:Nat) (x:Int),(l.flatMap ey).set k (.int .i64 x)=(l.set k x).flatMap ey
 | [],_,_=>rfl
 | y :: l,0,x=>rfl
 | y :: l,k+1,x=>by
  have:=Tn l k x
  simp only[List.flatMap_cons,List.set_cons_succ];rw[<-this];rfl
theorem K.alh{e:TypeId}{base:Nat}{w:World}{l:List Int}{a:Addr}{n c k:Nat}{x:Int}{gu:World->Prop}{t}(h:bs ey e 1 base w (.slice (some a) n c) l)(hk:k<l.length)
  (dt:∀av,dA a.block w av->bs ey e 1 base av (.slice (some a) n c) (l.set k x)->gu av):qv (.pointer (some (a.add (k*1)))) (.int .i64 x) w gu t:=by
 rcases h.2 with ⟨aE,ak⟩ | ⟨g,cap,cur,h1,U,ag,aJ,bg,bS,cj⟩
 .cases aE
 .injection h1 with bR aW bJ
  injection bR with bR
  subst bR bJ;have cv:k<cur.size:=by omega
  have ly:Addr.add ⟨g,0,none⟩ (k*1)=⟨g,k,none⟩:=by rw[add_eq,Nat.mul_one,Nat.zero_add]
  have aw:w.cell? (Addr.add ⟨g,0,none⟩ (k*1))=some cur[k]:=e2 ag (by rw[Nat.mul_one];exact Array.getElem?_eq_getElem cv);rw[ly] at aw ⊢;have bF:w.ownsRow base e 1 (.slice (some ⟨g,0,none⟩) l.length c) l.length (l.flatMap ey):=by unfold bs at h;rw[aW] at h;exact h
  have ay:=World.ownsRow.stored bF k (.int .i64 x);rw[Tn] at ay;refine K.st aw (by simp[World.frozen?,ag]) (by simp[Value.oneCell']) (dt _ (dA.setCell w ⟨g,k,none⟩ _) ?_);unfold bs;rw[List.length_set,aW];exact ay.1
end bt
namespace o
open Go
theorem H5{l:List Int}:l8 l=true↔∃h:0<l.length,0<=l[0]/\l[0]<=(l.length:Int) - 1/\∀k (hk:k<l.length),l[0]+1<=k->l[k]=0:=by
 cases l with
 | nil=>simp[l8]
 | cons n r =>
  simp only[l8,Bool.and_eq_true,decide_eq_true_eq,List.all_eq_true];constructor
  .rintro⟨⟨ak,h1⟩,U⟩;refine⟨by simp,ak,by simp;omega,fun k hk aS=>?_⟩;cases k with
   | zero=>simp at aS;omega
   | succ k =>
    simp only[List.getElem_cons_zero,List.getElem_cons_succ] at aS ⊢;refine U _ (List.mem_iff_getElem.2 ⟨k - n.toNat,by simp at hk ⊢;omega,?_⟩);rw[List.getElem_drop];congr 1;omega
  .rintro⟨_,ak,h1,U⟩;simp only[List.getElem_cons_zero,List.length_cons] at ak h1 U;refine⟨⟨ak,by omega⟩,fun x ar=>?_⟩;obtain⟨k,hk,rfl⟩:=List.mem_iff_getElem.1 ar;rw[List.getElem_drop]
   have:=U (n.toNat+k+1) (by simp at hk;omega) (by omega)
   simpa using this
theorem agY{l:List Int}(h:l8 l=true)(ak:0<l.length):lL l=(l.drop 1).take l[0].toNat:=by
 unfold lL;rw[if_pos h];cases l with
 | nil=>simp at ak
 | cons n r=>rfl
theorem VS(l:List Int):(lL l).length<=l.length:=by
 unfold lL;split
 .rw[List.length_take,List.length_drop];omega
 .simp
theorem agX{l:List Int}(h:¬l8 l=true):lL l=[]:=by unfold lL;rw[if_neg h]
theorem W7(l:List Int)(k:Nat):((l.length:Int) :: (List.range (k+1)).map fun i=>l.getD i 0)=((l.length:Int) :: (List.range k).map fun i=>l.getD i 0)++[l.getD k 0]:=by
 rw[List.range_succ,List.map_append];rfl
end o
namespace Go.Proofs.R
open Go Go.RowKit bt
abbrev oS(base:Nat)(w:World)(v:Value)(l:List Int):Prop:=bs ey T.a 1 base w v l
theorem sf{base:Nat}{w:World}{v:Value}{l:List Int}(h:oS base w v l):eO w v l:=bs.jI (enc:=ey) (fun _=>rfl) h
theorem XL(v:Value)(l:List Int)(w:World)(h:eO w v l) :
  bu Tryz.prog F.AX #[v] w fun u w'=>u = .bool (o.l8 l)/\Ext w w':=by
 obtain⟨e3,fy,rfl,gi⟩:=h.form;have no:(¬∃h:0<l.length,0<=l[0]/\l[0]<=(l.length:Int) - 1/\∀k (hk:k<l.length),l[0]+1<=k->l[k]=0)->o.l8 l=false:=fun aE=>by
  cases aD:o.l8 l with
  | false=>rfl
  | true=>exact absurd (o.H5.1 aD) aE
 refine bL E.AX ?_;refine bG ?_;refine af ?_;apply K.cond<;>intro g1
 .refine af ?_;exact⟨by rw[no];rintro⟨ak,_⟩;omega,Ext.refl _⟩
 have ak:0<l.length:=by omega
 obtain⟨a,rfl⟩:=h.addr ak;refine af ?_;apply K.cond<;>intro g2
 .refine af ?_;exact⟨by rw[no];rintro⟨_,h1,_⟩;omega,Ext.refl _⟩
 refine af ?_;apply K.cond<;>intro g3
 .refine af ?_;exact⟨by rw[no];rintro⟨_,h1,U,_⟩;omega,Ext.refl _⟩
 refine af ?_;refine K.w9 [0] (fun x:Int=>[(3,.int .i64 x)]) (l[0]+1) (fun x W=>W=w/\l[0]+1<=x/\x<=l.length/\∀k (hk:k<l.length),l[0]+1<=k->(k:Int)<x->l[k]=0) (fun x=>((l.length:Int) - x).toNat) bz ⟨rfl,by omega,by omega,fun k hk a b=>by omega⟩ ?_;rintro x S av ⟨rfl,tc,ar,dC⟩;refine af ?_;apply K.cond<;>intro g4
 .refine af ?_;refine K.dD x.toNat (by omega) (by omega) ?_;refine af ?_;apply K.cond<;>intro g5
  .refine af ?_;refine⟨x+1,bz,⟨bk,by omega,by omega,fun k hk a b=>?_⟩,by omega⟩;by_cases e:(k:Int)=x
   .have:k=x.toNat:=by omega
    subst this;exact g5
   .exact dC k hk a (by omega)
  .refine af ?_;exact⟨by rw[no];rintro⟨_,_,_,ag⟩;exact g5 (ag _ (by omega) (by omega)),Ext.refl _⟩
 .refine af ?_;exact⟨by rw[o.H5.2 ⟨ak,by omega,by omega,fun k hk a=>dC k hk a (by omega)⟩],Ext.refl _⟩
theorem Xz{w:World}(v:Value)(l:List Int)(c:Nat)(n x:Int)(h:eO w v l)(ar:x=c)(aw:c<l.length)(aS:l.length<=100000) :
  bu Tryz.prog F.A2 #[v,.int .i64 x,.int .i64 n] w fun u w'=>oS w.heap.size w' u (l.set c n)/\Ext w w':=by
 subst ar;obtain⟨e3,fy,rfl,gi⟩:=h.form;refine bL E.A2 ?_;refine bG ?_;refine af ?_;intro av bC cR aB aq;have qU:oS w.heap.size av (.slice (some ⟨bC,0,none⟩) 0 0) []:=bs.empty cR aq;refine af ?_;refine K.Gr qU (h.ext Flat.ext aB) (fun _=>rfl) mm (by simp only[List.length_nil];omega) (by simp only[List.length_nil];unfold maxLen;omega) aB.size fun cf aU fO ae9=>?_;rw[List.nil_append] at fO;have aW:Ext w aU:=aB.grown ae9 fun k hk=>(qU.lt k hk).1;obtain⟨bm,gf,rfl,_⟩:=fO.form;obtain⟨a,rfl⟩:=(sf fO).addr (by omega);refine af ?_;refine K.alh fO aw fun bb fT fP=>?_;have aC:=fO.lt a.block rfl;refine af ?_;exact⟨fP,fT.ext aW aC.1⟩
end Go.Proofs.R
end
section
namespace bt
open Go Go.RowKit
section
variable{S:Fr}{w:World}{aI:Value->Prop}
theorem K.Yi{α:Type}{sz n cap:Nat}{R:World->Addr->α->Prop}{bm:Option Addr}{x:Operand}{k:IntKind}{xs:List α}{t}(l:Nat)(ay:bE sz R w (.slice bm n cap) xs)(ar:bo S x = .int k (l:Int))(aS:l<=xs.length)
  (hk:∀al c,bE sz R w (.slice al (xs.length - l) c) (xs.drop l)->aI (.slice al (xs.length - l) c)):tJ S sz (.slice bm n cap) (some x) none none aI t:=by
 obtain⟨bR,aW,bJ⟩:=ay.len;refine K.hQ l n cap (by simp[fm,ar]) (by simp[fm]) (by simp[fm]) ⟨by omega,by omega,Nat.le_refl _⟩ (by simp) ?_;have h:=ay.sub l n (by omega) (by omega);rw[List.take_of_length_le (by rw[List.length_drop];omega)] at h;rw[bR] at h ⊢;exact hk _ _ h
theorem K.akU{α:Type}{sz n cap:Nat}{R:World->Addr->α->Prop}{bm:Option Addr}{y:Operand}{k:IntKind}{xs:List α}{t}(u:Nat)(ay:bE sz R w (.slice bm n cap) xs)(b2:bo S y = .int k (u:Int))(hu:u<=xs.length)
  (hk:∀al c,bE sz R w (.slice al u c) (xs.take u)->aI (.slice al u c)):tJ S sz (.slice bm n cap) none (some y) none aI t:=by
 obtain⟨bR,aW,bJ⟩:=ay.len;refine K.hQ 0 u cap (by simp[fm]) (by simp[fm,b2]) (by simp[fm]) ⟨by omega,by omega,Nat.le_refl _⟩ (by simp) ?_;have h:=ay.sub 0 u (by omega) hu;exact hk _ _ h
end
end bt
namespace Go.Proofs.R
open Go Go.RowKit bt
theorem XN(v:Value)(l:List Int)(w:World)(h:eO w v l)(aS:l.length<=100000) :
  bu Tryz.prog F.AV #[v] w fun u w'=>oS w.heap.size w' u (o.lL l)/\Ext w w':=by
 obtain⟨e3,fy,rfl,gi⟩:=h.form;refine bL E.AV ?_;refine bG ?_;refine af ?_;refine K.call (XL _ l w h) ?_;rintro _ av ⟨rfl,aB⟩;by_cases aD:o.l8 l=true
 .rw[aD];obtain⟨ak,h1,U,ag⟩:=o.H5.1 aD;obtain⟨a,rfl⟩:=h.addr ak;have gg:=h.ext Flat.ext aB;refine af ?_;refine K.dk 4 l[0].toNat [0] (fun v:gQ=>[(3,.slice v.1 v.2.1 v.2.2)]) (none,0,0) (fun k v W=>Ext av W/\oS av.heap.size W (.slice v.1 v.2.1 v.2.2) ((l.drop 1).take k)) bz bz ⟨Ext.refl _,bs.nil _ _ _ _ _⟩ ?_;clear gg;rintro k YV S aU hk ⟨aA,fO⟩;have ez:=h.ext Flat.ext (aB.trans aA);refine af ?_;apply K.cond<;>intro g1
  .have du:1+k<l.length:=by omega
   refine af ?_;intro bb b4 fp ax bA;have qS:((l.drop 1).take k).length<=100000:=by rw[List.length_take,List.length_drop];omega
   refine af ?_;refine K.mV (y:=l[1+k]) (fO.ext ax) bA rfl (fun _=>rfl) mm (by omega) (by unfold maxLen;omega) (by have:=aA.size;have:=ax.size;omega) fun bm c d bq fr pf=>?_;refine af ?_;refine⟨by omega,bk,(bm,c,d),⟨rfl,trivial⟩,(aA.trans ax).grown pf fun i ad=>(fO.lt i ad).1,?_⟩;rw[List.take_succ,List.getElem?_drop,List.getElem?_eq_getElem du];exact fr
  .have km:k=l[0].toNat:=by omega
   subst km;refine af ?_;exact⟨by rw[o.agY aD ak];exact bs.low aB.size fO,aB.trans aA⟩
 .have L8:o.l8 l=false:=by simpa using aD
  rw[L8];refine af ?_;exact⟨by rw[o.agX aD];exact bs.nil _ _ _ _ _,aB⟩
theorem XV(n:Nat)(v:Value)(l:List Int)(w:World)(h:eO w v l)(aE:1<=n/\n<=100000) :
  bu Tryz.prog F.AW #[.int .i64 n,v] w fun u w'=>oS w.heap.size w' u (o.u5 n l)/\Ext w w':=by
 obtain⟨e3,fy,rfl,gi⟩:=h.form;refine bL E.AW ?_;refine bG ?_;refine af ?_;intro av bC cR aB aq;have qU:oS w.heap.size av (.slice (some ⟨bC,0,none⟩) 1 1) ((l.length:Int) :: (List.range 0).map fun i=>l.getD i 0):=bs.Gw _ aq cR rfl (fun _=>rfl) rfl (by show 1<=maxLen;unfold maxLen;decide);clear aq;refine af ?_;refine K.dk 6 (n - 1) [0,1] (fun v:gQ=>[(5,.slice v.1 v.2.1 v.2.2)]) (some ⟨bC,0,none⟩,1,1) (fun k v W=>Ext w W/\oS w.heap.size W (.slice v.1 v.2.1 v.2.2) ((l.length:Int) :: (List.range k).map fun i=>l.getD i 0)) bz bz ⟨aB,qU⟩ ?_;clear qU;rintro k YV S aU hk ⟨aA,fO⟩;have ez:=h.ext Flat.ext aA;have qS:((l.length:Int) :: (List.range k).map fun i=>l.getD i 0).length=k+1:=by simp
 refine af ?_;apply K.cond<;>intro g1
 .refine af ?_;apply K.cond<;>intro g2
  .have du:k<l.length:=by omega
   obtain⟨a,rfl⟩:=h.addr (by omega);refine af ?_;intro bb b4 fp ax bA;refine af ?_;refine K.mV (y:=l[k]) (fO.ext ax) bA rfl (fun _=>rfl) mm (by omega) (by unfold maxLen;omega) (by have:=aA.size;have:=ax.size;omega) fun bm c d bq fr pf=>?_;refine af ?_;refine⟨by omega,bk,(bm,c,d),⟨rfl,trivial⟩,(aA.trans ax).grown pf fun i ad=>(fO.lt i ad).1,?_⟩;rw[o.W7,show l.getD k 0=l[k] from by simp[du]];exact fr
  .refine af ?_;intro bb b4 fp ax bA;refine af ?_;refine K.mV (y:=0) (fO.ext ax) bA rfl (fun _=>rfl) mm (by omega) (by unfold maxLen;omega) (by have:=aA.size;have:=ax.size;omega) fun bm c d bq fr pf=>?_;refine af ?_;refine⟨by omega,bk,(bm,c,d),⟨rfl,trivial⟩,(aA.trans ax).grown pf fun i ad=>(fO.lt i ad).1,?_⟩;rw[o.W7,show l.getD k 0=0 from by simp[List.getD,List.getElem?_eq_none (show l.length<=k by omega)]];exact fr
 .have km:k=n - 1:=by omega
  subst km;refine af ?_;exact⟨fO,aA⟩
theorem akh(v:Value)(l:List Int)(w:World)(h:eO w v l)(aS:l.length<=100000) :
  bu Tryz.prog F.EO #[v] w fun u w'=>((o.rj l=none/\u = .tuple #[.slice none 0 0,.int .i64 0,.bool false])\/(∃r x j7,o.rj l=some (r,x)/\u = .tuple #[j7,.int .i64 x,.bool true]/\oS w.heap.size w' j7 r))/\Ext w w':=by
 obtain⟨e3,fy,rfl,gi⟩:=h.form;refine bL E.EO ?_;refine bG ?_;refine af ?_;refine K.call (XN _ l w h aS) ?_;rintro u av ⟨qU,aB⟩;have gp:=sf qU;obtain⟨cS,ci,rfl,_⟩:=gp.form;refine af ?_;apply K.cond<;>intro g1
 .have ad:o.lL l=[]:=List.eq_nil_of_length_eq_zero (by omega);refine af ?_;exact⟨.inl ⟨by unfold o.rj;rw[ad],bk⟩,aB⟩
 have qP:=o.VS l;obtain⟨x,r,ad⟩:∃x r,o.lL l=x :: r:=by
  cases aw:o.lL l with
  | nil=>rw[aw] at g1;simp at g1
  | cons x r=>exact⟨x,r,rfl⟩
 obtain⟨lp,rfl⟩:=gp.addr (by omega);refine af ?_;intro aU aA;have TL:=gp.ext Flat.ext aA;have ez:=h.ext Flat.ext (aB.trans aA);refine af ?_;refine K.Yi (k:=.i64) 1 TL rfl (by omega) fun al c aN=>?_;have Ur:(o.lL l).drop 1=r:=by rw[ad];rfl
 have tc:(o.lL l)[0]'(by omega)=x:=by simp[ad]
 rw[Ur] at aN;refine af ?_;refine K.dD 0 rfl (by omega) ?_;refine af ?_;refine K.call (XV l.length _ r aU (by have:=aN.len.1;exact aN) (by omega)) ?_;rintro u bb ⟨fP,ax⟩;refine⟨ax,?_⟩;refine af ?_;refine⟨.inr ⟨o.u5 l.length r,x,u,by unfold o.rj;rw[ad],by rw[tc],bs.low (aB.trans aA).size fP⟩,(aB.trans aA).trans ax⟩
theorem akg(v:Value)(l:List Int)(x:Int)(w:World)(h:eO w v l)(aS:l.length<=100000) :
  bu Tryz.prog F.EN #[v,.int .i64 x] w fun u w'=>((o.px l x=none/\u = .tuple #[.slice none 0 0,.bool false])\/(∃r j7,o.px l x=some r/\u = .tuple #[j7,.bool true]/\oS w.heap.size w' j7 r))/\Ext w w':=by
 obtain⟨e3,fy,rfl,gi⟩:=h.form;refine bL E.EN ?_;refine bG ?_;refine af ?_;refine K.call (XL _ l w h) ?_;rintro _ av ⟨rfl,aB⟩;by_cases aD:o.l8 l=true;rotate_left
 .have L8:o.l8 l=false:=by simpa using aD
  rw[L8];refine af ?_;exact⟨.inl ⟨by unfold o.px;rw[if_neg (fun e=>aD e.1)],bk⟩,aB⟩
 rw[aD];obtain⟨ak,h1,U,ag⟩:=o.H5.1 aD;obtain⟨a,rfl⟩:=h.addr ak;have gg:=h.ext Flat.ext aB;have bx:l.headD 0=l[0]:=by cases l with | nil=>simp at ak | cons n r=>rfl
 refine af ?_;apply K.cond<;>intro g1
 .refine af ?_;exact⟨.inl ⟨by unfold o.px;rw[if_neg (fun e=>e.2 (by rw[bx];omega))],bk⟩,aB⟩
 refine af ?_;refine K.call (XN _ l av gg aS) ?_;rintro u aU ⟨fO,aA⟩;obtain⟨cS,ci,rfl,_⟩:=(sf fO).form;have qP:=o.VS l;refine af ?_;intro bb b4 fp ax bA;refine af ?_;refine K.mV (y:=x) (fO.ext ax) bA rfl (fun _=>rfl) mm (by omega) (by unfold maxLen;omega) (by have:=aA.size;have:=ax.size;omega) fun bm c d bq fr pf=>?_;have bZ:Ext av bq:=(aA.trans ax).grown pf fun i ad=>(fO.lt i ad).1;refine af ?_;refine K.call (XV l.length _ _ bq (sf fr) (by omega)) ?_;rintro u bT ⟨eC,aZ⟩;refine af ?_;exact⟨.inr ⟨_,_,by unfold o.px;rw[if_pos ⟨aD,by rw[bx];omega⟩],rfl,bs.low (aB.trans bZ).size eC⟩,(aB.trans bZ).trans aZ⟩
theorem Xy(c:o.dI)(fK ed:Value)(w:World)(bj:o.nz w ed c.b6) :
  bu Tryz.prog F.AP #[.agg (c.enc fK ed).toArray] w fun v w'=>v = .tuple #[.int .i64 (o.comm c.b6).1,.int .i64 (o.comm c.b6).2]/\Ext w w':=by
 obtain⟨bm,cap,rfl,hlen⟩:=bj.form;refine bL E.AP ?_;refine bG ?_;refine af ?_;intro av bC cR aB aq;unfold o.dI.enc at aq;refine af ?_;refine K.dk 4 c.b6.length [1] (fun _=>[]) () (fun k _ w'=>Ext av w'/\o.comm c.b6=o.comm (c.b6.drop k)) bz bz ⟨Ext.refl _,by simp⟩ ?_;have gx:=aq;clear aq;rintro k _ S aU hk ⟨fv,bB⟩;have aq:=fv.obj gx;have aA:=aB.trans fv;refine af ?_;apply K.cond<;>intro g1
 .have bp:k<c.b6.length:=by omega
  obtain⟨a,rfl⟩:=bj.addr (by omega);obtain⟨cx,cE,h0,fB,qZ⟩:=bj.at k bp;rw[o.abG bp] at bB;replace h0:=h0.ext aA;unfold o.Act.enc at h0;refine af ?_;apply K.cond<;>intro g2
  .refine af ?_;intro bb ax;refine af ?_;rw[bB,if_pos (by simp[o.gO,g2])];exact⟨bk,aA.trans ax⟩
  refine af ?_;apply K.cond<;>intro g3
  .refine af ?_;intro bb ax;refine af ?_;rw[bB,if_pos (by simp[o.gO,g3])];exact⟨bk,aA.trans ax⟩
  refine af ?_;rw[if_neg (by simp[o.gO,g2,g3])] at bB;exact⟨bp,bk,(),by trivial,fv,bB⟩
 .refine af ?_;rw[bB,List.drop_eq_nil_of_le (by omega)];exact⟨bk,aA⟩
theorem akp(c:o.dI)(fK ed dU:Value)(l:List o.dr)(w:World)(bj:o.nz w ed c.b6)(aS:o.mK w dU l) :
  bu Tryz.prog F.Es #[.agg (c.enc fK ed).toArray,dU] w fun v w'=>v = .int .i64 (o.ways c l)/\Ext w w':=by
 obtain⟨bm,cap,rfl,hlen⟩:=aS.form;obtain⟨ao6,zJ,rfl,HJ⟩:=bj.form;refine bL E.Es ?_;refine bG ?_;refine af ?_;intro av bC cR aB aq;refine af ?_;refine K.call (Xy c fK _ av (bj.ext aB)) ?_;rintro _ aU ⟨rfl,aA⟩;have aW:=aB.trans aA;rw[o.ways];refine af ?_;apply K.cond<;>intro g1;rotate_left
 .refine af ?_;rw[if_neg g1];exact⟨bk,aW⟩
 rw[if_pos g1];refine af ?_;apply K.cond<;>intro g2;rotate_left
 .refine af ?_;rw[o.hN (.inl (by omega))];exact⟨bk,aW⟩
 refine af ?_;apply K.cond<;>intro g3;rotate_left
 .refine af ?_;rw[o.hN (.inr (by omega))];exact⟨bk,aW⟩
 rw[o.iY (by omega) (by omega)];obtain⟨a,rfl⟩:=aS.addr (by omega);have ad:(o.comm c.b6).2.toNat<l.length:=by omega
 have ei:=((aS.at _ ad).cells).ext aW;refine af ?_;refine K.dD (o.comm c.b6).2.toNat (by omega) ad ?_;refine af ?_;refine K.dp (fun g4=>?_) (fun g4=>?_)
 .refine af ?_;rw[if_pos g4];exact⟨bk,aW⟩
 .refine af ?_;rw[if_neg (by simp[g4])];exact⟨bk,aW⟩
structure oX(w:World)(cs:List Value)(m:o.Model):Prop where
 ex:∃ms ys cx j7,cs=ms++ys++[cx,j7]/\o.dY w ms m/\o.jr w ys (o.layout m)/\lV w cx (o.insts m)/\B3 w j7 (o.refs m)
theorem oX.ext{w w':World}{cs:List Value}{m:o.Model}(he:Ext w w')(h:oX w cs m):oX w' cs m :=
 let ⟨ms,ys,cx,j7,ak,h1,U,ag,aJ⟩:=h.ex; ⟨ms,ys,cx,j7,ak,h1.ext he,U.ext he,ag.ext Flat.ext he,aJ.ext Flat.ext he⟩
theorem oX.form{w:World}{cs:List Value}{m:o.Model}(h:oX w cs m):∃gv d0 eD d1 fC d2 fU d3 gF d4 cy bP b9 c1 ck c2 cn bQ cB bX cS ci h5 kh,
  cs=[.slice gv m.scalars.length d0,.slice eD m.vars.length d1,.slice fC m.aL.length d2,.slice fU m.procs.length d3,.slice gF m.props.length d4,
   .slice cy (o.layout m).vars.length bP,.slice b9 (o.layout m).aL.length c1,.slice ck (o.layout m).insts.length c2,.int .i64 (o.layout m).cells,.slice cn (o.layout m).bf.length bQ,.slice cB (o.layout m).ad.length bX,.slice cS (o.insts m).length ci,.slice h5 (o.refs m).length kh] /\
  o.dY w [.slice gv m.scalars.length d0,.slice eD m.vars.length d1,.slice fC m.aL.length d2,.slice fU m.procs.length d3,.slice gF m.props.length d4] m /\
  o.jr w [.slice cy (o.layout m).vars.length bP,.slice b9 (o.layout m).aL.length c1,.slice ck (o.layout m).insts.length c2,.int .i64 (o.layout m).cells,.slice cn (o.layout m).bf.length bQ,.slice cB (o.layout m).ad.length bX] (o.layout m) /\
  bE 1 (Flat ey) w (.slice cy (o.layout m).vars.length bP) (o.layout m).vars/\bE 1 (Flat ey) w (.slice b9 (o.layout m).aL.length c1) (o.layout m).aL/\bE 1 (Flat ey) w (.slice ck (o.layout m).insts.length c2) (o.layout m).insts /\
  bE 1 (Flat ey) w (.slice cn (o.layout m).bf.length bQ) (o.layout m).bf/\bE 1 (Flat ey) w (.slice cB (o.layout m).ad.length bX) (o.layout m).ad /\
  o.hI w (.slice gv m.scalars.length d0) m.scalars/\o.hi w (.slice eD m.vars.length d1) m.vars/\o.mK w (.slice fC m.aL.length d2) m.aL/\o.pJ w (.slice fU m.procs.length d3) m.procs /\
  lV w (.slice cS (o.insts m).length ci) (o.insts m)/\B3 w (.slice h5 (o.refs m).length kh) (o.refs m):=by
 obtain⟨ms,ys,cx,j7,rfl,br,dg,bB,dE⟩:=h.ex;have C4:=br;have adS:=dg;obtain⟨cy,bP,b9,c1,ck,c2,cn,bQ,cB,bX,rfl,gz,fi,fR,ix,k7⟩:=dg.form;obtain⟨gv,d0,eD,d1,fC,d2,fU,d3,gF,d4,rfl,ak,h1,U,ag,aJ,_⟩:=br.form;obtain⟨cS,ci,rfl,_⟩:=bB.form;obtain⟨h5,kh,rfl,_⟩:=dE.form;exact⟨gv,d0,eD,d1,fC,d2,fU,d3,gF,d4,cy,bP,b9,c1,ck,c2,cn,bQ,cB,bX,cS,ci,h5,kh,rfl,C4,adS,gz,fi,fR,ix,k7,ak,h1,U,ag,bB,dE⟩
theorem aju(cs ys:List Value)(m:o.Model)(w:World)(h:o.dY w cs m)(a1:m.cQ)(br:o.eN m)(dg:o.jr w ys (o.layout m)) :
  bu Tryz.prog F.EP #[.agg cs.toArray,.agg ys.toArray] w fun u w'=>(∃cx j7,u = .agg (cs++ys++[cx,j7]).toArray/\bs o.c7.enc T.k 2 w.heap.size w' cx (o.insts m)/\bs o.Ref.enc T.l 2 w.heap.size w' j7 (o.refs m))/\Ext w w':=by
 have eh:=h;have qK:=dg;obtain⟨cy,bP,b9,c1,ck,c2,cn,bQ,cB,bX,rfl,_⟩:=h.form;obtain⟨lb,d0,j8,d1,j9,d2,n0,d3,nw,d4,rfl,_⟩:=dg.form;refine bL E.EP ?_;refine bG ?_;refine af ?_;intro av cp dR aB aQ;refine af ?_;intro aU b4 fp aA bA;replace aQ:=aA.obj aQ;refine af ?_;intro bb cN fN ax bw;have z4:=cG bw;replace aQ:=ax.obj aQ;replace bA:=ax.obj bA;have bJ:=(aB.trans aA).trans ax;have gl:=aB.size;have z2:=aA.size;refine af ?_;intro bq aM;have bZ:=bJ.trans aM;replace aQ:=aM.obj aQ;replace bA:=aM.obj bA;replace bw:=aM.obj bw;refine af ?_;refine K.call (Fc _ m bq (eh.ext bZ) a1) ?_;rintro cx bT ⟨fB,aZ⟩;obtain⟨cS,ci,rfl,_⟩:=fB.form;have b5:=bZ.trans aZ;refine⟨aZ,?_⟩;refine af ?_;refine K.call (XF _ m bT (eh.ext b5) a1 br.lim) ?_;rintro j7 bV ⟨jE,a8⟩;obtain⟨h5,kh,rfl,_⟩:=jE.form;have cM:=b5.trans a8;refine⟨aZ.trans a8,?_⟩;replace bw:=(aZ.trans a8).obj bw;refine af ?_;intro cc dx cU;have dz:Ext w cc:=dx.ext cM (by omega);have akq:=ax.size;have oK:=aM.size;have nV:=aZ.size;refine af ?_;exact⟨⟨_,_,rfl,bs.low bZ.size (bs.wr dx (by omega) (fB.ext a8)),bs.low b5.size (bs.wr dx (by omega) jE)⟩,dz⟩
end Go.Proofs.R
end
section
namespace o
open Go
theorem aap{m:Model}{c:Nat}(h:c<eB m):∃bF:c<(cb m).length,Cd m c=((cb m)[c].bf,(cb m)[c].ad):=by
 have bF:c<(cb m).length:=h;exact⟨bF,by unfold Cd;rw[List.getElem?_eq_getElem bF]⟩
end o
namespace Go.Proofs.R
open Go Go.RowKit bt
def OB:List Value:=[.slice none 0 0,.slice none 0 0,.slice none 0 0,.slice none 0 0,.slice none 0 0,.slice none 0 0,.slice none 0 0,.slice none 0 0,.int .i64 0,.slice none 0 0,.slice none 0 0,.slice none 0 0,.slice none 0 0]
theorem Xt(cs:List Value)(m:o.Model)(w:World)(h:o.dY w cs m)(a1:m.cQ) :
  bu Tryz.prog F.AZ #[.agg cs.toArray] w fun u w'=>((¬(o.check m).c3=0/\u = .tuple #[.agg OB.toArray,.bool false])\/((o.check m).c3=0/\∃zs,u = .tuple #[.agg zs.toArray,.bool true]/\oX w' zs m))/\Ext w w':=by
 have eh:=h;obtain⟨cy,bP,b9,c1,ck,c2,cn,bQ,cB,bX,rfl,_⟩:=h.form;refine bL E.AZ ?_;refine bG ?_;refine af ?_;intro av bC cR aB aq;refine af ?_;intro aU cp dR aA aQ;have z2:=cG aQ;have ams:=aB.size;replace aq:=aA.obj aq;have aW:=aB.trans aA;refine af ?_;refine K.call (NO _ m aU (eh.ext aW) a1) ?_;rintro _ bb ⟨rfl,ax⟩;replace aq:=ax.obj aq;replace aQ:=ax.obj aQ;have bJ:=aW.trans ax;unfold wa;refine af ?_;refine K.jg (v:=.int .i64 (o.check m).c3) rfl ?_;refine af ?_;refine K.cond (fun hk=>?_) (fun hk=>?_);rotate_left
 .refine af ?_;intro bq eu bw;refine af ?_;exact⟨.inl ⟨hk,bk⟩,eu.ext bJ (by omega)⟩
 have br:=o.mF hk;refine af ?_;intro bq aM;replace aq:=aM.obj aq;replace aQ:=aM.obj aQ;have bZ:=bJ.trans aM;refine af ?_;refine K.call (XE _ m bq (eh.ext bZ) a1 br) ?_;rintro _ bT ⟨⟨ys,rfl,G7⟩,aZ⟩;have dg:=G7.here;have b5:=bZ.trans aZ;refine⟨aZ,?_⟩;refine af ?_;refine K.call (aju _ ys m bT (eh.ext b5) a1 br dg) ?_;rintro _ bV ⟨⟨cx,j7,rfl,fB,jE⟩,a8⟩;have cM:=b5.trans a8;replace aQ:=(aZ.trans a8).obj aQ;obtain⟨lb,d0,j8,d1,j9,d2,n0,d3,nw,d4,rfl,_⟩:=dg.form;obtain⟨cS,ci,rfl,_⟩:=fB.form;obtain⟨h5,kh,rfl,_⟩:=jE.form;have oK:=aM.size;have akq:=ax.size;have nV:=aZ.size;have aqc:=cG aQ;refine af ?_;intro cc dx cU;have dz:Ext w cc:=dx.ext cM (by omega);have adU:=((G7.ext a8 nV).wr dx (by omega)).here;refine af ?_;exact⟨.inr ⟨hk,_,rfl,_,_,_,_,rfl,eh.ext dz,adU,bs.jI (enc:=o.c7.enc) (fun _=>rfl) (bs.wr dx (by omega) fB),bs.jI (enc:=o.Ref.enc) (fun _=>rfl) (bs.wr dx (by omega) jE)⟩,dz⟩
theorem ND(cs:List Value)(m:o.Model)(ref:Int)(q p k:Nat)(w:World)(h:oX w cs m)(ca:o.fD m ref q p k) :
  bu Tryz.prog F.yJ #[.agg cs.toArray,.int .i64 ref] w fun u w'=>(∃fK ed,u = .agg ((o.cD m p k).enc fK ed).toArray/\o.gd w fK (o.cD m p k).guard/\o.nz w ed (o.cD m p k).b6)/\Ext w w':=by
 obtain⟨gv,d0,eD,d1,fC,d2,fU,d3,gF,d4,cy,bP,b9,c1,ck,c2,cn,bQ,cB,bX,cS,ci,h5,kh,rfl,_,_,_,_,_,_,_,_,_,_,ag,bB,dE⟩:=h.form;have aD:=ca.at_.ad;have aN:=ca.at_.aN;have uz:=ca.at_.hk;have rU:=ca.at_.ip;obtain⟨r,rfl⟩:=Int.eq_ofNat_of_zero_le ca.bf;have a6:r<(o.refs m).length:=ca.ad;have kE:(o.refs m)[r].inst=(q:Int):=ca.at_.wY;have s6:(o.refs m)[r].cmd=(k:Int):=ca.at_.yT;obtain⟨rH,rfl⟩:=dE.addr (by omega);obtain⟨lp,rfl⟩:=bB.addr (by omega);obtain⟨a3,rfl⟩:=ag.addr (by omega);obtain⟨nS,cE,dU,dZ,eT,gS⟩:=ag.at p aN;obtain⟨M9,J2,rfl,MS⟩:=gS.form;obtain⟨ac,rfl⟩:=gS.addr (by omega);obtain⟨fX,fK,ed,gx,lE,jk⟩:=gS.at k uz;obtain⟨iL,je,rfl,_⟩:=lE.form;obtain⟨yP,xK,rfl,_⟩:=jk.form;unfold o.dy.enc at dZ;unfold o.dI.enc at gx;refine bL E.yJ ?_;refine bG ?_;refine af ?_;intro av cp dR aB aQ;refine af ?_;intro aU cN fN aA bw;have z4:=cG bw;have ams:=aB.size;replace aQ:=aA.obj aQ;have aW:=aB.trans aA;have KX:=dE.ext Flat.ext aW;refine af ?_;intro bb dO kX ax cC;have CL:(o.refs m)[r].enc=[.int .i64 q,.int .i64 k]:=by unfold o.Ref.enc;rw[kE,s6]
 rw[CL] at cC;replace aQ:=ax.obj aQ;replace bw:=ax.obj bw;have bJ:=aW.trans ax;have TE:=bB.ext Flat.ext bJ;have Vb:=dZ.ext bJ;have Hp:=gx.ext bJ;clear KX;refine af ?_;intro bq aM;replace aQ:=aM.obj aQ;replace bw:=aM.obj bw;replace cC:=aM.obj cC;replace TE:=TE.ext Flat.ext aM;replace Vb:=Vb.ext aM;replace Hp:=Hp.ext aM;refine af ?_;refine K.dD p (by rw[rU]) aN ?_;refine af ?_;intro bT e0 Ae;refine af ?_;have rS:=o.zP aN uz;exact⟨⟨.slice iL (o.cD m p k).guard.length je,.slice yP (o.cD m p k).b6.length xK,by rw[rS];rfl,by rw[rS];exact lE,by rw[rS];exact jk⟩,e0.ext (bJ.trans aM) (by omega)⟩
theorem NI(cs:List Value)(v:Value)(m:o.Model)(s:List Int)(c:Nat)(w:World)(h:oX w cs m)(br:o.eN m)(ay:eO w v s)(aS:s.length=o.eB m)(aw:c<m.aL.length) :
  bu Tryz.prog F.yK #[.agg cs.toArray,v,.int .i64 c] w fun u w'=>eO w' u (o.chanOf m s c)/\Ext w w':=by
 obtain⟨gv,d0,eD,d1,fC,d2,fU,d3,gF,d4,cy,bP,b9,c1,ck,c2,cn,bQ,cB,bX,cS,ci,h5,kh,rfl,_,_,gz,fi,fR,ix,k7,ak,h1,U,ag,bB,dE⟩:=h.form;obtain⟨e3,fy,rfl,gi⟩:=ay.form;obtain⟨l4,fg⟩:=o.vL aw;have ij:=(br.chan _ (List.getElem_mem aw)).cap;have Aw:=o.pS aw;have fX:=o.o2 aw;have qI:o.eB m<=64:=o.nm br;obtain⟨dJ,rfl⟩:=fi.addr (by omega);obtain⟨xz,rfl⟩:=U.addr (by omega);have ei:=(U.at c aw).cells;refine bL E.yK ?_;refine bG ?_;refine af ?_;intro av b4 fp aB bA;have NC:=fi.ext Flat.ext aB;replace ei:=ei.ext aB;have gg:=ay.ext Flat.ext aB;refine af ?_;refine K.II (k:=.i64) (k':=.i64) (o.df m c) (o.df m c+(1+o.jw m c)) gg (by simp[fu,cu,fg]) (by simp[fu,cu,fg];omega) (by omega) (by omega) fun al mW aN=>?_;refine af ?_;refine⟨?_,aB⟩;rw[show o.df m c+(1+o.jw m c) - o.df m c=1+o.jw m c from by omega] at aN ⊢;exact aN
theorem ID(cs:List Value)(v:Value)(m:o.Model)(s:List Int)(c:Nat)(x n:Int)(w:World)(h:oX w cs m)(br:o.eN m)(ay:eO w v s)(aS:s.length=o.eB m)(ar:x=c)(aw:c<o.eB m) :
  bu Tryz.prog F.wN #[.agg cs.toArray,v,.int .i64 x,.int .i64 n] w fun u w'=>((o.putAt m s c n=none/\u = .tuple #[.slice none 0 0,.bool false])\/(∃t nY,o.putAt m s c n=some t/\u = .tuple #[nY,.bool true]/\oS w.heap.size w' nY t))/\Ext w w':=by
 subst ar;obtain⟨gv,d0,eD,d1,fC,d2,fU,d3,gF,d4,cy,bP,b9,c1,ck,c2,cn,bQ,cB,bX,cS,ci,h5,kh,rfl,_,_,gz,fi,fR,ix,k7,ak,h1,U,ag,bB,dE⟩:=h.form;obtain⟨e3,fy,rfl,gi⟩:=ay.form;obtain⟨eZ,sS⟩:=o.aap aw;have f2:=o.Wr m;have f3:=o.Wp m;have As:(o.cb m).length=o.eB m:=rfl;have ea:(o.layout m).bf[c]'(by omega)=(o.cb m)[c].bf:=o.Wq _ eZ;have ew:(o.layout m).ad[c]'(by omega)=(o.cb m)[c].ad:=o.Wo _ eZ;have qI:o.eB m<=64:=o.nm br;obtain⟨a3,rfl⟩:=ix.addr (by omega);obtain⟨a4,rfl⟩:=k7.addr (by omega);refine bL E.wN ?_;refine bG ?_;refine af ?_;intro av cN fN aB bw;have E8:=ix.ext Flat.ext aB;have apu:=k7.ext Flat.ext aB;refine af ?_;apply K.cond<;>intro g1
 .refine af ?_;exact⟨.inl ⟨by unfold o.putAt;rw[sS,if_pos (.inl (by simp only;omega))],bk⟩,aB⟩
 refine af ?_;apply K.cond<;>intro g2
 .refine af ?_;exact⟨.inl ⟨by unfold o.putAt;rw[sS,if_pos (.inr (by simp only;omega))],bk⟩,aB⟩
 refine af ?_;refine K.call (Xz _ s c n _ (ay.ext Flat.ext aB) rfl (by omega) (by omega)) ?_;rintro u aU ⟨fO,aA⟩;refine af ?_;exact⟨.inr ⟨_,_,by unfold o.putAt;rw[sS,if_neg (by simp only;omega)],rfl,bs.low aB.size fO⟩,aB.trans aA⟩
theorem NR(cs:List Value)(v mc:Value)(m:o.Model)(s l:List Int)(c:Nat)(w:World)(h:oX w cs m)(br:o.eN m)(ay:eO w v s)(aE:eO w mc l)(aS:s.length=o.eB m)(aw:c<m.aL.length)(qS:l.length=1+o.jw m c) :
  bu Tryz.prog F.yL #[.agg cs.toArray,v,.int .i64 c,mc] w fun u w'=>oS w.heap.size w' u (o.lK s (o.df m c) l)/\Ext w w':=by
 obtain⟨gv,d0,eD,d1,fC,d2,fU,d3,gF,d4,cy,bP,b9,c1,ck,c2,cn,bQ,cB,bX,cS,ci,h5,kh,rfl,_,_,gz,fi,fR,ix,k7,ak,h1,U,ag,bB,dE⟩:=h.form;obtain⟨e3,fy,rfl,gi⟩:=ay.form;obtain⟨on,xM,rfl,aoZ⟩:=aE.form;obtain⟨l4,fg⟩:=o.vL aw;have Aw:=o.pS aw;have qI:o.eB m<=64:=o.nm br;obtain⟨dJ,rfl⟩:=fi.addr (by omega);refine bL E.yL ?_;refine bG ?_;refine af ?_;intro av cN fN aB bw;have NC:=fi.ext Flat.ext aB;have gg:=ay.ext Flat.ext aB;have pk:=aE.ext Flat.ext aB;refine af ?_;intro aU aA;have ez:=gg.ext Flat.ext aA;have ir:=pk.ext Flat.ext aA;have aW:=aB.trans aA;refine af ?_;refine K.akU (k:=.i64) (o.df m c) ez (by simp[fu,cu,fg]) (by omega) fun ao4 amW eJ=>?_;refine af ?_;refine K.Yi (k:=.i64) (o.df m c+l.length) ez (by simp[fu,cu,fg]) (by omega) fun ao5 hj ji=>?_;refine af ?_;intro bb b4 fp ax bA;have fP:oS aU.heap.size bb (.slice (some ⟨b4,0,none⟩) 0 0) []:=bs.empty fp bA;have tl:(s.take (o.df m c)).length<=64:=by rw[List.length_take];omega
 have dl:(s.drop (o.df m c+l.length)).length<=64:=by rw[List.length_drop];omega
 refine af ?_;refine K.Gr fP (eJ.ext Flat.ext ax) (fun _=>rfl) mm (by simp only[List.length_nil];omega) (by simp only[List.length_nil];unfold maxLen;omega) ax.size fun v4 bq fr pf=>?_;have en:Ext aU bq:=ax.grown pf fun i ad=>(fP.lt i ad).1;rw[List.nil_append] at fr;obtain⟨hd,Ou,rfl,_⟩:=fr.form;refine af ?_;refine K.Gr fr (ir.ext Flat.ext en) (fun _=>rfl) mm (by omega) (by unfold maxLen;omega) en.size fun v5 bT eC kC=>?_;have hS:Ext aU bT:=en.grown kC fun i ad=>(fr.lt i ad).1;obtain⟨qh,apy,rfl,_⟩:=eC.form;refine af ?_;refine K.Gr eC (ji.ext Flat.ext hS) (fun _=>rfl) mm (by rw[List.length_append];omega) (by rw[List.length_append];unfold maxLen;omega) hS.size fun v6 bV dL jZ=>?_;have lg:Ext aU bV:=hS.grown jZ fun i ad=>(eC.lt i ad).1;obtain⟨si,apz,rfl,_⟩:=dL.form;refine af ?_;exact⟨bs.low aW.size dL,aW.trans lg⟩
end Go.Proofs.R
end
section
namespace o
open Go
theorem R5{m:Model}{i:Nat}(h:i<m.aL.length):df m (i+1)=df m i+(1+jw m i):=by rw[aaN h,o2 h]
theorem JV{m:Model}:∀(d i:Nat),i+d<=m.aL.length->df m i<=df m (i+d)
 | 0,_,_=>Nat.le_refl _
 | d+1,i,h=>by
  have:=JV (m:=m) d i (by omega)
  have:=R5 (m:=m) (i:=i+d) (by omega)
  rw[<-Nat.add_assoc];omega
theorem R4{m:Model}{i j:Nat}(Am:i<j)(aR:j<m.aL.length):df m i+(1+jw m i)<=df m j:=by
 have h1:=R5 (m:=m) (i:=i) (by omega);have U:=JV (m:=m) (j - (i+1)) (i+1) (by omega);rw[show i+1+(j - (i+1))=j from by omega] at U;omega
theorem aaM(m:Model)(i:Nat)(h:i<=m.aL.length):total (cV m)<=df m i:=by
 have:=JV (m:=m) i 0 (by omega)
 rw[Nat.zero_add,aaO] at this;exact this
theorem aht{m:Model}{i j:Nat}(ad:i<m.aL.length)(aR:j<(mj m.scalars m.aL[i]).length):∃h:df m i+j<(cb m).length,(cb m)[df m i+j].bf=(mj m.scalars m.aL[i])[j].bf/\(cb m)[df m i+j].ad=(mj m.scalars m.aL[i])[j].ad:=by
 have hw:i<(dw m).length:=by simpa[dw] using ad
 have e:(dw m)[i]=mj m.scalars m.aL[i]:=by simp[dw]
 have hk:j<(dw m)[i].length:=by rw[e];exact aR
 have h1:=J3 2 (dw m) 0 i j hw hk;have pe:=xJ ad;rw[tO] at aR;have U:=ahs (m:=m) (c:=df m i+j) (by unfold df;omega) (by omega);rw[show df m i+j - total (cV m)=total ((dw m).take i)+j from by unfold df;omega,h1] at U;obtain⟨ag,aJ⟩:=List.getElem?_eq_some_iff.1 U;refine⟨ag,?_,?_⟩
 .rw[aJ];simp only[e]
 .rw[aJ];simp only[e]
theorem Tk{m:Model}{s:List Int}{c:Nat}{n:Int}(aK:Fits m s)(a6:c<total (cV m)\/total (cV m)+total (dw m)<=c)(aC:∀h:c<(cb m).length,(cb m)[c].bf<=n/\n<=(cb m)[c].ad):Fits m (s.set c n):=by
 refine⟨by rw[List.length_set];exact aK.len,fun i ad=>?_,fun j aR eL=>?_⟩
 .have h1:=xJ ad;have U:=aaM m i (by omega)
  have:o4 m i m.aL[i] (s.set c n)=o4 m i m.aL[i] s:=IJ fun k hk=>List.getElem?_set_ne (by omega)
  rw[this];exact aK.queue i ad
 .rw[List.getElem_set];split
  .rename_i e;subst e;exact aC eL
  .exact aK.cell j (by rw[List.length_set] at aR;exact aR) eL
theorem ajp{s:List Scalar}{c:dr}{l:List Int}(ij:1<=c.cap)(h:mQ s c l){j:Nat}(aR:j<(mj s c).length):∃x,l[j]? = some x/\(mj s c)[j].bf<=x/\x<=(mj s c)[j].ad:=by
 obtain⟨n,ak,h1,U,ag⟩:=h;cases j with
 | zero=>exact⟨n,ak,h1,U⟩
 | succ k =>
  rw[tO] at aR;obtain⟨x,ar,bj,aC⟩:=ag k (by omega);refine⟨x,ar,?_⟩;have e:(mj s c)[k+1]'(by rw[tO];omega)=kf s c:=by simp[mj]
  rw[e];unfold kf;unfold fb at bj ⊢;by_cases aE:(k:Int)<n
  .have:=bj aE
   split at this<;>rename_i ay
   .rw[if_pos ay];simp only at this ⊢;omega
   .rw[if_neg ay];exact this
  .have:=aC (by omega)
   subst this;split
   .simp only;omega
   .simp only
    have:=size_le c.scalar s
    omega
theorem Tj{m:Model}{s l:List Int}{i:Nat}(aK:Fits m s)(ad:i<m.aL.length)(ij:1<=m.aL[i].cap)(aS:l.length=1+jw m i)(aD:mQ m.scalars m.aL[i] l):Fits m (lK s (df m i) l):=by
 have Aw:=pS ad;have pe:df m i+l.length<=s.length:=by rw[aK.len];omega
 have fX:=o2 ad;refine⟨by rw[wF pe];exact aK.len,fun j aR=>?_,fun x ar ta=>?_⟩
 .by_cases e:j=i
  .subst e
   have:o4 m j m.aL[j] (lK s (df m j) l)=l:=by
    apply List.ext_getElem?;intro k;unfold o4;rw[List.getElem?_take,List.getElem?_drop];split
    .rw[AB pe,if_pos ⟨by omega,by omega⟩,show df m j+k - df m j=k from by omega]
    .rw[List.getElem?_eq_none (by omega)]
   rw[this];exact aD
  .have rV:=o2 aR
   have:o4 m j m.aL[j] (lK s (df m i) l)=o4 m j m.aL[j] s:=IJ fun k hk=>by
    rw[AB pe,if_neg];rcases Nat.lt_or_gt_of_ne e with h | h
    .have:=R4 h ad;omega
    .have:=R4 h aR;omega
   rw[this];exact aK.queue j aR
 .have gT:x<s.length:=by rw[wF pe] at ar;exact ar
  have a1:=AB pe x;rw[List.getElem?_eq_getElem ar] at a1;by_cases eU:df m i<=x/\x<df m i+l.length
  .rw[if_pos eU] at a1;have UL:x - df m i<(mj m.scalars m.aL[i]).length:=by rw[tO];omega
   obtain⟨y,b2,bC,cp⟩:=ajp ij aD UL;obtain⟨ag,aJ,bg⟩:=aht ad UL;rw[b2] at a1;have e:x=df m i+(x - df m i):=by omega
   have ph:(cb m)[x]=(cb m)[df m i+(x - df m i)]:=by congr 1
   injection a1 with a1
   rw[a1,ph,aJ,bg];exact⟨bC,cp⟩
  .rw[if_neg eU,List.getElem?_eq_getElem gT] at a1;injection a1 with a1
   rw[a1];exact aK.cell x gT ta
theorem aiW{n:Nat}{l:List Int}{k:Nat}(hk:k+1<n):(u5 n l)[k+1]? = some (l.getD k 0):=by
 unfold u5;rw[List.getElem?_cons_succ,List.getElem?_map,List.getElem?_range (by omega)];rfl
theorem W6{s:List Scalar}{c:dr}{l:List Int}(ij:1<=c.cap)(aS:(l.length:Int)<=c.cap)(aC:∀x∈l,(fb c.scalar c.bf c.ad s).bf<=x/\x<=(fb c.scalar c.bf c.ad s).ad):mQ s c (u5 (1+c.cap.toNat) l):=by
 refine⟨l.length,rfl,by omega,aS,fun k hk=>⟨l.getD k 0,aiW (by omega),fun km=>?_,fun km=>?_⟩⟩
 .have qR:k<l.length:=by omega
  have e:l.getD k 0=l[k]:=by simp[qR]
  rw[e];exact aC _ (List.getElem_mem qR)
 .simp[List.getD,List.getElem?_eq_none (show l.length<=k by omega)]
theorem Xl{s:List Scalar}{c:dr}{l:List Int}(aS:l.length=1+c.cap.toNat)(ij:1<=c.cap)(h:mQ s c l):l8 l=true/\((lL l).length:Int)<=c.cap/\l.headD 0=(lL l).length/\∀x∈lL l,(fb c.scalar c.bf c.ad s).bf<=x/\x<=(fb c.scalar c.bf c.ad s).ad:=by
 obtain⟨n,ak,h1,U,ag⟩:=h;obtain⟨a,r,rfl⟩:∃a r,l=a :: r:=by
  cases l with
  | nil=>simp at aS;omega
  | cons a r=>exact⟨a,r,rfl⟩
 simp only[List.getElem?_cons_zero,Option.some.injEq] at ak;subst ak;simp only[List.length_cons] at aS;have aD:l8 (a :: r)=true:=by
  simp only[l8,Bool.and_eq_true,decide_eq_true_eq,List.all_eq_true];refine⟨⟨h1,by omega⟩,fun x ar=>?_⟩;obtain⟨k,hk,rfl⟩:=List.mem_iff_getElem.1 ar;rw[List.length_drop] at hk;rw[List.getElem_drop];obtain⟨x,ar,_,bN⟩:=ag (a.toNat+k) (by omega);rw[List.getElem?_cons_succ,List.getElem?_eq_getElem (by omega)] at ar;injection ar with ar
  rw[ar];exact bN (by omega)
 have ad:lL (a :: r)=r.take a.toNat:=by
  unfold lL;rw[if_pos aD];rfl
 rw[ad];refine⟨aD,by rw[List.length_take];omega,by rw[List.length_take];simp;omega,fun x ar=>?_⟩;obtain⟨k,hk,rfl⟩:=List.mem_iff_getElem.1 ar;rw[List.length_take] at hk;rw[List.getElem_take];obtain⟨x,ar,aC,_⟩:=ag k (by omega);rw[List.getElem?_cons_succ,List.getElem?_eq_getElem (by omega)] at ar;injection ar with ar
 rw[ar];exact aC (by omega)
theorem ajg{s:List Scalar}{c:dr}{l r:List Int}{v:Int}(aS:l.length=1+c.cap.toNat)(ij:1<=c.cap)(h:mQ s c l)(aT:(fb c.scalar c.bf c.ad s).bf<=v/\v<=(fb c.scalar c.bf c.ad s).ad)(aN:px l v=some r):mQ s c r:=by
 obtain⟨h1,U,ag,aJ⟩:=Xl aS ij h;unfold px at aN;split at aN
 .rename_i dt;injection aN with aN
  subst aN;rw[aS];refine W6 ij ?_ fun x ar=>?_
  .have:=dt.2
   rw[ag,aS] at this;rw[List.length_append,List.length_singleton];omega
  .rcases List.mem_append.1 ar with ar | ar
   .exact aJ x ar
   .rw[List.mem_singleton] at ar;subst ar;exact aT
 .cases aN
theorem aly{s:List Scalar}{c:dr}{l r:List Int}{v:Int}(aS:l.length=1+c.cap.toNat)(ij:1<=c.cap)(h:mQ s c l)(aN:rj l=some (r,v)):mQ s c r:=by
 obtain⟨h1,U,ag,aJ⟩:=Xl aS ij h;unfold rj at aN;split at aN
 .cases aN
 .rename_i x q aD;injection aN with aN
  injection aN with bR aW
  subst bR;rw[aS];rw[aD] at U aJ;exact W6 ij (by simp only[List.length_cons] at U;omega) fun y b2=>aJ y (List.mem_cons_of_mem _ b2)
theorem Iy{m:Model}{s t:List Int}{c:Nat}{n:Int}(aK:Fits m s)(a6:c<total (cV m)\/total (cV m)+total (dw m)<=c)(h:putAt m s c n=some t):Fits m t:=by
 have e:=E5 h;subst e;refine Tk aK a6 fun aw=>?_;unfold putAt Cd at h;rw[List.getElem?_eq_getElem aw] at h;simp only at h;split at h
 .cases h
 .omega
theorem MY{m:Model}{q:Nat}(j:Nat):total (cV m)+total (dw m)<=dS m q+j:=by unfold dS;omega
theorem RC{m:Model}(br:eN m){s t:List Int}{q p:Nat}{a:Act}(aD:fW m q p)(bj:oN (inner (m.procs[p]'(aD.aN)) (eR m)) a)(aK:Fits m s)(h:jP m s q a=some t):Fits m t:=by
 have yj:=bj.kind;unfold jP at h;by_cases bg:a.kind=5
 .rw[if_pos bg] at h;have aw:a.to.toNat<m.aL.length:=(bj.chan (.inr bg)).2;have ij:=(br.chan _ (List.getElem_mem aw)).cap.1;have eZ:(chanOf m s a.to.toNat).length=1+m.aL[a.to.toNat].cap.toNat:=by rw[tQ (by rw[aK.len];exact pS aw),o2 aw]
  unfold yS at h;cases aN:rj (chanOf m s a.to.toNat) with
  | none=>rw[aN] at h;cases h
  | some Ff =>
   obtain⟨r,n⟩:=Ff;rw[aN] at h;have DS:=aK.queue _ aw;have e:chanOf m s a.to.toNat=o4 m a.to.toNat m.aL[a.to.toNat] s:=by unfold chanOf o4;rw[o2 aw]
   rw[<-e] at DS;have uA:=IV aN;have h1:=Tj aK aw ij (by rw[uA,eZ,o2 aw]) (aly eZ ij DS aN);exact Iy h1 (.inr (by rw[Nat.add_assoc];exact MY _)) h
 rw[if_neg bg] at h;by_cases he:(eval a.value (c8 m s q)).2≠0
 .rw[if_pos he] at h;cases h
 rw[if_neg he] at h;by_cases h1:a.kind=1
 .rw[if_pos h1] at h;obtain⟨_,v,aT,iI⟩:=bj.set h1;obtain⟨jD,fA⟩:=List.getElem?_eq_some_iff.1 aT;have Mo:a.to.toNat<m.vars.length:=jD;have pe:=tz Mo
  have:cells m.vars[a.to.toNat] m.scalars=1:=by
   have Mp:m.vars[a.to.toNat]=v:=fA;rw[Mp];unfold cells;rw[if_pos iI]
  exact Iy aK (.inl (by rw[this] at pe;omega)) h
 rw[if_neg h1] at h;by_cases U:a.kind=2
 .rw[if_pos U] at h;have jD:a.to.toNat<m.vars.length:=(bj.item U).2.1;have pe:=tz jD;have uA:=r4 jD;unfold yu at h;split at h
  .cases h
  .rename_i aE;exact Iy aK (.inl (by omega)) h
 rw[if_neg U] at h;by_cases ag:a.kind=3
 .rw[if_pos ag] at h;exact Iy aK (.inr (by rw[Nat.add_assoc];exact MY _)) h
 rw[if_neg ag] at h;have aJ:a.kind=4:=by omega
 have aw:a.to.toNat<m.aL.length:=(bj.chan (.inl aJ)).2;have ij:=(br.chan _ (List.getElem_mem aw)).cap.1;have eZ:(chanOf m s a.to.toNat).length=1+m.aL[a.to.toNat].cap.toNat:=by rw[tQ (by rw[aK.len];exact pS aw),o2 aw]
 have sS:vP m a.to.toNat=fb m.aL[a.to.toNat].scalar m.aL[a.to.toNat].bf m.aL[a.to.toNat].ad m.scalars:=by unfold vP;rw[List.getElem?_eq_getElem aw]
 unfold w3 at h;rw[sS] at h;split at h
 .cases h
 .rename_i aE;cases aN:px (chanOf m s a.to.toNat) (eval a.value (c8 m s q)).1 with
  | none=>rw[aN] at h;cases h
  | some r =>
   rw[aN] at h;have e:lK s (df m a.to.toNat) r=t:=by injection h
   rw[<-e];have DS:=aK.queue _ aw;have aW:chanOf m s a.to.toNat=o4 m a.to.toNat m.aL[a.to.toNat] s:=by unfold chanOf o4;rw[o2 aw]
   rw[<-aW] at DS;have uA:=IA aN;exact Tj aK aw ij (by rw[uA,eZ,o2 aw]) (ajg eZ ij DS (by omega) aN)
theorem RL{m:Model}(br:eN m){q p:Nat}(aD:fW m q p):∀(l:List Act) (s t:List Int),(∀a∈l,oN (inner (m.procs[p]'(aD.aN)) (eR m)) a)->Fits m s->iB m q l s=some t->Fits m t
 | [],s,t,_,aK,h=>by injection h with h;rw[<-h];exact aK
 | a :: l,s,t,bj,aK,h=>by
  simp only[iB] at h;cases h1:jP m s q a with
  | none=>rw[h1] at h;cases h
  | some u =>
   rw[h1] at h;exact RL br aD l u t (fun b aC=>bj b (List.mem_cons_of_mem _ aC)) (RC br aD (bj a (List.mem_cons_self ..)) aK h1) h
end o
end
section
end
section
namespace o
open Go Go.RowKit bt
structure Env.ok(v:Env):Prop where
 vars:∀l∈v.vars,∀z∈l,eG z
 lens:∀z∈v.lens,eG z
 locals:∀z∈v.locals,eG z
 at_:∀l∈v.at_,∀z∈l,eG z
 self:eG v.self
end o
end
section
namespace Go.Proofs.R
open Go Go.RowKit bt
theorem IC(v:Value)(l:List Int)(n:Int)(w:World)(aS:pF w v l):bu Tryz.prog F.wL #[v,.int .i64 n] w fun v w'=>v = .tuple #[.int .i64 (o.jo l n).1,.bool (decide ((o.jo l n).2=0))]/\Ext w w':=by
 obtain⟨bm,cap,rfl,hlen⟩:=aS.form;refine bL E.wL ?_;refine bG ?_;refine aP ?_;apply K.cond<;>intro g1
 .refine aP ?_;rw[o.jo,o.hN (.inl g1)];exact cA
 refine aP ?_;apply K.cond<;>intro g2
 .refine aP ?_;rw[o.jo,o.hN (.inr (by omega))];exact cA
 obtain⟨i,rfl⟩:=Int.eq_ofNat_of_zero_le (show 0<=n by omega);obtain⟨a,rfl⟩:=aS.addr (by omega);refine aP ?_;rw[o.jo,o.iY (by omega) (by omega)];simp only[Int.toNat_natCast];exact cA
theorem al4(l:List Int)(n:Int):(o.jo l n).2=0\/o.jo l n=(0,8):=by
 unfold o.jo;split
 .exact .inl rfl
 .exact .inr rfl
theorem y1(b:Bool)(w:World):bu Tryz.prog F.r6 #[.bool b] w fun v w'=>v = .int .i64 (o.bit b)/\w'=w:=by
 refine bL E.r6 ?_;refine bG ?_;refine aP ?_;refine K.dp (fun h=>?_) (fun h=>?_)
 all_goals
  subst h;refine aP ?_;exact⟨rfl,trivial⟩
theorem NZ(n:Int)(w:World):bu Tryz.prog F.yA #[.int .i64 n] w fun v w'=>v = .bool (o.within n)/\w'=w:=by
 refine bL E.yA ?_;refine bG ?_
 (repeat' (refine aP ?_;first | (refine K.cond (fun _=>?_) (fun _=>?_)<;>try (exfalso;omega)) | refine K.dp (fun _=>?_) (fun _=>?_)))<;>try refine aP ?_
 all_goals
  refine⟨?_,bk⟩;congr 1
  first | (rw[Bool.eq_iff_iff];simp[o.within];omega) | (simp[o.within];omega)
theorem On(a b n:Int)(w:World):bu Tryz.prog F.yz #[.int .i64 a,.int .i64 b,.int .i64 n] w
  fun v w'=>v = .tuple #[.int .i64 (if o.within a&&o.within b&&o.within n then n else 0),.bool (o.within a&&o.within b&&o.within n)]/\w'=w:=by
 refine bL E.yz ?_;refine bG ?_;refine aP ?_;refine K.call (NZ a w) ?_;rintro _ _ ⟨rfl,rfl⟩;refine aP ?_;cases h1:o.within a with
 | false =>
  refine aP ?_;exact⟨by simp,trivial⟩
 | true =>
  refine aP ?_;refine K.call (NZ b _) ?_;rintro _ _ ⟨rfl,rfl⟩;refine aP ?_;cases U:o.within b with
  | false =>
   refine aP ?_;exact⟨by simp,trivial⟩
  | true =>
   refine aP ?_;refine K.call (NZ n _) ?_;rintro _ _ ⟨rfl,rfl⟩;refine aP ?_;cases ag:o.within n with
   | false =>
    refine aP ?_;exact⟨by simp,trivial⟩
   | true =>
    refine aP ?_;exact⟨by simp,trivial⟩
theorem Oo(f:Int->Int->Int)(a b n:Int)(h:o.within a=true->o.within b=true->n=f a b) :
  (if (o.within a&&o.within b&&o.within n)=true then n else 0)=(o.tell f a b).1/\(o.within a&&o.within b&&o.within n)=(o.tell f a b).2:=by
 unfold o.tell;cases h1:o.within a with
 | false=>simp
 | true =>
  cases U:o.within b with
  | false=>simp
  | true =>
   rw[h h1 U];cases ag:o.within (f a b)<;>simp
theorem ajz:sr F.Ed (o.tell (· + ·)):=by
 intro a b w;refine bL E.Ed ?_;refine bG ?_;refine aP ?_;refine K.I9 ?_;refine aP ?_;refine K.call (On a b _ w) ?_;rintro _ _ ⟨rfl,rfl⟩;obtain⟨h1,U⟩:=Oo (· + ·) a b (IntKind.i64.wrap (a+b)) (fun h1 U=>by simp[o.within] at h1 U;exact IntWalk.i64_in _ (by omega));rw[h1,U];refine aP ?_;exact cA
theorem XX:sr F.AJ (o.tell (· - ·)):=by
 intro a b w;refine bL E.AJ ?_;refine bG ?_;refine aP ?_;refine K.I9 ?_;refine aP ?_;refine K.call (On a b _ w) ?_;rintro _ _ ⟨rfl,rfl⟩;obtain⟨h1,U⟩:=Oo (· - ·) a b (IntKind.i64.wrap (a - b)) (fun h1 U=>by simp[o.within] at h1 U;exact IntWalk.i64_in _ (by omega));rw[h1,U];refine aP ?_;exact cA
theorem aj3:sr F.Ee (o.tell (· * ·)):=by
 intro a b w;refine bL E.Ee ?_;refine bG ?_;refine aP ?_;refine K.I9 ?_;refine aP ?_;refine K.call (On a b _ w) ?_;rintro _ _ ⟨rfl,rfl⟩;obtain⟨h1,U⟩:=Oo (· * ·) a b (IntKind.i64.wrap (a*b)) (fun h1 U=>by simp[o.within] at h1 U;have:=WI h1 U;exact IntWalk.i64_in _ (by omega));rw[h1,U];refine aP ?_;exact cA
def qn(op a b:Int):Int×Int:=match o.gE op with | some al=>o.Oy al [a,b] | none=>(0,0)
theorem ajC(op a b:Int)(w:World)(k1:11<=op/\op<=19) :
  bu Tryz.prog F.Eh #[.int .i64 op,.int .i64 a,.int .i64 b] w fun v w'=>v = .tuple #[.int .i64 (qn op a b).1,.int .i64 (qn op a b).2]/\Ext w w':=by
 have num:∀f:Int->Int->Int×Bool,(if (f a b).2=true then ((f a b).1,(0:Int)) else (0,10))=(let r:=f a b;if r.2=true then (r.1,0) else (0,10)):=fun _=>rfl;have aw:op=11\/op=12\/op=13\/op=14\/op=15\/op=16\/op=17\/op=18\/op=19:=by omega
 refine bL E.Eh ?_;refine bG ?_;rcases aw with e | e | e | e | e | e | e | e | e
 .have key:qn op a b=if (o.tell (· + ·) a b).2=true then ((o.tell (· + ·) a b).1,0) else (0,10):=by subst e;rfl
  rw[key];refine aP ?_;refine K.call (ajz a b w) ?_;rintro _ av ⟨rfl,aB⟩;refine aP ?_;refine K.dp (fun h=>?_) (fun h=>?_)
  all_goals
   refine aP ?_;rw[h];exact cA
 .have key:qn op a b=if (o.tell (· - ·) a b).2=true then ((o.tell (· - ·) a b).1,0) else (0,10):=by subst e;rfl
  rw[key];refine aP ?_;refine K.call (XX a b w) ?_;rintro _ av ⟨rfl,aB⟩;refine aP ?_;refine K.dp (fun h=>?_) (fun h=>?_)
  all_goals
   refine aP ?_;rw[h];exact cA
 .have key:qn op a b=if (o.tell (· * ·) a b).2=true then ((o.tell (· * ·) a b).1,0) else (0,10):=by subst e;rfl
  rw[key];refine aP ?_;refine K.call (aj3 a b w) ?_;rintro _ av ⟨rfl,aB⟩;refine aP ?_;refine K.dp (fun h=>?_) (fun h=>?_)
  all_goals
   refine aP ?_;rw[h];exact cA
 .have key:qn op a b=(o.bit (decide (a=b)),0):=by subst e;rfl
  rw[key];refine aP ?_;refine K.call (y1 _ w) ?_;rintro _ _ ⟨rfl,rfl⟩;refine aP ?_;exact cA
 .have key:qn op a b=(o.bit (!decide (a=b)),0):=by subst e;rfl
  rw[key];refine aP ?_;refine K.call (y1 _ w) ?_;rintro _ _ ⟨rfl,rfl⟩;refine aP ?_;exact cA
 .have key:qn op a b=(o.bit (decide (a<b)),0):=by subst e;rfl
  rw[key];refine aP ?_;refine K.call (y1 _ w) ?_;rintro _ _ ⟨rfl,rfl⟩;refine aP ?_;exact cA
 .have key:qn op a b=(o.bit (decide (a<=b)),0):=by subst e;rfl
  rw[key];refine aP ?_;refine K.call (y1 _ w) ?_;rintro _ _ ⟨rfl,rfl⟩;refine aP ?_;exact cA
 .have key:qn op a b=(o.bit (!decide (a=0) && !decide (b=0)),0):=by subst e;rfl
  rw[key];refine aP ?_;refine K.cond (fun h1=>?_) (fun h1=>?_)
  all_goals
   refine aP ?_;refine K.call (y1 _ w) ?_;rintro _ _ ⟨rfl,rfl⟩;refine aP ?_;refine⟨?_,fL⟩;simp[h1]
 .have key:qn op a b=(o.bit (!decide (a=0) || !decide (b=0)),0):=by subst e;rfl
  rw[key];refine aP ?_;refine K.cond (fun h1=>?_) (fun h1=>?_)
  all_goals
   refine aP ?_;refine K.call (y1 _ w) ?_;rintro _ _ ⟨rfl,rfl⟩;refine aP ?_;refine⟨?_,fL⟩;simp[h1]
end Go.Proofs.R
end
section
namespace Go.Proofs.R
open Go Go.RowKit bt
theorem I4(l:List Int)(n:Int):(decide ((o.jo l n).2=0)=true->o.jo l n=((o.jo l n).1,0))/\(decide ((o.jo l n).2=0)=false->o.jo l n=(0,8)):=by
 rcases al4 l n with h | h
 .exact⟨fun _=>Prod.ext rfl h,fun bF=>by simp[h] at bF⟩
 .exact⟨fun bF=>by simp[h] at bF,fun _=>h⟩
theorem ako(x:o.Node)(cs:List Value)(v:o.Env)(w:World)(ar:x.ok)(h:o.tD w cs v)(ag:x.op≠3)(t:Int) :
  bu Tryz.prog F.Em #[.agg x.enc.toArray,.agg cs.toArray] w fun u w'=>u = .tuple #[.int .i64 (o.iN x v t).1,.int .i64 (o.iN x v t).2]/\Ext w w':=by
 obtain⟨a0,bP,dJ,c1,a2,c2,a3,bQ,rfl,qg,dH,dN,eb,hd,eM,ej,ev,ea⟩:=h.form;refine bL E.Em ?_;refine bG ?_;refine aP ?_;refine K.new fun av bC cR aB aq=>?_;refine aP ?_;refine K.new fun aU cp dR aA aQ=>?_;have he:=aB.trans aA;have cX:aU.heap[bC]? = some (.cells #[.int .i64 x.op,.int .i64 x.n] T.f):=aA.obj aq;clear aq;refine aP ?_;apply K.cond<;>intro g1
 .have hk:o.iN x v t=if o.within x.n then (x.n,0) else (0,10):=by rw[o.iN,if_pos g1]
  (repeat' (refine aP ?_;first | (refine K.cond (fun _=>?_) (fun _=>?_)<;>try (exfalso;omega)) | refine K.dp (fun _=>?_) (fun _=>?_)))<;>try refine aP ?_
  all_goals
   refine⟨?_,fL⟩;rw[hk];unfold o.within;split<;>first | rfl | (rename_i dt;simp at dt;exfalso;omega)
 refine aP ?_;apply K.cond<;>intro g2
 .by_cases KP:x.n<0\/(v.vars.length:Int)<=x.n
  .have hk:o.iN x v t=(0,8):=by rw[o.iN,if_neg g1,if_pos g2,o.hN KP]
   rw[hk]
   (repeat' (refine aP ?_;first | (refine K.cond (fun _=>?_) (fun _=>?_)<;>try (exfalso;omega)) | refine K.dp (fun _=>?_) (fun _=>?_)))<;>try refine aP ?_
   all_goals exact cA
  obtain⟨i,ad⟩:=Int.eq_ofNat_of_zero_le (show 0<=x.n by omega);have qP:i<v.vars.length:=by omega
  obtain⟨a,rfl⟩:=qg.addr (by omega);obtain⟨cx,l4,kE⟩:=qg.at i qP;have aE:o.nth v.vars x.n=some v.vars[i]:=by rw[ad,o.iY (by omega) (by omega)];simp only[Int.toNat_natCast]
  have hk:o.iN x v t=o.jo v.vars[i] 0:=by rw[o.iN,if_neg g1,if_pos g2,aE]
  rw[hk];rw[ad] at cX;refine aP ?_;refine K.ld (he.cell l4) ?_;refine aP ?_;refine K.call (IC _ v.vars[i] 0 aU (kE.ext he)) ?_;rintro _ bb ⟨rfl,ax⟩;obtain⟨kN,kv⟩:=I4 v.vars[i] 0;refine aP ?_;refine K.dp (fun g=>?_) (fun g=>?_)
  .refine aP ?_;rw[kN g];exact cA
  .refine aP ?_;rw[kv g];exact cA
 refine aP ?_;apply K.cond<;>intro g4
 .have hk:o.iN x v t=o.jo v.locals x.n:=by rw[o.iN,if_neg g1,if_neg g2,if_neg ag,if_pos g4]
  rw[hk];refine aP ?_;refine K.call (IC _ v.locals x.n aU (dN.ext he)) ?_;rintro _ bb ⟨rfl,ax⟩;obtain⟨kN,kv⟩:=I4 v.locals x.n;refine aP ?_;refine K.dp (fun g=>?_) (fun g=>?_)
  .refine aP ?_;rw[kN g];exact cA
  .refine aP ?_;rw[kv g];exact cA
 refine aP ?_;apply K.cond<;>intro g5
 .have hk:o.iN x v t=(v.self,0):=by rw[o.iN,if_neg g1,if_neg g2,if_neg ag,if_neg g4,if_neg (by omega),if_pos g5]
  rw[hk];refine aP ?_;exact cA
 refine aP ?_;apply K.cond<;>intro g6
 .have hk:o.iN x v t=o.jo v.lens x.n:=by rw[o.iN,if_neg g1,if_neg g2,if_neg ag,if_neg g4,if_pos g6]
  rw[hk];refine aP ?_;refine K.call (IC _ v.lens x.n aU (dH.ext he)) ?_;rintro _ bb ⟨rfl,ax⟩;obtain⟨kN,kv⟩:=I4 v.lens x.n;refine aP ?_;refine K.dp (fun g=>?_) (fun g=>?_)
  .refine aP ?_;rw[kN g];exact cA
  .refine aP ?_;rw[kv g];exact cA
 refine aP ?_;apply K.cond<;>intro g7;rotate_left
 .have hk:o.iN x v t=(0,0):=by rw[o.iN,if_neg g1,if_neg g2,if_neg ag,if_neg g4,if_neg g6,if_neg g5,if_neg g7]
  rw[hk];refine aP ?_;exact cA
 have hk:o.iN x v t=if 0<=x.n then (match o.nth v.at_ (x.n.tdiv 16) with | some l=>o.jo l (x.n.tmod 16) | none=>(0,8)) else (0,8):=by
  rw[o.iN,if_neg g1,if_neg g2,if_neg ag,if_neg g4,if_neg g6,if_neg g5,if_pos g7];split
  .cases o.nth v.at_ (x.n.tdiv 16)<;>rfl
  .rfl
 refine aP ?_;apply K.cond<;>intro g8
 .rw[hk,if_neg (by omega)];refine aP ?_;exact cA
 rw[if_pos (by omega)] at hk;obtain⟨i,ad⟩:=Int.eq_ofNat_of_zero_le (show 0<=x.n by omega);obtain⟨_,gT⟩:=ar.n;rw[ad] at gT;have aD:x.n.tdiv 16=((i / 16:Nat):Int):=by rw[ad];rfl
 have aoa:x.n.tmod 16=((i % 16:Nat):Int):=by rw[ad];rfl
 refine aP ?_;refine K.quo (by omega) ?_;rw[aD];refine aP ?_;apply K.cond<;>intro g9
 .rw[hk,o.hN (.inr (by omega))];refine aP ?_;exact cA
 have aR:i / 16<v.at_.length:=by omega
 obtain⟨a,rfl⟩:=eb.addr (by omega);obtain⟨cx,l4,kE⟩:=eb.at (i / 16) aR;rw[aD,o.iY (by omega) (by omega)] at hk;simp only[Int.toNat_natCast] at hk;rw[hk];refine aP ?_;refine K.quo (by omega) ?_;rw[aD];refine aP ?_;refine K.ld (he.cell l4) ?_;refine aP ?_;refine K.rem (by omega) ?_;refine aP ?_;refine K.gN _ (fun w' e=>IC _ v.at_[i / 16] _ w' (kE.ext (he.trans e))) ?_;obtain⟨kN,kv⟩:=I4 v.at_[i / 16] (x.n.tmod 16);refine aP ?_;intro bb ax;refine aP ?_;refine K.dp (fun g=>?_) (fun g=>?_)
 .refine aP ?_;rw[kN g];exact cA
 .refine aP ?_;rw[kv g];exact cA
def se(x:o.Node)(k:Int)(v:o.Env):Int×Int:=match o.gE x.op with | some al=>o.Oy al [k] | none=>o.iN x v k
theorem aj1(x:o.Node)(k:Int)(cs:List Value)(v:o.Env)(w:World)(h:o.tD w cs v)(k1:x.op=3\/x.op=9\/x.op=10) :
  bu Tryz.prog F.Ei #[.agg x.enc.toArray,.int .i64 k,.agg cs.toArray] w fun u w'=>u = .tuple #[.int .i64 (se x k v).1,.int .i64 (se x k v).2]/\Ext w w':=by
 obtain⟨a0,bP,dJ,c1,a2,c2,a3,bQ,rfl,qg,dH,dN,eb,hd,eM,ej,ev,ea⟩:=h.form;refine bL E.Ei ?_;refine bG ?_;refine aP ?_;refine K.new fun av bC cR aB aq=>?_;refine aP ?_;refine K.new fun aU cp dR aA aQ=>?_;have he:=aB.trans aA;have cX:aU.heap[bC]? = some (.cells #[.int .i64 x.op,.int .i64 x.n] T.f):=aA.obj aq;clear aq;refine aP ?_;apply K.cond<;>intro g9
 .have hk:se x k v=(o.bit (decide (k=0)),0):=by rw[se,g9];rfl
  rw[hk];refine aP ?_;refine K.call (y1 _ aU) ?_;rintro _ _ ⟨rfl,rfl⟩;refine aP ?_;exact cA
 refine aP ?_;apply K.cond<;>intro g10
 .have hk:se x k v=if (o.tell (· - ·) 0 k).2=true then ((o.tell (· - ·) 0 k).1,0) else (0,10):=by rw[se,g10];rfl
  rw[hk];refine aP ?_;refine K.call (XX 0 k aU) ?_;rintro _ bb ⟨rfl,ax⟩;refine aP ?_;refine K.dp (fun g=>?_) (fun g=>?_)
  all_goals
   refine aP ?_;rw[g];exact cA
 have g3:x.op=3:=by omega
 have yh:se x k v=o.iN x v k:=by rw[se,show o.gE x.op=none from by rw[g3];rfl]
 have hk:se x k v=(match o.nth v.vars x.n with | some l=>(match o.nth l (k - 1) with | some y=>(y,0) | none=>(0,10)) | none=>(0,8)):=by
  rw[yh,o.iN,if_neg (by omega),if_neg (by omega),if_pos g3];cases o.nth v.vars x.n with
  | none=>rfl
  | some l=>simp only;cases o.nth l (k - 1)<;>rfl
 clear yh;by_cases KP:x.n<0\/(v.vars.length:Int)<=x.n
 .rw[o.hN KP] at hk;rw[hk]
  (repeat' (refine aP ?_;first | (refine K.cond (fun _=>?_) (fun _=>?_)<;>try (exfalso;omega)) | refine K.dp (fun _=>?_) (fun _=>?_)))<;>try refine aP ?_
  all_goals exact cA
 obtain⟨i,ad⟩:=Int.eq_ofNat_of_zero_le (show 0<=x.n by omega);have qP:i<v.vars.length:=by omega
 obtain⟨a,rfl⟩:=qg.addr (by omega);obtain⟨cx,l4,kE⟩:=qg.at i qP;obtain⟨cS,ci,rfl,li⟩:=kE.form;rw[ad,o.iY (by omega) (by omega)] at hk;simp only[Int.toNat_natCast] at hk;rw[ad] at cX;have hM:=kE.ext he;generalize v.vars[i]=l at *;by_cases anj:k<1\/(l.length:Int)<k
 .rw[o.hN (by omega)] at hk;simp only at hk;rw[hk];by_cases ank:k<1
  .refine aP ?_;exact cA
  .refine aP ?_;refine K.ld (he.cell l4) ?_;refine aP ?_;exact cA
 obtain⟨j,aR⟩:=Int.eq_ofNat_of_zero_le (show 0<=k - 1 by omega);have DB:j<l.length:=by omega
 rw[o.iY (by omega) (by omega)] at hk;simp only[aR,Int.toNat_natCast] at hk;rw[hk];obtain⟨c5,rfl⟩:=kE.addr (by omega);refine aP ?_;refine K.ld (he.cell l4) ?_;refine aP ?_;refine K.ld (he.cell l4) ?_;refine aP ?_;refine K.dD j (by omega) (by omega) ?_;refine aP ?_;exact cA
end Go.Proofs.R
end
section
namespace Go.Proofs.R
open Go Go.RowKit bt
theorem acT{v:o.Env}{x:o.Node}{st:List Int}(h:o.eV x.op=0):o.hy v x st=o.iN x v (st.getLastD 0):=by
 unfold o.hy;rw[(Is h).2.2.2]
theorem acU{v:o.Env}{x:o.Node}{st:List Int}(h:o.eV x.op=1)(aS:1<=st.length):o.hy v x st=se x st[st.length - 1] v:=by
 unfold o.hy se;cases ba:o.gE x.op with
 | none=>simp only;rw[KO st (by omega)]
 | some al =>
  have:=(o.EZ ba).1
  simp only;rw[show al.parts.toNat=1 from by omega,Kn aS]
theorem acV{v:o.Env}{x:o.Node}{st:List Int}(h:o.eV x.op=2)(aS:2<=st.length):o.hy v x st=qn x.op st[st.length - 2] st[st.length - 1]:=by
 unfold o.hy qn;obtain⟨al,ba,aN⟩:=W1 (show 9<=x.op/\x.op<=19 by have:=It h;omega);rw[ba];simp only;rw[show al.parts.toNat=2 from by omega,Sz aS]
theorem NP(hD:Value)(e:List o.Node)(cs:List Value)(v:o.Env)(w:World)(he:o.gd w hD e)(h:o.tD w cs v) :
  bu Tryz.prog F.yC #[hD,.agg cs.toArray] w fun u w'=>u = .tuple #[.int .i64 (o.eval e v).1,.int .i64 (o.eval e v).2]/\Ext w w':=by
 obtain⟨v0,v1,v2,v3,rfl,_⟩:=h.ex;obtain⟨bm,cap,rfl,hlen⟩:=he.form;refine bL E.yC ?_;refine bG ?_;refine aP ?_;refine K.new fun av dv wy aB aq=>?_;refine aP ?_;apply K.cond<;>intro g1
 .refine aP ?_;rw[o.eval,o.kt,if_pos (by omega)];exact cA
 refine aP ?_;apply K.cond<;>intro g2
 .refine aP ?_;rw[o.eval,o.kt,if_neg (by omega),if_pos (by omega)];exact cA
 refine aP ?_;refine K.zY 7 e.length (fun k S w' => ∃u st,S 6=u/\mf av.heap.size w' u st/\o.eE (o.hy v) (e.take k) []=(0,st)/\(0<k->1<=st.length)/\st.length<=12/\Ext av w')
  (by simp -dsimp only[c4,cF,Nat.reduceAdd,Nat.reduceEqDiff,reduceIte,reduceCtorEq,db]) ⟨.slice none 0 0,[],by simp -dsimp only[c4,cF,Nat.reduceAdd,Nat.reduceEqDiff,reduceIte,reduceCtorEq,db],bs.nil _ _ _ _ _,by simp[o.eE],by simp,by simp,Ext.refl _⟩ ?_
 rintro k S aU cq hk cj ⟨v6,st,bS,gr,hn,C1,qH,aA⟩;have ak:=cq 0 rfl;have ag:=cq 3 rfl;simp only[cu,Nat.reduceAdd,Nat.reduceEqDiff,reduceIte,jh,mr] at ak ag;clear cq;obtain⟨wS,JU,rfl,ct,l6⟩:=gr.form;have ad:Ints aU _ st:=bs.py (enc:=encI) (sz:=1) (fun _=>rfl) gr;unfold maxLen at l6;refine dn (i_ ak (i_ ag (i_ bS cj))) ?_;apply K.cond<;>intro g3;rotate_left
 .have bp:k=e.length:=by omega
  subst bp;rw[List.take_length] at hn;have h1:=C1 (by omega);obtain⟨a,rfl⟩:=ad.addr h1;have fS:o.eval e v=if st.length > 1 then (0,5) else (st.headD 0,0):=by
   rw[o.eval,o.kt,if_neg (by omega),if_neg (by omega),hn,if_neg (by simp)]
  rw[fS];clear fS;refine dn (i_ ak (i_ ag (i_ bS cj))) ?_;apply K.cond<;>intro g4
  .refine aP ?_;rw[if_pos (by omega)];exact cA
  .refine dn (i_ ak (i_ ag (i_ bS cj))) ?_;refine K.dD 0 rfl (by omega) ?_;refine aP ?_;rw[if_neg (by omega)]
   have:st.headD 0=st[0]:=by
    cases st with
    | nil=>simp at h1
    | cons z st=>rfl
   rw[this];exact cA
 have bp:k<e.length:=by omega
 obtain⟨a,rfl⟩:=he.addr (by omega);have td:=(he.at k bp).ok;have j2:=fun ak=>o.NW (f:=o.hy v) (e:=e) (by omega) bp hn ak;have s7:=o.vb bp hn;have CZ:=aB.trans aA;have ez:=aA.obj aq;refine dn (i_ ak (i_ ag (i_ bS cj))) ?_;refine K.call (YB e[k].op aU) ?_;rintro _ _ ⟨rfl,rfl⟩;generalize aE:o.eV e[k].op=n at *;have ir : -1<=n/\n<=2:=by rw[<-aE];unfold o.eV; (repeat' split)<;>omega
 refine dn (i_ ak (i_ ag (i_ bS cj))) ?_;apply K.cond<;>intro g4
 .have ay:o.stepG (o.hy v) e[k] st=(3,st):=by unfold o.stepG;rw[aE,if_pos g4]
  rw[ay] at j2;refine aP ?_;rw[o.eval,j2 (by simp)];exact cA
 refine dn (i_ ak (i_ ag (i_ bS cj))) ?_;apply K.cond<;>intro g5
 .have ay:o.stepG (o.hy v) e[k] st=(4,st):=by unfold o.stepG;rw[aE,if_neg g4,if_pos g5]
  rw[ay] at j2;refine aP ?_;rw[o.eval,j2 (by simp)];exact cA
 obtain⟨p,rfl⟩:=Int.eq_ofNat_of_zero_le (show 0<=n by omega);have eA:o.stepG (o.hy v) e[k] st=if (o.hy v e[k] st).2≠0 then ((o.hy v e[k] st).2,st) else if (st.take (st.length - p)++[(o.hy v e[k] st).1]).length > 12 then (12,st) else (0,st.take (st.length - p)++[(o.hy v e[k] st).1]):=by
  unfold o.stepG;rw[aE,if_neg g4,if_neg g5];simp only[Int.toNat_natCast]
 have iq:(st.take (st.length - p)++[(o.hy v e[k] st).1]).length=st.length - p+1:=by simp[List.length_take]
 rw[iq] at eA;have fin:p=0\/p=1\/p=2:=by omega
 rcases fin with yl | yl | yl
 .have aK:=acT (v:=v) (st:=st) (x:=e[k]) (by omega);obtain⟨gl,z2,z3,z4⟩:=Is (x:=e[k].op) (by omega);refine dn (i_ ak (i_ ag (i_ bS cj))) ?_;refine K.gV (c:=[_,_,_,_,_]) ez (Ext.refl _) rfl ?_;refine dn (i_ ak (i_ ag (i_ bS cj))) ?_;refine K.gN _ (fun w' e'=>ako e[k] _ v w' td (h.ext (CZ.trans e')) z3 (st.getLastD 0)) ?_;rw[<-aK];refine dn (i_ ak (i_ ag (i_ bS cj))) ?_;intro bb ax;refine dn (i_ ak (i_ ag (i_ bS cj))) ?_;apply K.cond<;>intro g6;rotate_left
  .rw[if_pos g6] at eA;refine aP ?_;rw[o.eval,j2 (by rw[eA];exact g6),eA];exact cA
  rw[if_neg (by simpa using g6)] at eA;have fP:=gr.ext ax;refine dn (i_ ak (i_ ag (i_ bS cj))) ?_;refine K.lv (cs:=[]) (by simp[List.range,List.range.loop,eP]) fun bq cN fN aM bw=>?_;have z12:=aA.size;have z23:=ax.size;have BD:=aM.size;have rP:mf av.heap.size bq (.slice (some ⟨cN,0,none⟩) 0 0) []:=bs.empty (by omega) bw;have fr:=fP.ext aM;have eC:mf av.heap.size bq (.slice _ (st.length - p) _) (st.take (st.length - p)):=bs.head (enc:=encI) (sz:=1) (xs:=st) (fun _=>rfl) fr (st.length - p) (Nat.sub_le _ _);have cv:(st.take (st.length - p)).length=st.length - p:=by simp[List.length_take]
  refine dn (i_ ak (i_ ag (i_ bS cj))) ?_;refine K.tt (st.length - p) (by simp -dsimp only[c4,cF,Nat.reduceAdd,Nat.reduceEqDiff,reduceIte,reduceCtorEq,db,bS];first | rfl | (congr 1;omega)) (by omega) ?_;refine aP ?_;refine K.zz (xs:=[]) (ys:=st.take (st.length - p)) rP eC (fun _=>rfl) qF (by rw[cv];simp only[List.length_nil];omega) (by rw[cv];simp only[List.length_nil,maxLen];omega) (by omega) fun v5 bT ng kC=>?_;have nf:Ext bb bT:=aM.grown kC fun q aD=>by simp[Value.ownBlock] at aD;omega
  rw[List.nil_append] at ng;have z35:=nf.size;refine aP ?_;refine K.lv (cs:=[(o.hy v e[k] st).1].flatMap encI) (by simp[List.range,List.range.loop,eP,lay,fu,cu,Value.cells,encI]) fun bV fl gq a8 ct=>?_;have y9:=a8.size;have dL:=ng.ext a8;refine aP ?_;refine K.sB (xs:=st.take (st.length - p)) (ys:=[(o.hy v e[k] st).1]) dL (fun _=>rfl) (hj ct) rfl qF (by rw[cv];simp only[List.length_cons,List.length_nil];omega) (by rw[cv];simp only[List.length_cons,List.length_nil,maxLen];omega) (by omega) fun By cc et j0=>?_;have bM:Ext av cc:=Ext.grown (((aA.trans ax).trans nf).trans a8) j0 fun q aD=>(dL.lt q aD).1;obtain⟨EY,xH,rfl,_⟩:=et.form;rw[iq] at et ⊢;by_cases g7:12<st.length - p+1
  .rw[if_pos (by omega)] at eA
   first
    | (exfalso;omega)
    | (refine aP ?_
       rw[o.eval,j2 (by rw[eA];simp),eA];exact⟨bk,aB.trans bM⟩)
  rw[if_neg (by omega)] at eA;refine dn cj ?_;refine⟨bp,bk,_,_,rfl,et,by rw[s7,eA],fun _=>by rw[iq];omega,by rw[iq];omega,bM⟩
 .have aK:=acU (v:=v) (st:=st) (x:=e[k]) (by omega) (by omega);obtain⟨lZ,rfl⟩:=ad.addr (by omega);refine dn (i_ ak (i_ ag (i_ bS cj))) ?_;refine K.dD (st.length - 1) (by omega) (by omega) ?_;refine dn (i_ ak (i_ ag (i_ bS cj))) ?_;refine K.gV (c:=[_,_,_,_,_]) ez (Ext.refl _) rfl ?_;refine dn (i_ ak (i_ ag (i_ bS cj))) ?_;refine K.gN _ (fun w' e'=>aj1 e[k] _ _ v w' (h.ext (CZ.trans e')) (WU (by omega))) ?_;rw[<-aK];refine dn (i_ ak (i_ ag (i_ bS cj))) ?_;intro bb ax;refine dn (i_ ak (i_ ag (i_ bS cj))) ?_;apply K.cond<;>intro g6;rotate_left
  .rw[if_pos g6] at eA;refine aP ?_;rw[o.eval,j2 (by rw[eA];exact g6),eA];exact cA
  rw[if_neg (by simpa using g6)] at eA;have fP:=gr.ext ax;refine dn (i_ ak (i_ ag (i_ bS cj))) ?_;refine K.lv (cs:=[]) (by simp[List.range,List.range.loop,eP]) fun bq cN fN aM bw=>?_;have z12:=aA.size;have z23:=ax.size;have BD:=aM.size;have rP:mf av.heap.size bq (.slice (some ⟨cN,0,none⟩) 0 0) []:=bs.empty (by omega) bw;have fr:=fP.ext aM;have eC:mf av.heap.size bq (.slice _ (st.length - p) _) (st.take (st.length - p)):=bs.head (enc:=encI) (sz:=1) (xs:=st) (fun _=>rfl) fr (st.length - p) (Nat.sub_le _ _);have cv:(st.take (st.length - p)).length=st.length - p:=by simp[List.length_take]
  refine dn (i_ ak (i_ ag (i_ bS cj))) ?_;refine K.tt (st.length - p) (by simp -dsimp only[c4,cF,Nat.reduceAdd,Nat.reduceEqDiff,reduceIte,reduceCtorEq,db,bS];first | rfl | (congr 1;omega)) (by omega) ?_;refine aP ?_;refine K.zz (xs:=[]) (ys:=st.take (st.length - p)) rP eC (fun _=>rfl) qF (by rw[cv];simp only[List.length_nil];omega) (by rw[cv];simp only[List.length_nil,maxLen];omega) (by omega) fun v5 bT ng kC=>?_;have nf:Ext bb bT:=aM.grown kC fun q aD=>by simp[Value.ownBlock] at aD;omega
  rw[List.nil_append] at ng;have z35:=nf.size;refine aP ?_;refine K.lv (cs:=[(o.hy v e[k] st).1].flatMap encI) (by simp[List.range,List.range.loop,eP,lay,fu,cu,Value.cells,encI]) fun bV fl gq a8 ct=>?_;have y9:=a8.size;have dL:=ng.ext a8;refine aP ?_;refine K.sB (xs:=st.take (st.length - p)) (ys:=[(o.hy v e[k] st).1]) dL (fun _=>rfl) (hj ct) rfl qF (by rw[cv];simp only[List.length_cons,List.length_nil];omega) (by rw[cv];simp only[List.length_cons,List.length_nil,maxLen];omega) (by omega) fun By cc et j0=>?_;have bM:Ext av cc:=Ext.grown (((aA.trans ax).trans nf).trans a8) j0 fun q aD=>(dL.lt q aD).1;obtain⟨EY,xH,rfl,_⟩:=et.form;rw[iq] at et ⊢;by_cases g7:12<st.length - p+1
  .rw[if_pos (by omega)] at eA
   first
    | (exfalso;omega)
    | (refine aP ?_
       rw[o.eval,j2 (by rw[eA];simp),eA];exact⟨bk,aB.trans bM⟩)
  rw[if_neg (by omega)] at eA;refine dn cj ?_;refine⟨bp,bk,_,_,rfl,et,by rw[s7,eA],fun _=>by rw[iq];omega,by rw[iq];omega,bM⟩
 .have aK:=acV (v:=v) (st:=st) (x:=e[k]) (by omega) (by omega);obtain⟨lZ,rfl⟩:=ad.addr (by omega);refine dn (i_ ak (i_ ag (i_ bS cj))) ?_;refine K.dD (st.length - 2) (by omega) (by omega) ?_;refine dn (i_ ak (i_ ag (i_ bS cj))) ?_;refine K.dD (st.length - 1) (by omega) (by omega) ?_;refine dn (i_ ak (i_ ag (i_ bS cj))) ?_;refine K.gN _ (fun w' e'=>ajC e[k].op _ _ w' (It (by omega))) ?_;rw[<-aK];refine dn (i_ ak (i_ ag (i_ bS cj))) ?_;intro bb ax;refine dn (i_ ak (i_ ag (i_ bS cj))) ?_;apply K.cond<;>intro g6;rotate_left
  .rw[if_pos g6] at eA;refine aP ?_;rw[o.eval,j2 (by rw[eA];exact g6),eA];exact cA
  rw[if_neg (by simpa using g6)] at eA;have fP:=gr.ext ax;refine dn (i_ ak (i_ ag (i_ bS cj))) ?_;refine K.lv (cs:=[]) (by simp[List.range,List.range.loop,eP]) fun bq cN fN aM bw=>?_;have z12:=aA.size;have z23:=ax.size;have BD:=aM.size;have rP:mf av.heap.size bq (.slice (some ⟨cN,0,none⟩) 0 0) []:=bs.empty (by omega) bw;have fr:=fP.ext aM;have eC:mf av.heap.size bq (.slice _ (st.length - p) _) (st.take (st.length - p)):=bs.head (enc:=encI) (sz:=1) (xs:=st) (fun _=>rfl) fr (st.length - p) (Nat.sub_le _ _);have cv:(st.take (st.length - p)).length=st.length - p:=by simp[List.length_take]
  refine dn (i_ ak (i_ ag (i_ bS cj))) ?_;refine K.tt (st.length - p) (by simp -dsimp only[c4,cF,Nat.reduceAdd,Nat.reduceEqDiff,reduceIte,reduceCtorEq,db,bS];first | rfl | (congr 1;omega)) (by omega) ?_;refine aP ?_;refine K.zz (xs:=[]) (ys:=st.take (st.length - p)) rP eC (fun _=>rfl) qF (by rw[cv];simp only[List.length_nil];omega) (by rw[cv];simp only[List.length_nil,maxLen];omega) (by omega) fun v5 bT ng kC=>?_;have nf:Ext bb bT:=aM.grown kC fun q aD=>by simp[Value.ownBlock] at aD;omega
  rw[List.nil_append] at ng;have z35:=nf.size;refine aP ?_;refine K.lv (cs:=[(o.hy v e[k] st).1].flatMap encI) (by simp[List.range,List.range.loop,eP,lay,fu,cu,Value.cells,encI]) fun bV fl gq a8 ct=>?_;have y9:=a8.size;have dL:=ng.ext a8;refine aP ?_;refine K.sB (xs:=st.take (st.length - p)) (ys:=[(o.hy v e[k] st).1]) dL (fun _=>rfl) (hj ct) rfl qF (by rw[cv];simp only[List.length_cons,List.length_nil];omega) (by rw[cv];simp only[List.length_cons,List.length_nil,maxLen];omega) (by omega) fun By cc et j0=>?_;have bM:Ext av cc:=Ext.grown (((aA.trans ax).trans nf).trans a8) j0 fun q aD=>(dL.lt q aD).1;obtain⟨EY,xH,rfl,_⟩:=et.form;rw[iq] at et ⊢;by_cases g7:12<st.length - p+1
  .rw[if_pos (by omega)] at eA
   first
    | (exfalso;omega)
    | (refine aP ?_
       rw[o.eval,j2 (by rw[eA];simp),eA];exact⟨bk,aB.trans bM⟩)
  rw[if_neg (by omega)] at eA;refine dn cj ?_;refine⟨bp,bk,_,_,rfl,et,by rw[s7,eA],fun _=>by rw[iq];omega,by rw[iq];omega,bM⟩
end Go.Proofs.R
end
section
namespace o
open Go
theorem ac5{m:Model}(br:eN m){s:List Int}(aK:Fits m s):∀x∈s,-9223372036854775808<=x/\x<=9223372036854775807:=fun x ar=>by
 obtain⟨i,ad,rfl⟩:=List.mem_iff_getElem.1 ar;have bF:i<(cb m).length:=by have:=aK.len;unfold eB at this;omega
 have h1:=aK.cell i ad bF;have U:=aa1 br _ (List.getElem_mem bF);obtain⟨bC,cp,b4⟩:=U;omega
structure Pu(v:Env):Prop where
 vars:∀l∈v.vars,∀x∈l,eG x
 lens:∀x∈v.lens,eG x
 locals:∀x∈v.locals,eG x
 at_:∀l∈v.at_,∀x∈l,eG x
 self:eG v.self
theorem SX{m:Model}(br:eN m){s:List Int}(aK:Fits m s){q:Nat}(aD:q<(insts m).length):Pu (c8 m s q):=by
 have eU:=ac5 br aK;have uv:=(r2 _ (List.getElem_mem aD)).elem;have hJ:=H4 br;refine⟨fun l aS x ar=>?_,fun x ar=>?_,fun x ar=>?_,fun l aS x ar=>?_,?_⟩
 .simp only[c8,List.mem_map] at aS;obtain⟨k,_,rfl⟩:=aS;exact eU x (List.mem_of_mem_drop (List.mem_of_mem_take ar))
 .simp only[c8,List.mem_map] at ar;obtain⟨k,_,rfl⟩:=ar;rw[List.getElem!_eq_getElem?_getD];cases hk:s[df m k]? with
  | none=>simp[eG]
  | some y=>exact eU y (List.mem_of_getElem? hk)
 .rw[(w7 s aD rfl).1] at ar;exact eU x (List.mem_of_mem_drop (List.mem_of_mem_take ar))
 .simp only[c8,List.mem_map] at aS;obtain⟨k,_,rfl⟩:=aS;unfold jR at ar;obtain⟨d,_,rfl⟩:=List.mem_map.1 ar
  have:=RU m s k d (insts m).length
  unfold eG;omega
 .rw[(w7 s aD rfl).2];unfold eG;omega
end o
namespace bt
open Go Go.RowKit
theorem K.AH{b n k:Nat}{c:List Value}{ty:TypeId}{w:World}{aI:Value->Prop}{t}(cs:List Value)(aC:w.heap[b]? = some (.cells c.toArray ty))(gA:(c.drop k).take n=cs)(aE:cs.length=n)(hk:aI (.agg cs.toArray)):ss n (.pointer (some (Addr.add ⟨b,0,none⟩ k))) w aI t:=by
 refine K.j3 (cs:=cs) (fun j v aR=>?_) aE hk;subst gA;rw[List.getElem?_take] at aR;split at aR
 .rw[List.getElem?_drop] at aR;rw[add_add];exact e2 aC (by simpa using aR)
 .cases aR
end bt
namespace Go.Proofs.R
open Go Go.RowKit bt
theorem MF{w:World}{v:Value}{l:List Int}(h:eO w v l)(eU:∀x∈l,o.eG x):pF w v l:=by
 obtain⟨bm,cap,e,h1,U,ag,aJ⟩:=h.ex;exact⟨bm,cap,e,h1,U,ag,fun a bj i ad=>⟨aJ a bj i ad,eU _ (List.getElem_mem ad)⟩⟩
theorem XU{w:World}{v:Value}{l:List (List Int)}(h:BV w v l)(eU:∀r∈l,∀x∈r,o.eG x):vD w v l:=by
 obtain⟨bm,cap,e,h1,U,ag,aJ⟩:=h.ex;refine⟨bm,cap,e,h1,U,ag,fun a bj i ad=>?_⟩;obtain⟨u,hu,aE⟩:=aJ a bj i ad;exact⟨u,hu,MF aE (eU _ (List.getElem_mem ad))⟩
theorem SV{w:World}{cs:List Value}{x:o.Env}(h:Pt w cs x)(ba:o.Pu x):o.tD w cs x:=by
 obtain⟨v0,v1,v2,v3,rfl,ak,h1,U,ag⟩:=h.ex;exact⟨v0,v1,v2,v3,rfl,XU ak ba.vars,MF h1 ba.lens,MF U ba.locals,XU ag ba.at_,ba.self⟩
def Re(base:Nat)(al:Option (List Int))(u:Value)(w:World):Prop :=
 (al=none/\u = .tuple #[.slice none 0 0,.bool false])\/(∃t nY,al=some t/\u = .tuple #[nY,.bool true]/\oS base w nY t)
theorem ajt(cs:List Value)(v cx cE:Value)(m:o.Model)(s:List Int)(q p:Nat)(a:o.Act)(w:World)(h:oX w cs m)(a1:m.cQ)(br:o.eN m)(ay:eO w v s)(aK:o.Fits m s)(bB:o.fW m q p)
  (ad:o.gd w cx a.index)(aT:o.gd w cE a.value)(bj:o.oN (o.inner (m.procs[p]'(bB.aN)) (o.eR m)) a) :
  bu Tryz.prog F.ES #[.agg cs.toArray,v,.int .i64 q,.agg (a.enc cx cE).toArray] w fun u w'=>Re w.heap.size (o.jP m s q a) u w'/\Ext w w':=by
 have hZ:=h;obtain⟨gv,d0,eD,d1,fC,d2,fU,d3,gF,d4,cy,bP,b9,c1,ck,c2,cn,bQ,cB,bX,cS,ci,h5,kh,rfl,eh,qK,gz,fi,fR,ix,k7,ak,h1,U,ag,adP,KZ⟩:=h.form;obtain⟨os,xQ,rfl,Il⟩:=ay.form;obtain⟨Bc,dh,rfl,wO⟩:=ad.form;obtain⟨aph,anc,rfl,lvl⟩:=aT.form;have yj:=bj.kind;have hlen:=aK.len;have qI:o.eB m<=64:=o.nm br;have hJ:=br.hJ;have aD:=bB.aD;have aoi:=bB.Fg br;obtain⟨f6,f7,f8⟩:=o.Ii m;obtain⟨LO,rT⟩:=o.yt aD;have dq:=o.SX br aK aD;refine bL E.ES ?_;refine bG ?_;refine af ?_;intro av cN fN aB bw;refine af ?_;intro aU l1 jX aA cU;replace bw:=aA.obj bw;have aW:=aB.trans aA;unfold o.Act.enc at cU;refine af ?_;apply K.cond<;>intro g5
 .obtain⟨gC,e8⟩:=bj.chan (.inr g5);have fA:a.to.toNat<m.aL.length:=e8;have iS:a.to=(a.to.toNat:Nat):=by omega
  rw[iS] at cU;refine af ?_;refine K.call (NI _ _ m s a.to.toNat aU (hZ.ext aW) br (ay.ext Flat.ext aW) hlen fA) ?_;rintro u bb ⟨hu,ax⟩;obtain⟨u4,mZ,rfl,_⟩:=hu.form;have eZ:(o.chanOf m s a.to.toNat).length=1+o.jw m a.to.toNat:=o.tQ (by rw[hlen];exact o.pS fA);have DT:=o.vM br fA;have aog:=o.pS fA;obtain⟨eM,afw⟩:=bj.recv g5;have LX:a.loc.toNat<(m.procs[p]'(bB.aN)).vars.length:=afw;have aoh:=bB.room;have done:o.jP m s q a=o.yS m s q a:=by unfold o.jP;rw[if_pos g5]
  rw[done];unfold o.yS;replace bw:=ax.obj bw;replace cU:=ax.obj cU;have bJ:=aW.trans ax;refine af ?_;refine K.call (akh _ _ bb hu (by omega)) ?_;rintro u bq ⟨eQ,aM⟩;replace bw:=aM.obj bw;replace cU:=aM.obj cU;have bZ:=bJ.trans aM;rcases eQ with ⟨gZ,rfl⟩ | ⟨r,x,j7,k4,rfl,DQ⟩
  .refine af ?_;exact⟨.inl ⟨by rw[gZ],bk⟩,bZ⟩
  obtain⟨aiM,abO,rfl,_⟩:=DQ.form;have j1:=o.IV k4;rw[k4];obtain⟨o0,rfl⟩:=fR.addr (by omega);have wX:=fR.ext Flat.ext bZ;refine af ?_;intro bT aZ;replace bw:=aZ.obj bw;replace cU:=aZ.obj cU;replace wX:=wX.ext Flat.ext aZ;have b5:=bZ.trans aZ;refine af ?_;rw[rT];refine af ?_;refine K.call (NR _ _ _ m s r a.to.toNat bT (hZ.ext b5) br (ay.ext Flat.ext b5) ((sf DQ).ext Flat.ext aZ) hlen fA (by omega)) ?_;rintro u bV ⟨dL,a8⟩;obtain⟨Ni,sH,rfl,_⟩:=dL.form;have cM:=b5.trans a8;have qP:(o.lK s (o.df m a.to.toNat) r).length=o.eB m:=by rw[o.wF (by omega)];exact hlen
  refine⟨a8,?_⟩;refine af ?_;refine K.call (ID _ _ m (o.lK s (o.df m a.to.toNat) r) (o.dS m q+1+a.loc.toNat) _ x bV (hZ.ext cM) br (sf dL) qP (by omega) (by omega)) ?_;rintro u cc ⟨eQ,bM⟩;rcases eQ with ⟨gZ,rfl⟩ | ⟨t,nY,agj,rfl,lG⟩
  .refine af ?_;exact⟨.inl ⟨gZ,bk⟩,cM.trans bM⟩
  .obtain⟨yQ,o6,rfl,_⟩:=lG.form;refine af ?_;exact⟨.inr ⟨t,_,agj,rfl,bs.low cM.size lG⟩,cM.trans bM⟩
 .refine af ?_;refine K.AH [.slice gv m.scalars.length d0,.slice eD m.vars.length d1,.slice fC m.aL.length d2,.slice fU m.procs.length d3,.slice gF m.props.length d4] bw rfl rfl ?_;refine af ?_;refine K.AH [.slice cy (o.layout m).vars.length bP,.slice b9 (o.layout m).aL.length c1,.slice ck (o.layout m).insts.length c2,.int .i64 (o.layout m).cells,.slice cn (o.layout m).bf.length bQ,.slice cB (o.layout m).ad.length bX] bw rfl rfl ?_;refine af ?_;refine K.call (XW _ _ _ m s q aU (eh.ext aW) a1 br (qK.ext aW) (ay.ext Flat.ext aW) aK (by omega) (by omega)) ?_;rintro _ bb ⟨⟨es,rfl,aE⟩,ax⟩;have fS:=SV aE.here dq;have G4:=fS;obtain⟨a0,gC,dJ,cX,a2,c0,a3,gD,rfl,qg,dH,dN,eb,hd,_⟩:=fS.form;replace bw:=ax.obj bw;replace cU:=ax.obj cU;have bJ:=aW.trans ax;refine af ?_;intro bq pP Df aM jj;replace bw:=aM.obj bw;replace cU:=aM.obj cU;have bZ:=bJ.trans aM;refine af ?_;refine K.call (NP _ a.value _ (o.c8 m s q) bq (aT.ext bZ) (G4.ext aM)) ?_;rintro _ bT ⟨rfl,aZ⟩;obtain⟨n,DM⟩:∃n,n=(o.eval a.value (o.c8 m s q)).1:=⟨_,rfl⟩;obtain⟨e,Ak⟩:∃e,e=(o.eval a.value (o.c8 m s q)).2:=⟨_,rfl⟩;rw[<-DM,<-Ak];replace bw:=aZ.obj bw;replace cU:=aZ.obj cU;replace jj:=aZ.obj jj;have b5:=bZ.trans aZ;have gl:=aW.size;refine af ?_;refine K.cond (fun uO=>?_) (fun uO=>?_);rotate_left
  .refine af ?_;refine⟨.inl ⟨?_,bk⟩,b5⟩;unfold o.jP;rw[if_neg g5,<-Ak,if_pos uO]
  have done:o.jP m s q a=if a.kind=1 then o.putAt m s (o.gW m a.to.toNat) n else if a.kind=2 then o.yu m s a (o.eval a.index (o.c8 m s q)) n else if a.kind=3 then o.putAt m s (o.dS m q+1+a.to.toNat) n else o.w3 m s a.to.toNat n:=by
   unfold o.jP;rw[if_neg g5,<-Ak,if_neg (by simpa using uO),<-DM]
  rw[done];have uG:=ay.ext Flat.ext b5;have TV:=hZ.ext b5;refine af ?_;apply K.cond<;>intro g1
  .obtain⟨gC,cf,e8,iI⟩:=bj.set g1;have jD:a.to.toNat<m.vars.length:=(List.getElem?_eq_some_iff.1 e8).1;obtain⟨fB,lH⟩:=o.Bz jD;have pe:=o.I1 br jD;have ags:=o.tz jD;have fX:=o.o3 m;have afu:=o.r4 jD;have anR:o.cells m.vars[a.to.toNat] m.scalars=1:=by
    have Mp:m.vars[a.to.toNat]=cf:=(List.getElem?_eq_some_iff.1 e8).2;rw[Mp];unfold o.cells;rw[if_pos iI]
   obtain⟨o0,rfl⟩:=gz.addr (by omega);have NB:=gz.ext Flat.ext b5;refine af ?_;intro bV a8;replace bw:=a8.obj bw;replace cU:=a8.obj cU;replace NB:=NB.ext Flat.ext a8;have cM:=b5.trans a8;refine af ?_;refine K.dD a.to.toNat (by omega) (by omega) ?_;refine af ?_;refine K.call (ID _ _ m s (o.gW m a.to.toNat) _ n bV (hZ.ext cM) br (ay.ext Flat.ext cM) hlen (by rw[lH]) (by omega)) ?_;rintro u cc ⟨eQ,bM⟩;rcases eQ with ⟨gZ,rfl⟩ | ⟨t,nY,k4,rfl,lG⟩
   .refine af ?_;exact⟨.inl ⟨by rw[if_pos g1];exact gZ,bk⟩,cM.trans bM⟩
   .obtain⟨yQ,o6,rfl,_⟩:=lG.form;refine af ?_;exact⟨.inr ⟨t,_,by rw[if_pos g1];exact k4,rfl,bs.low cM.size lG⟩,cM.trans bM⟩
  refine af ?_;apply K.cond<;>intro g2
  .obtain⟨gC,Mo,UI⟩:=bj.item g2;have jD:a.to.toNat<m.vars.length:=Mo;obtain⟨fB,lH⟩:=o.Bz jD;have ags:=o.tz jD;have fX:=o.o3 m;have afu:=o.r4 jD;have eZ:=o.tN m.vars[a.to.toNat] m.scalars;have agq:=o.IN (s:=s) (inst:=(q:Int)) jD;have aom:=o.Oa m s q;obtain⟨agt,agu⟩:=List.getElem?_eq_some_iff.1 agq;have j1:((o.c8 m s q).vars[a.to.toNat]).length=o.oD m a.to.toNat:=by rw[agu,List.length_take,List.length_drop];omega
   obtain⟨o0,rfl⟩:=gz.addr (by omega);obtain⟨oZ,rfl⟩:=qg.addr (by omega);obtain⟨j7,jE,nR⟩:=qg.at a.to.toNat agt;obtain⟨apb,am3,rfl,_⟩:=nR.form;rw[j1] at jE;refine af ?_;refine K.call (NP _ a.index _ (o.c8 m s q) bT (ad.ext b5) (G4.ext (aM.trans aZ))) ?_;rintro _ bV ⟨rfl,a8⟩;obtain⟨k,UP⟩:∃k,k=(o.eval a.index (o.c8 m s q)).1:=⟨_,rfl⟩;obtain⟨f,Uz⟩:∃f,f=(o.eval a.index (o.c8 m s q)).2:=⟨_,rfl⟩;have pg:∀n,o.yu m s a (o.eval a.index (o.c8 m s q)) n=if f≠0\/k<1\/(o.oD m a.to.toNat:Int)<k then none else o.putAt m s (o.gW m a.to.toNat+k.toNat - 1) n:=fun n=>by unfold o.yu;rw[<-UP,<-Uz]
   rw[pg,<-UP,<-Uz];clear pg;replace bw:=a8.obj bw;replace cU:=a8.obj cU;replace jj:=a8.obj jj;have cM:=b5.trans a8;have aeQ:=((aM.trans aZ).trans a8).cell jE;refine af ?_;refine K.cond (fun ni=>?_) (fun ni=>?_);rotate_left
   .refine af ?_;exact⟨.inl ⟨by rw[if_neg g1,if_pos g2,if_pos (.inl ni)],bk⟩,cM⟩
   refine af ?_;refine K.cond (fun pr=>?_) (fun pr=>?_)
   .refine af ?_;exact⟨.inl ⟨by rw[if_neg g1,if_pos g2,if_pos (.inr (.inl pr))],bk⟩,cM⟩
   refine af ?_;refine K.dD a.to.toNat (by omega) (by omega) ?_;refine af ?_;refine K.ld aeQ ?_;refine af ?_;refine K.cond (fun uN=>?_) (fun uN=>?_)
   .refine af ?_;exact⟨.inl ⟨by rw[if_neg g1,if_pos g2,if_pos (.inr (.inr (by omega)))],bk⟩,cM⟩
   have Xm:=gz.ext Flat.ext cM;refine af ?_;intro cc bM;replace bw:=bM.obj bw;replace cU:=bM.obj cU;replace Xm:=Xm.ext Flat.ext bM;have dz:=cM.trans bM;refine af ?_;refine K.dD a.to.toNat (by omega) (by omega) ?_;refine af ?_;refine K.call (ID _ _ m s (o.gW m a.to.toNat+k.toNat - 1) _ n cc (hZ.ext dz) br (ay.ext Flat.ext dz) hlen (by rw[lH];omega) (by omega)) ?_;rintro u di ⟨eQ,bY⟩;rcases eQ with ⟨gZ,rfl⟩ | ⟨t,nY,k4,rfl,lG⟩
   .refine af ?_;exact⟨.inl ⟨by rw[if_neg g1,if_pos g2,if_neg (by omega)];exact gZ,bk⟩,dz.trans bY⟩
   .obtain⟨yQ,o6,rfl,_⟩:=lG.form;refine af ?_;exact⟨.inr ⟨t,_,by rw[if_neg g1,if_pos g2,if_neg (by omega)];exact k4,rfl,bs.low dz.size lG⟩,dz.trans bY⟩
  refine af ?_;apply K.cond<;>intro g3
  .obtain⟨gC,jD⟩:=bj.loc g3;have fA:a.to.toNat<(m.procs[p]'(bB.aN)).vars.length:=jD;have DT:=bB.room;obtain⟨o0,rfl⟩:=fR.addr (by omega);have Bg:=fR.ext Flat.ext b5;refine af ?_;intro bV a8;replace bw:=a8.obj bw;replace cU:=a8.obj cU;replace Bg:=Bg.ext Flat.ext a8;have cM:=b5.trans a8;refine af ?_;rw[rT];refine af ?_;refine K.call (ID _ _ m s (o.dS m q+1+a.to.toNat) _ n bV (hZ.ext cM) br (ay.ext Flat.ext cM) hlen (by omega) (by omega)) ?_;rintro u cc ⟨eQ,bM⟩;rcases eQ with ⟨gZ,rfl⟩ | ⟨t,nY,k4,rfl,lG⟩
   .refine af ?_;exact⟨.inl ⟨by rw[if_neg g1,if_neg g2,if_pos g3];exact gZ,bk⟩,cM.trans bM⟩
   .obtain⟨yQ,o6,rfl,_⟩:=lG.form;refine af ?_;exact⟨.inr ⟨t,_,by rw[if_neg g1,if_neg g2,if_pos g3];exact k4,rfl,bs.low cM.size lG⟩,cM.trans bM⟩
  have g4:a.kind=4:=by omega
  rw[if_neg g1,if_neg g2,if_neg g3];obtain⟨gC,jD⟩:=bj.chan (.inl g4);have fA:a.to.toNat<m.aL.length:=jD;have Um:=br.chan _ (List.getElem_mem fA);obtain⟨xz,rfl⟩:=U.addr (by omega);have ei:=((U.at a.to.toNat fA).cells).ext b5;refine af ?_;refine K.dD a.to.toNat (by omega) fA ?_;refine ee ?_;intro bV amQ anA a8 Le;replace bw:=a8.obj bw;replace cU:=a8.obj cU;have cM:=b5.trans a8;refine ee ?_;simp -dsimp only[cF];refine ee ?_;intro cc bM;replace bw:=bM.obj bw;replace cU:=bM.obj cU;replace Le:=bM.obj Le;have dz:=cM.trans bM;have k3:=o.J5 Um hJ.1;have Hj:o.vP m a.to.toNat=o.fb m.aL[a.to.toNat].scalar m.aL[a.to.toNat].bf m.aL[a.to.toNat].ad m.scalars:=by unfold o.vP;rw[List.getElem?_eq_getElem fA]
  clear ei;unfold o.dr.enc at Le;refine ee ?_;refine K.hl [1,4,7,14,18] (fun x:Int×Int=>[(19,.int .i64 x.1),(20,.int .i64 x.2)]) (fun x W=>Ext cc W/\x.1=(o.vP m a.to.toNat).bf/\x.2=(o.vP m a.to.toNat).ad) ?_ ?_
  .refine af ?_;refine K.cond (fun ni=>?_) (fun ni=>?_)
   .have bN:=Um.fI.resolve_left (by omega);obtain⟨j,aR,an2,DC⟩:∃(j:Nat) (aR:j<m.scalars.length),m.aL[a.to.toNat].scalar=(j:Int)+1/\o.size m.aL[a.to.toNat].scalar m.scalars=m.scalars[j].size:=by
     unfold o.size at bN ⊢;cases ar:m.scalars[(m.aL[a.to.toNat].scalar - 1).toNat]? with
     | none=>rw[ar] at bN;exact absurd rfl bN
     | some x =>
      rw[ar] at bN;obtain⟨aR,rfl⟩:=List.getElem?_eq_some_iff.1 ar;simp only at bN ⊢;split at bN
      .rename_i dt;exact⟨_,aR,by omega,by rw[if_pos dt]⟩
      .exact absurd rfl bN
    obtain⟨xA,rfl⟩:=ak.addr (by omega);have gA:=((ak.at j aR).cells).ext dz;refine af ?_;refine K.dD j (by omega) aR ?_;refine af ?_;intro di bY;refine af ?_;refine⟨(0,m.scalars[j].size),⟨rfl,rfl,trivial⟩,bY,?_,?_⟩
    .rw[Hj];unfold o.fb;rw[if_neg (by omega)]
    .rw[Hj];unfold o.fb;rw[if_neg (by omega)];exact DC.symm
   .refine af ?_;refine⟨(m.aL[a.to.toNat].bf,m.aL[a.to.toNat].ad),⟨rfl,rfl,trivial⟩,Ext.refl _,?_,?_⟩
    .rw[Hj];unfold o.fb;rw[if_pos (by omega)]
    .rw[Hj];unfold o.fb;rw[if_pos (by omega)]
  rintro⟨bf,cO⟩ S di ⟨bY,jB,Dz⟩;simp only at jB Dz;replace bw:=bY.obj bw;replace cU:=bY.obj cU;have eg:=dz.trans bY;have OK:=eg.size;rw[show o.w3 m s a.to.toNat n=if n<bf\/cO<n then none else (o.px (o.chanOf m s a.to.toNat) n).map (o.lK s (o.df m a.to.toNat)) from by unfold o.w3;rw[<-jB,<-Dz]];refine af ?_;refine K.cond (fun ni=>?_) (fun ni=>?_)
  .refine af ?_;exact⟨.inl ⟨by rw[if_pos (.inl ni)],bk⟩,eg⟩
  refine af ?_;refine K.cond (fun pr=>?_) (fun pr=>?_)
  .refine af ?_;exact⟨.inl ⟨by rw[if_pos (.inr (by omega))],bk⟩,eg⟩
  rw[if_neg (by omega)];have iS:a.to=(a.to.toNat:Nat):=by omega
  rw[iS] at cU;have eZ:(o.chanOf m s a.to.toNat).length=1+o.jw m a.to.toNat:=o.tQ (by rw[hlen];exact o.pS fA);have DT:=o.vM br fA;refine af ?_;refine K.call (NI _ _ m s a.to.toNat di (hZ.ext eg) br (ay.ext Flat.ext eg) hlen fA) ?_;rintro u dX ⟨hu,cr⟩;obtain⟨u4,mZ,rfl,_⟩:=hu.form;replace bw:=cr.obj bw;replace cU:=cr.obj cU;have ig:=eg.trans cr;refine af ?_;refine K.call (akg _ _ n dX hu (by omega)) ?_;rintro u fw ⟨eQ,dc⟩;replace bw:=dc.obj bw;replace cU:=dc.obj cU;have kA:=ig.trans dc;rcases eQ with ⟨gZ,rfl⟩ | ⟨r,j7,k4,rfl,DQ⟩
  .refine af ?_;exact⟨.inl ⟨by rw[gZ];rfl,bk⟩,kA⟩
  .obtain⟨aiM,abO,rfl,_⟩:=DQ.form;have j1:=o.IA k4;refine af ?_;refine K.call (NR _ _ _ m s r a.to.toNat fw (hZ.ext kA) br (ay.ext Flat.ext kA) (sf DQ) hlen fA (by omega)) ?_;rintro u gw ⟨qW,fY⟩;obtain⟨Ni,sH,rfl,_⟩:=qW.form;refine af ?_;exact⟨.inr ⟨_,_,by rw[k4];rfl,rfl,bs.low kA.size qW⟩,kA.trans fY⟩
end Go.Proofs.R
end