/- Texts joined: MovA MovB ComA MovC MovD MovQ ExprK ExprL ExprN ExprR ExprS MovE. -/
import Derived.Test.YtempnjgiohpopaaGreatDoorQwrd
import Derived.Test.YtempnjgiohpopaaGreatDoorQwrg
import Derived.Test.YtempnjgiohpopaaGreatDoorQwrk
import Derived.Test.YtempnjgiohpopaaGreatDoorQwrn
import Derived.Test.YtempnjgiohpopaaGreatDoorQwro
set_option linter.all false
set_option maxRecDepth 4000
set_option maxHeartbeats 16000000
section
namespace bt
open Go Go.RowKit
theorem PU:∀(l:List Int) (k:Nat) (x:Int),(l.flatMap dk).set k (.int .i64 x)=(l.set k x).flatMap dk
 | [],_,_=>rfl
 | y :: l,0,x=>rfl
 | y :: l,k+1,x=>by
  have:=PU l k x
  simp only[List.flatMap_cons,List.set_cons_succ];rw[←this];rfl
theorem K.afK{e:TypeId}{base:Nat}{w:World}{l:List Int}{a:Addr}{n c k:Nat}{x:Int}{gR:World→Prop}{t}(h:bp dk e 1 base w (.slice (some a) n c) l)(hk:k<l.length)
  (df:∀w1,dH a.block w w1→bp dk e 1 base w1 (.slice (some a) n c) (l.set k x)→gR w1):qV (.pointer (some (a.add (k*1)))) (.int .i64 x) w gR t:=by
 rcases h.2 with ⟨aN,aj⟩ | ⟨g,cap,cur,h1,U,ai,aL,bn,bL,b7⟩
 ·cases aN
 ·injection h1 with bT bg bO
  injection bT with bT
  subst bT bO;have ck:k<cur.size:=by omega
  have k5:Addr.add ⟨g,0,none⟩ (k*1)=⟨g,k,none⟩:=by rw[add_eq,Nat.mul_one,Nat.zero_add]
  have av:w.cell? (Addr.add ⟨g,0,none⟩ (k*1))=some cur[k]:=fi ai (by rw[Nat.mul_one];exact Array.getElem?_eq_getElem ck);rw[k5] at av ⊢;have bA:w.ownsRow base e 1 (.slice (some ⟨g,0,none⟩) l.length c) l.length (l.flatMap dk):=by unfold bp at h;rw[bg] at h;exact h
  have ay:=World.ownsRow.stored bA k (.int .i64 x);rw[PU] at ay;refine K.st av (by simp[World.frozen?,ai]) (by simp[Value.oneCell']) (df _ (dH.setCell w ⟨g,k,none⟩ _) ?_);unfold bp;rw[List.length_set,bg];exact ay.1
end bt
namespace o
open Go
theorem FE{l:List Int}:kR l=true↔∃h:0<l.length,0≤l[0]∧l[0]≤(l.length:Int) - 1∧∀k (hk:k<l.length),l[0]+1≤k→l[k]=0:=by
 cases l with
 | nil=>simp[kR]
 | cons n r =>
  simp only[kR,Bool.and_eq_true,decide_eq_true_eq,List.all_eq_true];constructor
  ·rintro⟨⟨aj,h1⟩,U⟩;refine⟨by simp,aj,by simp;omega,fun k hk aQ=>?_⟩;cases k with
   | zero=>simp at aQ;omega
   | succ k =>
    simp only[List.getElem_cons_zero,List.getElem_cons_succ] at aQ ⊢;refine U _ (List.mem_iff_getElem.2 ⟨k - n.toNat,by simp at hk ⊢;omega,?_⟩);rw[List.getElem_drop];congr 1;omega
  ·rintro⟨_,aj,h1,U⟩;simp only[List.getElem_cons_zero,List.length_cons] at aj h1 U;refine⟨⟨aj,by omega⟩,fun x aw=>?_⟩;obtain⟨k,hk,rfl⟩:=List.mem_iff_getElem.1 aw;rw[List.getElem_drop]
   have:=U (n.toNat+k+1) (by simp at hk;omega) (by omega)
   simpa using this
theorem abK{l:List Int}(h:kR l=true)(aj:0<l.length):kq l=(l.drop 1).take l[0].toNat:=by
 unfold kq;rw[if_pos h];cases l with
 | nil=>simp at aj
 | cons n r=>rfl
theorem R6(l:List Int):(kq l).length≤l.length:=by
 unfold kq;split
 ·rw[List.length_take,List.length_drop];omega
 ·simp
theorem abJ{l:List Int}(h:¬kR l=true):kq l=[]:=by unfold kq;rw[if_neg h]
theorem Tb(l:List Int)(k:Nat):((l.length:Int) :: (List.range (k+1)).map fun i=>l.getD i 0)=((l.length:Int) :: (List.range k).map fun i=>l.getD i 0)++[l.getD k 0]:=by
 rw[List.range_succ,List.map_append];rfl
end o
namespace Go.Proofs.R
open Go Go.RowKit bt
abbrev mK(base:Nat)(w:World)(v:Value)(l:List Int):Prop:=bp dk T.a 1 base w v l
theorem s5{base:Nat}{w:World}{v:Value}{l:List Int}(h:mK base w v l):fo w v l:=bp.lz (enc:=dk) (fun _=>rfl) h
theorem TD(v:Value)(l:List Int)(w:World)(h:fo w v l) :
  bq Tryz.prog F.zh #[v] w fun u w'=>u = .bool (o.kR l)∧Ext w w':=by
 obtain⟨eP,ff,rfl,fH⟩:=h.form;have no:(¬∃h:0<l.length,0≤l[0]∧l[0]≤(l.length:Int) - 1∧∀k (hk:k<l.length),l[0]+1≤k→l[k]=0)→o.kR l=false:=fun aN=>by
  cases aF:o.kR l with
  | false=>rfl
  | true=>exact absurd (o.FE.1 aF) aN
 refine bI E.zh ?_;refine bF ?_;refine an ?_;apply K.cond<;>intro g1
 ·refine an ?_;exact⟨by rw[no];rintro⟨aj,_⟩;omega,Ext.refl _⟩
 have aj:0<l.length:=by omega
 obtain⟨a,rfl⟩:=h.addr aj;refine an ?_;apply K.cond<;>intro g2
 ·refine an ?_;exact⟨by rw[no];rintro⟨_,h1,_⟩;omega,Ext.refl _⟩
 refine an ?_;apply K.cond<;>intro g3
 ·refine an ?_;exact⟨by rw[no];rintro⟨_,h1,U,_⟩;omega,Ext.refl _⟩
 refine an ?_;refine K.Dt [0] (fun x:Int=>[(3,.int .i64 x)]) (l[0]+1) (fun x W=>W=w∧l[0]+1≤x∧x≤l.length∧∀k (hk:k<l.length),l[0]+1≤k→(k:Int)<x→l[k]=0) (fun x=>((l.length:Int) - x).toNat) bw ⟨rfl,by omega,by omega,fun k hk a b=>by omega⟩ ?_;rintro x S w1 ⟨rfl,RI,aw,c8⟩;refine an ?_;apply K.cond<;>intro g4
 ·refine an ?_;refine K.dr x.toNat (by omega) (by omega) ?_;refine an ?_;apply K.cond<;>intro g5
  ·refine an ?_;refine⟨x+1,bw,⟨bu,by omega,by omega,fun k hk a b=>?_⟩,by omega⟩;by_cases e:(k:Int)=x
   ·have:k=x.toNat:=by omega
    subst this;exact g5
   ·exact c8 k hk a (by omega)
  ·refine an ?_;exact⟨by rw[no];rintro⟨_,_,_,ai⟩;exact g5 (ai _ (by omega) (by omega)),Ext.refl _⟩
 ·refine an ?_;exact⟨by rw[o.FE.2 ⟨aj,by omega,by omega,fun k hk a=>c8 k hk a (by omega)⟩],Ext.refl _⟩
theorem Tu{w:World}(v:Value)(l:List Int)(c:Nat)(n x:Int)(h:fo w v l)(aw:x=c)(av:c<l.length)(aQ:l.length≤100000) :
  bq Tryz.prog F.zi #[v,.int .i64 x,.int .i64 n] w fun u w'=>mK w.heap.size w' u (l.set c n)∧Ext w w':=by
 subst aw;obtain⟨eP,ff,rfl,fH⟩:=h.form;refine bI E.zi ?_;refine bF ?_;refine an ?_;intro w1 bz cK az al;have qq:mK w.heap.size w1 (.slice (some ⟨bz,0,none⟩) 0 0) []:=bp.empty cK al;refine an ?_;refine K.Ap qq (h.ext Flat.ext az) (fun _=>rfl) kG (by simp only[List.length_nil];omega) (by simp only[List.length_nil];unfold maxLen;omega) az.size fun b3 aR ej Z7=>?_;rw[List.nil_append] at ej;have bg:Ext w aR:=az.grown Z7 fun k hk=>(qq.lt k hk).1;obtain⟨bh,iN,rfl,_⟩:=ej.form;obtain⟨a,rfl⟩:=(s5 ej).addr (by omega);refine an ?_;refine K.afK ej av fun ba eV eM=>?_;have aD:=ej.lt a.block rfl;refine an ?_;exact⟨eM,eV.ext bg aD.1⟩
end Go.Proofs.R
end
section
namespace bt
open Go Go.RowKit
section
variable{S:Fr}{w:World}{aE:Value→Prop}
theorem K.Uc{α:Type}{sz n cap:Nat}{R:World→Addr→α→Prop}{bh:Option Addr}{x:Operand}{k:IntKind}{xs:List α}{t}(l:Nat)(ay:bB sz R w (.slice bh n cap) xs)(aw:a7 S x = .int k (l:Int))(aQ:l≤xs.length)
  (hk:∀aq c,bB sz R w (.slice aq (xs.length - l) c) (xs.drop l)→aE (.slice aq (xs.length - l) c)):r0 S sz (.slice bh n cap) (some x) none none aE t:=by
 obtain⟨bT,bg,bO⟩:=ay.len;refine K.iH l n cap (by simp[fE,aw]) (by simp[fE]) (by simp[fE]) ⟨by omega,by omega,Nat.le_refl _⟩ (by simp) ?_;have h:=ay.sub l n (by omega) (by omega);rw[List.take_of_length_le (by rw[List.length_drop];omega)] at h;rw[bT] at h ⊢;exact hk _ _ h
theorem K.aft{α:Type}{sz n cap:Nat}{R:World→Addr→α→Prop}{bh:Option Addr}{y:Operand}{k:IntKind}{xs:List α}{t}(u:Nat)(ay:bB sz R w (.slice bh n cap) xs)(cB:a7 S y = .int k (u:Int))(hu:u≤xs.length)
  (hk:∀aq c,bB sz R w (.slice aq u c) (xs.take u)→aE (.slice aq u c)):r0 S sz (.slice bh n cap) none (some y) none aE t:=by
 obtain⟨bT,bg,bO⟩:=ay.len;refine K.iH 0 u cap (by simp[fE]) (by simp[fE,cB]) (by simp[fE]) ⟨by omega,by omega,Nat.le_refl _⟩ (by simp) ?_;have h:=ay.sub 0 u (by omega) hu;exact hk _ _ h
end
end bt
namespace Go.Proofs.R
open Go Go.RowKit bt
theorem TF(v:Value)(l:List Int)(w:World)(h:fo w v l)(aQ:l.length≤100000) :
  bq Tryz.prog F.zf #[v] w fun u w'=>mK w.heap.size w' u (o.kq l)∧Ext w w':=by
 obtain⟨eP,ff,rfl,fH⟩:=h.form;refine bI E.zf ?_;refine bF ?_;refine an ?_;refine K.call (TD _ l w h) ?_;rintro _ w1 ⟨rfl,az⟩;by_cases aF:o.kR l=true
 ·rw[aF];obtain⟨aj,h1,U,ai⟩:=o.FE.1 aF;obtain⟨a,rfl⟩:=h.addr aj;have fv:=h.ext Flat.ext az;refine an ?_;refine K.da 4 l[0].toNat [0] (fun v:fU=>[(3,.slice v.1 v.2.1 v.2.2)]) (none,0,0) (fun k v W=>Ext w1 W∧mK w1.heap.size W (.slice v.1 v.2.1 v.2.2) ((l.drop 1).take k)) bw bw ⟨Ext.refl _,bp.nil _ _ _ _ _⟩ ?_;clear fv;rintro k UH S aR hk ⟨aA,ej⟩;have dS:=h.ext Flat.ext (az.trans aA);refine an ?_;apply K.cond<;>intro g1
  ·have e5:1+k<l.length:=by omega
   refine an ?_;intro ba bZ fG au bG;have ps:((l.drop 1).take k).length≤100000:=by rw[List.length_take,List.length_drop];omega
   refine an ?_;refine K.mi (y:=l[1+k]) (ej.ext au) bG rfl (fun _=>rfl) kG (by omega) (by unfold maxLen;omega) (by have:=aA.size;have:=au.size;omega) fun bh c d bo ev mw=>?_;refine an ?_;refine⟨by omega,bu,(bh,c,d),⟨rfl,trivial⟩,(aA.trans au).grown mw fun i ad=>(ej.lt i ad).1,?_⟩;rw[List.take_succ,List.getElem?_drop,List.getElem?_eq_getElem e5];exact ev
  ·have oK:k=l[0].toNat:=by omega
   subst oK;refine an ?_;exact⟨by rw[o.abK aF aj];exact bp.low az.size ej,az.trans aA⟩
 ·have Ji:o.kR l=false:=by simpa using aF
  rw[Ji];refine an ?_;exact⟨by rw[o.abJ aF];exact bp.nil _ _ _ _ _,az⟩
theorem TO(n:Nat)(v:Value)(l:List Int)(w:World)(h:fo w v l)(aN:1≤n∧n≤100000) :
  bq Tryz.prog F.zg #[.int .i64 n,v] w fun u w'=>mK w.heap.size w' u (o.s6 n l)∧Ext w w':=by
 obtain⟨eP,ff,rfl,fH⟩:=h.form;refine bI E.zg ?_;refine bF ?_;refine an ?_;intro w1 bz cK az al;have qq:mK w.heap.size w1 (.slice (some ⟨bz,0,none⟩) 1 1) ((l.length:Int) :: (List.range 0).map fun i=>l.getD i 0):=bp.Ej _ al cK rfl (fun _=>rfl) rfl (by show 1≤maxLen;unfold maxLen;decide);clear al;refine an ?_;refine K.da 6 (n - 1) [0,1] (fun v:fU=>[(5,.slice v.1 v.2.1 v.2.2)]) (some ⟨bz,0,none⟩,1,1) (fun k v W=>Ext w W∧mK w.heap.size W (.slice v.1 v.2.1 v.2.2) ((l.length:Int) :: (List.range k).map fun i=>l.getD i 0)) bw bw ⟨az,qq⟩ ?_;clear qq;rintro k UH S aR hk ⟨aA,ej⟩;have dS:=h.ext Flat.ext aA;have ps:((l.length:Int) :: (List.range k).map fun i=>l.getD i 0).length=k+1:=by simp
 refine an ?_;apply K.cond<;>intro g1
 ·refine an ?_;apply K.cond<;>intro g2
  ·have e5:k<l.length:=by omega
   obtain⟨a,rfl⟩:=h.addr (by omega);refine an ?_;intro ba bZ fG au bG;refine an ?_;refine K.mi (y:=l[k]) (ej.ext au) bG rfl (fun _=>rfl) kG (by omega) (by unfold maxLen;omega) (by have:=aA.size;have:=au.size;omega) fun bh c d bo ev mw=>?_;refine an ?_;refine⟨by omega,bu,(bh,c,d),⟨rfl,trivial⟩,(aA.trans au).grown mw fun i ad=>(ej.lt i ad).1,?_⟩;rw[o.Tb,show l.getD k 0=l[k] from by simp[e5]];exact ev
  ·refine an ?_;intro ba bZ fG au bG;refine an ?_;refine K.mi (y:=0) (ej.ext au) bG rfl (fun _=>rfl) kG (by omega) (by unfold maxLen;omega) (by have:=aA.size;have:=au.size;omega) fun bh c d bo ev mw=>?_;refine an ?_;refine⟨by omega,bu,(bh,c,d),⟨rfl,trivial⟩,(aA.trans au).grown mw fun i ad=>(ej.lt i ad).1,?_⟩;rw[o.Tb,show l.getD k 0=0 from by simp[List.getD,List.getElem?_eq_none (show l.length≤k by omega)]];exact ev
 ·have oK:k=n - 1:=by omega
  subst oK;refine an ?_;exact⟨ej,aA⟩
theorem ae0(v:Value)(l:List Int)(w:World)(h:fo w v l)(aQ:l.length≤100000) :
  bq Tryz.prog F.CA #[v] w fun u w'=>((o.qM l=none∧u = .tuple #[.slice none 0 0,.int .i64 0,.bool false])∨(∃r x ky,o.qM l=some (r,x)∧u = .tuple #[ky,.int .i64 x,.bool true]∧mK w.heap.size w' ky r))∧Ext w w':=by
 obtain⟨eP,ff,rfl,fH⟩:=h.form;refine bI E.CA ?_;refine bF ?_;refine an ?_;refine K.call (TF _ l w h aQ) ?_;rintro u w1 ⟨qq,az⟩;have fQ:=s5 qq;obtain⟨et,ci,rfl,_⟩:=fQ.form;refine an ?_;apply K.cond<;>intro g1
 ·have ad:o.kq l=[]:=List.eq_nil_of_length_eq_zero (by omega);refine an ?_;exact⟨.inl ⟨by unfold o.qM;rw[ad],bu⟩,az⟩
 have pr:=o.R6 l;obtain⟨x,r,ad⟩:∃x r,o.kq l=x :: r:=by
  cases av:o.kq l with
  | nil=>rw[av] at g1;simp at g1
  | cons x r=>exact⟨x,r,rfl⟩
 obtain⟨ic,rfl⟩:=fQ.addr (by omega);refine an ?_;intro aR aA;have Qe:=fQ.ext Flat.ext aA;have dS:=h.ext Flat.ext (az.trans aA);refine an ?_;refine K.Uc (k:=.i64) 1 Qe rfl (by omega) fun aq c aO=>?_;have QJ:(o.kq l).drop 1=r:=by rw[ad];rfl
 have RI:(o.kq l)[0]'(by omega)=x:=by simp[ad]
 rw[QJ] at aO;refine an ?_;refine K.dr 0 rfl (by omega) ?_;refine an ?_;refine K.call (TO l.length _ r aR (by have:=aO.len.1;exact aO) (by omega)) ?_;rintro u ba ⟨eM,au⟩;refine⟨au,?_⟩;refine an ?_;refine⟨.inr ⟨o.s6 l.length r,x,u,by unfold o.qM;rw[ad],by rw[RI],bp.low (az.trans aA).size eM⟩,(az.trans aA).trans au⟩
theorem aeZ(v:Value)(l:List Int)(x:Int)(w:World)(h:fo w v l)(aQ:l.length≤100000) :
  bq Tryz.prog F.Cz #[v,.int .i64 x] w fun u w'=>((o.oV l x=none∧u = .tuple #[.slice none 0 0,.bool false])∨(∃r ky,o.oV l x=some r∧u = .tuple #[ky,.bool true]∧mK w.heap.size w' ky r))∧Ext w w':=by
 obtain⟨eP,ff,rfl,fH⟩:=h.form;refine bI E.Cz ?_;refine bF ?_;refine an ?_;refine K.call (TD _ l w h) ?_;rintro _ w1 ⟨rfl,az⟩;by_cases aF:o.kR l=true;rotate_left
 ·have Ji:o.kR l=false:=by simpa using aF
  rw[Ji];refine an ?_;exact⟨.inl ⟨by unfold o.oV;rw[if_neg (fun e=>aF e.1)],bu⟩,az⟩
 rw[aF];obtain⟨aj,h1,U,ai⟩:=o.FE.1 aF;obtain⟨a,rfl⟩:=h.addr aj;have fv:=h.ext Flat.ext az;have bs:l.headD 0=l[0]:=by cases l with | nil=>simp at aj | cons n r=>rfl
 refine an ?_;apply K.cond<;>intro g1
 ·refine an ?_;exact⟨.inl ⟨by unfold o.oV;rw[if_neg (fun e=>e.2 (by rw[bs];omega))],bu⟩,az⟩
 refine an ?_;refine K.call (TF _ l w1 fv aQ) ?_;rintro u aR ⟨ej,aA⟩;obtain⟨et,ci,rfl,_⟩:=(s5 ej).form;have pr:=o.R6 l;refine an ?_;intro ba bZ fG au bG;refine an ?_;refine K.mi (y:=x) (ej.ext au) bG rfl (fun _=>rfl) kG (by omega) (by unfold maxLen;omega) (by have:=aA.size;have:=au.size;omega) fun bh c d bo ev mw=>?_;have b8:Ext w1 bo:=(aA.trans au).grown mw fun i ad=>(ej.lt i ad).1;refine an ?_;refine K.call (TO l.length _ _ bo (s5 ev) (by omega)) ?_;rintro u bR ⟨ek,bf⟩;refine an ?_;exact⟨.inr ⟨_,_,by unfold o.oV;rw[if_pos ⟨aF,by rw[bs];omega⟩],rfl,bp.low (az.trans b8).size ek⟩,(az.trans b8).trans bf⟩
theorem Tt(c:o.dD)(fw eD:Value)(w:World)(br:o.mH w eD c.b6) :
  bq Tryz.prog F.za #[.agg (c.enc fw eD).toArray] w fun v w'=>v = .tuple #[.int .i64 (o.comm c.b6).1,.int .i64 (o.comm c.b6).2]∧Ext w w':=by
 obtain⟨bh,cap,rfl,hlen⟩:=br.form;refine bI E.za ?_;refine bF ?_;refine an ?_;intro w1 bz cK az al;unfold o.dD.enc at al;refine an ?_;refine K.da 4 c.b6.length [1] (fun _=>[]) () (fun k _ w'=>Ext w1 w'∧o.comm c.b6=o.comm (c.b6.drop k)) bw bw ⟨Ext.refl _,by simp⟩ ?_;have hp:=al;clear al;rintro k _ S aR hk ⟨fL,bM⟩;have al:=fL.obj hp;have aA:=az.trans fL;refine an ?_;apply K.cond<;>intro g1
 ·have bb:k<c.b6.length:=by omega
  obtain⟨a,rfl⟩:=br.addr (by omega);obtain⟨cn,cr,mu,fg,pz⟩:=br.at k bb;rw[o.Xl bb] at bM;replace mu:=mu.ext aA;unfold o.Act.enc at mu;refine an ?_;apply K.cond<;>intro g2
  ·refine an ?_;intro ba au;refine an ?_;rw[bM,if_pos (by simp[o.gi,g2])];exact⟨bu,aA.trans au⟩
  refine an ?_;apply K.cond<;>intro g3
  ·refine an ?_;intro ba au;refine an ?_;rw[bM,if_pos (by simp[o.gi,g3])];exact⟨bu,aA.trans au⟩
  refine an ?_;rw[if_neg (by simp[o.gi,g2,g3])] at bM;exact⟨bb,bu,(),by trivial,fL,bM⟩
 ·refine an ?_;rw[bM,List.drop_eq_nil_of_le (by omega)];exact⟨bu,aA⟩
theorem ae8(c:o.dD)(fw eD dL:Value)(l:List o.c4)(w:World)(br:o.mH w eD c.b6)(aQ:o.lG w dL l) :
  bq Tryz.prog F.Cf #[.agg (c.enc fw eD).toArray,dL] w fun v w'=>v = .int .i64 (o.ways c l)∧Ext w w':=by
 obtain⟨bh,cap,rfl,hlen⟩:=aQ.form;obtain⟨ai5,yb,rfl,Fl⟩:=br.form;refine bI E.Cf ?_;refine bF ?_;refine an ?_;intro w1 bz cK az al;refine an ?_;refine K.call (Tt c fw _ w1 (br.ext az)) ?_;rintro _ aR ⟨rfl,aA⟩;have bg:=az.trans aA;rw[o.ways];refine an ?_;apply K.cond<;>intro g1;rotate_left
 ·refine an ?_;rw[if_neg g1];exact⟨bu,bg⟩
 rw[if_pos g1];refine an ?_;apply K.cond<;>intro g2;rotate_left
 ·refine an ?_;rw[o.gK (.inl (by omega))];exact⟨bu,bg⟩
 refine an ?_;apply K.cond<;>intro g3;rotate_left
 ·refine an ?_;rw[o.gK (.inr (by omega))];exact⟨bu,bg⟩
 rw[o.h0 (by omega) (by omega)];obtain⟨a,rfl⟩:=aQ.addr (by omega);have ad:(o.comm c.b6).2.toNat<l.length:=by omega
 have eu:=((aQ.at _ ad).cells).ext bg;refine an ?_;refine K.dr (o.comm c.b6).2.toNat (by omega) ad ?_;refine an ?_;refine K.cX (fun g4=>?_) (fun g4=>?_)
 ·refine an ?_;rw[if_pos g4];exact⟨bu,bg⟩
 ·refine an ?_;rw[if_neg (by simp[g4])];exact⟨bu,bg⟩
structure nt(w:World)(cs:List Value)(m:o.Model):Prop where
 ex:∃ms ys cn ky,cs=ms++ys++[cn,ky]∧o.ew w ms m∧o.jg w ys (o.layout m)∧oh w cn (o.insts m)∧NM w ky (o.refs m)
theorem nt.ext{w w':World}{cs:List Value}{m:o.Model}(he:Ext w w')(h:nt w cs m):nt w' cs m :=
 let ⟨ms,ys,cn,ky,aj,h1,U,ai,aL⟩:=h.ex; ⟨ms,ys,cn,ky,aj,h1.ext he,U.ext he,ai.ext Flat.ext he,aL.ext Flat.ext he⟩
theorem nt.form{w:World}{cs:List Value}{m:o.Model}(h:nt w cs m):∃hz d0 fk d1 gp d2 gL d3 h2 d4 cv bN b9 c1 cq c2 cm bK cw bQ et ci l5 jQ,
  cs=[.slice hz m.scalars.length d0,.slice fk m.vars.length d1,.slice gp m.aH.length d2,.slice gL m.procs.length d3,.slice h2 m.props.length d4,
   .slice cv (o.layout m).vars.length bN,.slice b9 (o.layout m).aH.length c1,.slice cq (o.layout m).insts.length c2,.int .i64 (o.layout m).cells,.slice cm (o.layout m).aZ.length bK,.slice cw (o.layout m).ad.length bQ,.slice et (o.insts m).length ci,.slice l5 (o.refs m).length jQ] ∧
  o.ew w [.slice hz m.scalars.length d0,.slice fk m.vars.length d1,.slice gp m.aH.length d2,.slice gL m.procs.length d3,.slice h2 m.props.length d4] m ∧
  o.jg w [.slice cv (o.layout m).vars.length bN,.slice b9 (o.layout m).aH.length c1,.slice cq (o.layout m).insts.length c2,.int .i64 (o.layout m).cells,.slice cm (o.layout m).aZ.length bK,.slice cw (o.layout m).ad.length bQ] (o.layout m) ∧
  bB 1 (Flat dk) w (.slice cv (o.layout m).vars.length bN) (o.layout m).vars∧bB 1 (Flat dk) w (.slice b9 (o.layout m).aH.length c1) (o.layout m).aH∧bB 1 (Flat dk) w (.slice cq (o.layout m).insts.length c2) (o.layout m).insts ∧
  bB 1 (Flat dk) w (.slice cm (o.layout m).aZ.length bK) (o.layout m).aZ∧bB 1 (Flat dk) w (.slice cw (o.layout m).ad.length bQ) (o.layout m).ad ∧
  o.fY w (.slice hz m.scalars.length d0) m.scalars∧o.gF w (.slice fk m.vars.length d1) m.vars∧o.lG w (.slice gp m.aH.length d2) m.aH∧o.o9 w (.slice gL m.procs.length d3) m.procs ∧
  oh w (.slice et (o.insts m).length ci) (o.insts m)∧NM w (.slice l5 (o.refs m).length jQ) (o.refs m):=by
 obtain⟨ms,ys,cn,ky,rfl,bd,dF,bM,iA⟩:=h.ex;have A4:=bd;have Y7:=dF;obtain⟨cv,bN,b9,c1,cq,c2,cm,bK,cw,bQ,rfl,gM,fl,fD,hc,jF⟩:=dF.form;obtain⟨hz,d0,fk,d1,gp,d2,gL,d3,h2,d4,rfl,aj,h1,U,ai,aL,_⟩:=bd.form;obtain⟨et,ci,rfl,_⟩:=bM.form;obtain⟨l5,jQ,rfl,_⟩:=iA.form;exact⟨hz,d0,fk,d1,gp,d2,gL,d3,h2,d4,cv,bN,b9,c1,cq,c2,cm,bK,cw,bQ,et,ci,l5,jQ,rfl,A4,Y7,gM,fl,fD,hc,jF,aj,h1,U,ai,bM,iA⟩
theorem aed(cs ys:List Value)(m:o.Model)(w:World)(h:o.ew w cs m)(a6:m.cT)(bd:o.eI m)(dF:o.jg w ys (o.layout m)) :
  bq Tryz.prog F.CB #[.agg cs.toArray,.agg ys.toArray] w fun u w'=>(∃cn ky,u = .agg (cs++ys++[cn,ky]).toArray∧bp o.cW.enc T.l 2 w.heap.size w' cn (o.insts m)∧bp o.Ref.enc T.p 2 w.heap.size w' ky (o.refs m))∧Ext w w':=by
 have fF:=h;have ra:=dF;obtain⟨cv,bN,b9,c1,cq,c2,cm,bK,cw,bQ,rfl,_⟩:=h.form;obtain⟨jJ,d0,lC,d1,lD,d2,ma,d3,lE,d4,rfl,_⟩:=dF.form;refine bI E.CB ?_;refine bF ?_;refine an ?_;intro w1 b4 dw az aI;refine an ?_;intro aR bZ fG aA bG;replace aI:=aA.obj aI;refine an ?_;intro ba cE fh au bJ;have z4:=cL bJ;replace aI:=au.obj aI;replace bG:=au.obj bG;have bO:=(az.trans aA).trans au;have fy:=az.size;have z2:=aA.size;refine an ?_;intro bo aP;have b8:=bO.trans aP;replace aI:=aP.obj aI;replace bG:=aP.obj bG;replace bJ:=aP.obj bJ;refine an ?_;refine K.call (C6 _ m bo (fF.ext b8) a6) ?_;rintro cn bR ⟨fg,bf⟩;obtain⟨et,ci,rfl,_⟩:=fg.form;have ca:=b8.trans bf;refine⟨bf,?_⟩;refine an ?_;refine K.call (aeE _ m bR (fF.ext ca) a6 bd.lim) ?_;rintro ky bW ⟨py,bc⟩;obtain⟨l5,jQ,rfl,_⟩:=py.form;have c0:=ca.trans bc;refine⟨bf.trans bc,?_⟩;replace bJ:=(bf.trans bc).obj bJ;refine an ?_;intro cj eo c5;have ee:Ext w cj:=eo.ext c0 (by omega);have afa:=au.size;have nj:=aP.size;have mC:=bf.size;refine an ?_;exact⟨⟨_,_,rfl,bp.low b8.size (bp.wr eo (by omega) (fg.ext bc)),bp.low ca.size (bp.wr eo (by omega) py)⟩,ee⟩
end Go.Proofs.R
end
section
namespace o
open Go
theorem V6{m:Model}{c:Nat}(h:c<fO m):∃bA:c<(b1 m).length,Au m c=((b1 m)[c].aZ,(b1 m)[c].ad):=by
 have bA:c<(b1 m).length:=h;exact⟨bA,by unfold Au;rw[List.getElem?_eq_getElem bA]⟩
end o
namespace Go.Proofs.R
open Go Go.RowKit bt
def agB:List Value:=[.slice none 0 0,.slice none 0 0,.slice none 0 0,.slice none 0 0,.slice none 0 0,.slice none 0 0,.slice none 0 0,.slice none 0 0,.int .i64 0,.slice none 0 0,.slice none 0 0,.slice none 0 0,.slice none 0 0]
theorem aeg(cs:List Value)(m:o.Model)(w:World)(h:o.ew w cs m)(a6:m.cT) :
  bq Tryz.prog F.CD #[.agg cs.toArray] w fun u w'=>((¬(o.check m).dh=0∧u = .tuple #[.agg agB.toArray,.bool false])∨((o.check m).dh=0∧∃qP,u = .tuple #[.agg qP.toArray,.bool true]∧nt w' qP m))∧Ext w w':=by
 have fF:=h;obtain⟨cv,bN,b9,c1,cq,c2,cm,bK,cw,bQ,rfl,_⟩:=h.form;refine bI E.CD ?_;refine bF ?_;refine an ?_;intro w1 bz cK az al;refine an ?_;intro aR b4 dw aA aI;have z2:=cL aI;have agG:=az.size;replace al:=aA.obj al;have bg:=az.trans aA;refine an ?_;refine K.call (Kx _ m aR (fF.ext bg) a6) ?_;rintro _ ba ⟨rfl,au⟩;replace al:=au.obj al;replace aI:=au.obj aI;have bO:=bg.trans au;unfold ui;refine an ?_;refine K.ki (v:=.int .i64 (o.check m).dh) rfl ?_;refine an ?_;refine K.cond (fun hk=>?_) (fun hk=>?_);rotate_left
 ·refine an ?_;intro bo ed bJ;refine an ?_;exact⟨.inl ⟨hk,bu⟩,ed.ext bO (by omega)⟩
 have bd:=o.pE hk;refine an ?_;intro bo aP;replace al:=aP.obj al;replace aI:=aP.obj aI;have b8:=bO.trans aP;refine an ?_;refine K.call (Ty _ m bo (fF.ext b8) a6 bd) ?_;rintro _ bR ⟨⟨ys,rfl,vZ⟩,bf⟩;have dF:=vZ.here;have ca:=b8.trans bf;refine⟨bf,?_⟩;refine an ?_;refine K.call (aed _ ys m bR (fF.ext ca) a6 bd dF) ?_;rintro _ bW ⟨⟨cn,ky,rfl,fg,py⟩,bc⟩;have c0:=ca.trans bc;replace aI:=(bf.trans bc).obj aI;obtain⟨jJ,d0,lC,d1,lD,d2,ma,d3,lE,d4,rfl,_⟩:=dF.form;obtain⟨et,ci,rfl,_⟩:=fg.form;obtain⟨l5,jQ,rfl,_⟩:=py.form;have nj:=aP.size;have afa:=au.size;have mC:=bf.size;have aj1:=cL aI;refine an ?_;intro cj eo c5;have ee:Ext w cj:=eo.ext c0 (by omega);have Y9:=((vZ.ext bc mC).wr eo (by omega)).here;refine an ?_;exact⟨.inr ⟨hk,_,rfl,_,_,_,_,rfl,fF.ext ee,Y9,bp.lz (enc:=o.cW.enc) (fun _=>rfl) (bp.wr eo (by omega) fg),bp.lz (enc:=o.Ref.enc) (fun _=>rfl) (bp.wr eo (by omega) py)⟩,ee⟩
theorem Kq(cs:List Value)(m:o.Model)(ref:Int)(q p k:Nat)(w:World)(h:nt w cs m)(de:o.gj m ref q p k) :
  bq Tryz.prog F.wY #[.agg cs.toArray,.int .i64 ref] w fun u w'=>(∃fw eD,u = .agg ((o.dE m p k).enc fw eD).toArray∧o.fA w fw (o.dE m p k).guard∧o.mH w eD (o.dE m p k).b6)∧Ext w w':=by
 obtain⟨hz,d0,fk,d1,gp,d2,gL,d3,h2,d4,cv,bN,b9,c1,cq,c2,cm,bK,cw,bQ,et,ci,l5,jQ,rfl,_,_,_,_,_,_,_,_,_,_,ai,bM,iA⟩:=h.form;have aF:=de.at_.ad;have aO:=de.at_.aO;have yF:=de.at_.hk;have sB:=de.at_.ip;obtain⟨r,rfl⟩:=Int.eq_ofNat_of_zero_le de.aZ;have bk:r<(o.refs m).length:=de.ad;have oP:(o.refs m)[r].inst=(q:Int):=de.at_.zv;have BK:(o.refs m)[r].cmd=(k:Int):=de.at_.zx;obtain⟨nv,rfl⟩:=iA.addr (by omega);obtain⟨ic,rfl⟩:=bM.addr (by omega);obtain⟨a3,rfl⟩:=ai.addr (by omega);obtain⟨nR,cr,dL,en,eJ,gX⟩:=ai.at p aO;obtain⟨adb,WC,rfl,ack⟩:=gX.form;obtain⟨ac,rfl⟩:=gX.addr (by omega);obtain⟨gy,fw,eD,hp,jB,ju⟩:=gX.at k yF;obtain⟨n3,kE,rfl,_⟩:=jB.form;obtain⟨zn,ya,rfl,_⟩:=ju.form;unfold o.dj.enc at en;unfold o.dD.enc at hp;refine bI E.wY ?_;refine bF ?_;refine an ?_;intro w1 b4 dw az aI;refine an ?_;intro aR cE fh aA bJ;have z4:=cL bJ;have agG:=az.size;replace aI:=aA.obj aI;have bg:=az.trans aA;have Zc:=iA.ext Flat.ext bg;refine an ?_;intro ba dz lV au cx;have HS:(o.refs m)[r].enc=[.int .i64 q,.int .i64 k]:=by unfold o.Ref.enc;rw[oP,BK]
 rw[HS] at cx;replace aI:=au.obj aI;replace bJ:=au.obj bJ;have bO:=bg.trans au;have Qb:=bM.ext Flat.ext bO;have uH:=en.ext bO;have QE:=hp.ext bO;clear Zc;refine an ?_;intro bo aP;replace aI:=aP.obj aI;replace bJ:=aP.obj bJ;replace cx:=aP.obj cx;replace Qb:=Qb.ext Flat.ext aP;replace uH:=uH.ext aP;replace QE:=QE.ext aP;refine an ?_;refine K.dr p (by rw[sB]) aO ?_;refine an ?_;intro bR ft yv;refine an ?_;have wh:=o.Hy aO yF;exact⟨⟨.slice n3 (o.dE m p k).guard.length kE,.slice zn (o.dE m p k).b6.length ya,by rw[wh];rfl,by rw[wh];exact jB,by rw[wh];exact ju⟩,ft.ext (bO.trans aP) (by omega)⟩
theorem Ks(cs:List Value)(v:Value)(m:o.Model)(s:List Int)(c:Nat)(w:World)(h:nt w cs m)(bd:o.eI m)(ay:fo w v s)(aQ:s.length=o.fO m)(av:c<m.aH.length) :
  bq Tryz.prog F.wZ #[.agg cs.toArray,v,.int .i64 c] w fun u w'=>fo w' u (o.chanOf m s c)∧Ext w w':=by
 obtain⟨hz,d0,fk,d1,gp,d2,gL,d3,h2,d4,cv,bN,b9,c1,cq,c2,cm,bK,cw,bQ,et,ci,l5,jQ,rfl,_,_,gM,fl,fD,hc,jF,aj,h1,U,ai,bM,iA⟩:=h.form;obtain⟨eP,ff,rfl,fH⟩:=ay.form;obtain⟨lf,eZ⟩:=o.vH av;have ho:=(bd.chan _ (List.getElem_mem av)).cap;have yP:=o.qa av;have gy:=o.oA av;have nD:o.fO m≤64:=o.l3 bd;obtain⟨dy,rfl⟩:=fl.addr (by omega);obtain⟨vz,rfl⟩:=U.addr (by omega);have eu:=(U.at c av).cells;refine bI E.wZ ?_;refine bF ?_;refine an ?_;intro w1 bZ fG az bG;have Kp:=fl.ext Flat.ext az;replace eu:=eu.ext az;have fv:=ay.ext Flat.ext az;refine an ?_;refine K.Ga (k:=.i64) (k':=.i64) (o.cU m c) (o.cU m c+(1+o.jj m c)) fv (by simp[fr,cb,eZ]) (by simp[fr,cb,eZ];omega) (by omega) (by omega) fun aq lR aO=>?_;refine an ?_;refine⟨?_,az⟩;rw[show o.cU m c+(1+o.jj m c) - o.cU m c=1+o.jj m c from by omega] at aO ⊢;exact aO
theorem F6(cs:List Value)(v:Value)(m:o.Model)(s:List Int)(c:Nat)(x n:Int)(w:World)(h:nt w cs m)(bd:o.eI m)(ay:fo w v s)(aQ:s.length=o.fO m)(aw:x=c)(av:c<o.fO m) :
  bq Tryz.prog F.uV #[.agg cs.toArray,v,.int .i64 x,.int .i64 n] w fun u w'=>((o.putAt m s c n=none∧u = .tuple #[.slice none 0 0,.bool false])∨(∃t pQ,o.putAt m s c n=some t∧u = .tuple #[pQ,.bool true]∧mK w.heap.size w' pQ t))∧Ext w w':=by
 subst aw;obtain⟨hz,d0,fk,d1,gp,d2,gL,d3,h2,d4,cv,bN,b9,c1,cq,c2,cm,bK,cw,bQ,et,ci,l5,jQ,rfl,_,_,gM,fl,fD,hc,jF,aj,h1,U,ai,bM,iA⟩:=h.form;obtain⟨eP,ff,rfl,fH⟩:=ay.form;obtain⟨eU,rb⟩:=o.V6 av;have f2:=o.Su m;have f3:=o.Ss m;have yH:(o.b1 m).length=o.fO m:=rfl;have dT:(o.layout m).aZ[c]'(by omega)=(o.b1 m)[c].aZ:=o.St _ eU;have er:(o.layout m).ad[c]'(by omega)=(o.b1 m)[c].ad:=o.Sr _ eU;have nD:o.fO m≤64:=o.l3 bd;obtain⟨a3,rfl⟩:=hc.addr (by omega);obtain⟨a4,rfl⟩:=jF.addr (by omega);refine bI E.uV ?_;refine bF ?_;refine an ?_;intro w1 cE fh az bJ;have C1:=hc.ext Flat.ext az;have ajn:=jF.ext Flat.ext az;refine an ?_;apply K.cond<;>intro g1
 ·refine an ?_;exact⟨.inl ⟨by unfold o.putAt;rw[rb,if_pos (.inl (by simp only;omega))],bu⟩,az⟩
 refine an ?_;apply K.cond<;>intro g2
 ·refine an ?_;exact⟨.inl ⟨by unfold o.putAt;rw[rb,if_pos (.inr (by simp only;omega))],bu⟩,az⟩
 refine an ?_;refine K.call (Tu _ s c n _ (ay.ext Flat.ext az) rfl (by omega) (by omega)) ?_;rintro u aR ⟨ej,aA⟩;refine an ?_;exact⟨.inr ⟨_,_,by unfold o.putAt;rw[rb,if_neg (by simp only;omega)],rfl,bp.low az.size ej⟩,az.trans aA⟩
theorem KB(cs:List Value)(v kX:Value)(m:o.Model)(s l:List Int)(c:Nat)(w:World)(h:nt w cs m)(bd:o.eI m)(ay:fo w v s)(aN:fo w kX l)(aQ:s.length=o.fO m)(av:c<m.aH.length)(ps:l.length=1+o.jj m c) :
  bq Tryz.prog F.w2 #[.agg cs.toArray,v,.int .i64 c,kX] w fun u w'=>mK w.heap.size w' u (o.jC s (o.cU m c) l)∧Ext w w':=by
 obtain⟨hz,d0,fk,d1,gp,d2,gL,d3,h2,d4,cv,bN,b9,c1,cq,c2,cm,bK,cw,bQ,et,ci,l5,jQ,rfl,_,_,gM,fl,fD,hc,jF,aj,h1,U,ai,bM,iA⟩:=h.form;obtain⟨eP,ff,rfl,fH⟩:=ay.form;obtain⟨on,ag2,rfl,aiX⟩:=aN.form;obtain⟨lf,eZ⟩:=o.vH av;have yP:=o.qa av;have nD:o.fO m≤64:=o.l3 bd;obtain⟨dy,rfl⟩:=fl.addr (by omega);refine bI E.w2 ?_;refine bF ?_;refine an ?_;intro w1 cE fh az bJ;have Kp:=fl.ext Flat.ext az;have fv:=ay.ext Flat.ext az;have uG:=aN.ext Flat.ext az;refine an ?_;intro aR aA;have dS:=fv.ext Flat.ext aA;have jt:=uG.ext Flat.ext aA;have bg:=az.trans aA;refine an ?_;refine K.aft (k:=.i64) (o.cU m c) dS (by simp[fr,cb,eZ]) (by omega) fun ai3 agY eC=>?_;refine an ?_;refine K.Uc (k:=.i64) (o.cU m c+l.length) dS (by simp[fr,cb,eZ]) (by omega) fun ai4 fZ kj=>?_;refine an ?_;intro ba bZ fG au bG;have eM:mK aR.heap.size ba (.slice (some ⟨bZ,0,none⟩) 0 0) []:=bp.empty fG bG;have tl:(s.take (o.cU m c)).length≤64:=by rw[List.length_take];omega
 have dl:(s.drop (o.cU m c+l.length)).length≤64:=by rw[List.length_drop];omega
 refine an ?_;refine K.Ap eM (eC.ext Flat.ext au) (fun _=>rfl) kG (by simp only[List.length_nil];omega) (by simp only[List.length_nil];unfold maxLen;omega) au.size fun v4 bo ev mw=>?_;have dN:Ext aR bo:=au.grown mw fun i ad=>(eM.lt i ad).1;rw[List.nil_append] at ev;obtain⟨gr,Gp,rfl,_⟩:=ev.form;refine an ?_;refine K.Ap ev (jt.ext Flat.ext dN) (fun _=>rfl) kG (by omega) (by unfold maxLen;omega) dN.size fun v5 bR ek iC=>?_;have h6:Ext aR bR:=dN.grown iC fun i ad=>(ev.lt i ad).1;obtain⟨oY,ajq,rfl,_⟩:=ek.form;refine an ?_;refine K.Ap ek (kj.ext Flat.ext h6) (fun _=>rfl) kG (by rw[List.length_append];omega) (by rw[List.length_append];unfold maxLen;omega) h6.size fun v6 bW dn iU=>?_;have j7:Ext aR bW:=h6.grown iU fun i ad=>(ek.lt i ad).1;obtain⟨rH,ajr,rfl,_⟩:=dn.form;refine an ?_;exact⟨bp.low bg.size dn,bg.trans j7⟩
end Go.Proofs.R
end
section
namespace o
open Go
theorem OP{m:Model}{i:Nat}(h:i<m.aH.length):cU m (i+1)=cU m i+(1+jj m i):=by rw[Wu h,oA h]
theorem Hn{m:Model}:∀(d i:Nat),i+d≤m.aH.length→cU m i≤cU m (i+d)
 | 0,_,_=>Nat.le_refl _
 | d+1,i,h=>by
  have:=Hn (m:=m) d i (by omega)
  have:=OP (m:=m) (i:=i+d) (by omega)
  rw[←Nat.add_assoc];omega
theorem OO{m:Model}{i j:Nat}(Fj:i<j)(aT:j<m.aH.length):cU m i+(1+jj m i)≤cU m j:=by
 have h1:=OP (m:=m) (i:=i) (by omega);have U:=Hn (m:=m) (j - (i+1)) (i+1) (by omega);rw[show i+1+(j - (i+1))=j from by omega] at U;omega
theorem Wt(m:Model)(i:Nat)(h:i≤m.aH.length):total (cF m)≤cU m i:=by
 have:=Hn (m:=m) i 0 (by omega)
 rw[Nat.zero_add,Wv] at this;exact this
theorem acg{m:Model}{i j:Nat}(ad:i<m.aH.length)(aT:j<(k3 m.scalars m.aH[i]).length):∃h:cU m i+j<(b1 m).length,(b1 m)[cU m i+j].aZ=(k3 m.scalars m.aH[i])[j].aZ∧(b1 m)[cU m i+j].ad=(k3 m.scalars m.aH[i])[j].ad:=by
 have hw:i<(c7 m).length:=by simpa[c7] using ad
 have e:(c7 m)[i]=k3 m.scalars m.aH[i]:=by simp[c7]
 have hk:j<(c7 m)[i].length:=by rw[e];exact aT
 have h1:=Ht 2 (c7 m) 0 i j hw hk;have nN:=x9 ad;rw[r7] at aT;have U:=acf (m:=m) (c:=cU m i+j) (by unfold cU;omega) (by omega);rw[show cU m i+j - total (cF m)=total ((c7 m).take i)+j from by unfold cU;omega,h1] at U;obtain⟨ai,aL⟩:=List.getElem?_eq_some_iff.1 U;refine⟨ai,?_,?_⟩
 ·rw[aL];simp only[e]
 ·rw[aL];simp only[e]
theorem Yt{m:Model}{s:List Int}{c:Nat}{n:Int}(aJ:Fits m s)(bk:c<total (cF m)∨total (cF m)+total (c7 m)≤c)(aD:∀h:c<(b1 m).length,(b1 m)[c].aZ≤n∧n≤(b1 m)[c].ad):Fits m (s.set c n):=by
 refine⟨by rw[List.length_set];exact aJ.len,fun i ad=>?_,fun j aT ef=>?_⟩
 ·have h1:=x9 ad;have U:=Wt m i (by omega)
  have:nA m i m.aH[i] (s.set c n)=nA m i m.aH[i] s:=Ud fun k hk=>List.getElem?_set_ne (by omega)
  rw[this];exact aJ.queue i ad
 ·rw[List.getElem_set];split
  ·rename_i e;subst e;exact aD ef
  ·exact aJ.cell j (by rw[List.length_set] at aT;exact aT) ef
theorem ad7{s:List Scalar}{c:c4}{l:List Int}(ho:1≤c.cap)(h:lL s c l){j:Nat}(aT:j<(k3 s c).length):∃x,l[j]? = some x∧(k3 s c)[j].aZ≤x∧x≤(k3 s c)[j].ad:=by
 obtain⟨n,aj,h1,U,ai⟩:=h;cases j with
 | zero=>exact⟨n,aj,h1,U⟩
 | succ k =>
  rw[r7] at aT;obtain⟨x,aw,br,aD⟩:=ai k (by omega);refine⟨x,aw,?_⟩;have e:(k3 s c)[k+1]'(by rw[r7];omega)=jl s c:=by simp[k3]
  rw[e];unfold jl;unfold eK at br ⊢;by_cases aN:(k:Int)<n
  ·have:=br aN
   split at this<;>rename_i ay
   ·rw[if_pos ay];simp only at this ⊢;omega
   ·rw[if_neg ay];exact this
  ·have:=aD (by omega)
   subst this;split
   ·simp only;omega
   ·simp only
    have:=size_le c.scalar s
    omega
theorem PT{m:Model}{s l:List Int}{i:Nat}(aJ:Fits m s)(ad:i<m.aH.length)(ho:1≤m.aH[i].cap)(aQ:l.length=1+jj m i)(aF:lL m.scalars m.aH[i] l):Fits m (jC s (cU m i) l):=by
 have yP:=qa ad;have nN:cU m i+l.length≤s.length:=by rw[aJ.len];omega
 have gy:=oA ad;refine⟨by rw[BW nN];exact aJ.len,fun j aT=>?_,fun x aw ru=>?_⟩
 ·by_cases e:j=i
  ·subst e
   have:nA m j m.aH[j] (jC s (cU m j) l)=l:=by
    apply List.ext_getElem?;intro k;unfold nA;rw[List.getElem?_take,List.getElem?_drop];split
    ·rw[BV nN,if_pos ⟨by omega,by omega⟩,show cU m j+k - cU m j=k from by omega]
    ·rw[List.getElem?_eq_none (by omega)]
   rw[this];exact aF
  ·have wq:=oA aT
   have:nA m j m.aH[j] (jC s (cU m i) l)=nA m j m.aH[j] s:=Ud fun k hk=>by
    rw[BV nN,if_neg];rcases Nat.lt_or_gt_of_ne e with h | h
    ·have:=OO h ad;omega
    ·have:=OO h aT;omega
   rw[this];exact aJ.queue j aT
 ·have hK:x<s.length:=by rw[BW nN] at aw;exact aw
  have a6:=BV nN x;rw[List.getElem?_eq_getElem aw] at a6;by_cases fs:cU m i≤x∧x<cU m i+l.length
  ·rw[if_pos fs] at a6;have Q4:x - cU m i<(k3 m.scalars m.aH[i]).length:=by rw[r7];omega
   obtain⟨y,cB,bz,b4⟩:=ad7 ho aF Q4;obtain⟨ai,aL,bn⟩:=acg ad Q4;rw[cB] at a6;have e:x=cU m i+(x - cU m i):=by omega
   have nP:(b1 m)[x]=(b1 m)[cU m i+(x - cU m i)]:=by congr 1
   injection a6 with a6
   rw[a6,nP,aL,bn];exact⟨bz,b4⟩
  ·rw[if_neg fs,List.getElem?_eq_getElem hK] at a6;injection a6 with a6
   rw[a6];exact aJ.cell x hK ru
theorem adH{n:Nat}{l:List Int}{k:Nat}(hk:k+1<n):(s6 n l)[k+1]? = some (l.getD k 0):=by
 unfold s6;rw[List.getElem?_cons_succ,List.getElem?_map,List.getElem?_range (by omega)];rfl
theorem Ta{s:List Scalar}{c:c4}{l:List Int}(ho:1≤c.cap)(aQ:(l.length:Int)≤c.cap)(aD:∀x∈l,(eK c.scalar c.aZ c.ad s).aZ≤x∧x≤(eK c.scalar c.aZ c.ad s).ad):lL s c (s6 (1+c.cap.toNat) l):=by
 refine⟨l.length,rfl,by omega,aQ,fun k hk=>⟨l.getD k 0,adH (by omega),fun oK=>?_,fun oK=>?_⟩⟩
 ·have rl:k<l.length:=by omega
  have e:l.getD k 0=l[k]:=by simp[rl]
  rw[e];exact aD _ (List.getElem_mem rl)
 ·simp[List.getD,List.getElem?_eq_none (show l.length≤k by omega)]
theorem Tj{s:List Scalar}{c:c4}{l:List Int}(aQ:l.length=1+c.cap.toNat)(ho:1≤c.cap)(h:lL s c l):kR l=true∧((kq l).length:Int)≤c.cap∧l.headD 0=(kq l).length∧∀x∈kq l,(eK c.scalar c.aZ c.ad s).aZ≤x∧x≤(eK c.scalar c.aZ c.ad s).ad:=by
 obtain⟨n,aj,h1,U,ai⟩:=h;obtain⟨a,r,rfl⟩:∃a r,l=a :: r:=by
  cases l with
  | nil=>simp at aQ;omega
  | cons a r=>exact⟨a,r,rfl⟩
 simp only[List.getElem?_cons_zero,Option.some.injEq] at aj;subst aj;simp only[List.length_cons] at aQ;have aF:kR (a :: r)=true:=by
  simp only[kR,Bool.and_eq_true,decide_eq_true_eq,List.all_eq_true];refine⟨⟨h1,by omega⟩,fun x aw=>?_⟩;obtain⟨k,hk,rfl⟩:=List.mem_iff_getElem.1 aw;rw[List.length_drop] at hk;rw[List.getElem_drop];obtain⟨x,aw,_,bU⟩:=ai (a.toNat+k) (by omega);rw[List.getElem?_cons_succ,List.getElem?_eq_getElem (by omega)] at aw;injection aw with aw
  rw[aw];exact bU (by omega)
 have ad:kq (a :: r)=r.take a.toNat:=by
  unfold kq;rw[if_pos aF];rfl
 rw[ad];refine⟨aF,by rw[List.length_take];omega,by rw[List.length_take];simp;omega,fun x aw=>?_⟩;obtain⟨k,hk,rfl⟩:=List.mem_iff_getElem.1 aw;rw[List.length_take] at hk;rw[List.getElem_take];obtain⟨x,aw,aD,_⟩:=ai k (by omega);rw[List.getElem?_cons_succ,List.getElem?_eq_getElem (by omega)] at aw;injection aw with aw
 rw[aw];exact aD (by omega)
theorem adZ{s:List Scalar}{c:c4}{l r:List Int}{v:Int}(aQ:l.length=1+c.cap.toNat)(ho:1≤c.cap)(h:lL s c l)(aU:(eK c.scalar c.aZ c.ad s).aZ≤v∧v≤(eK c.scalar c.aZ c.ad s).ad)(aO:oV l v=some r):lL s c r:=by
 obtain⟨h1,U,ai,aL⟩:=Tj aQ ho h;unfold oV at aO;split at aO
 ·rename_i df;injection aO with aO
  subst aO;rw[aQ];refine Ta ho ?_ fun x aw=>?_
  ·have:=df.2
   rw[ai,aQ] at this;rw[List.length_append,List.length_singleton];omega
  ·rcases List.mem_append.1 aw with aw | aw
   ·exact aL x aw
   ·rw[List.mem_singleton] at aw;subst aw;exact aU
 ·cases aO
theorem afT{s:List Scalar}{c:c4}{l r:List Int}{v:Int}(aQ:l.length=1+c.cap.toNat)(ho:1≤c.cap)(h:lL s c l)(aO:qM l=some (r,v)):lL s c r:=by
 obtain⟨h1,U,ai,aL⟩:=Tj aQ ho h;unfold qM at aO;split at aO
 ·cases aO
 ·rename_i x q aF;injection aO with aO
  injection aO with bT bg
  subst bT;rw[aQ];rw[aF] at U aL;exact Ta ho (by simp only[List.length_cons] at U;omega) fun y cB=>aL y (List.mem_cons_of_mem _ cB)
theorem F0{m:Model}{s t:List Int}{c:Nat}{n:Int}(aJ:Fits m s)(bk:c<total (cF m)∨total (cF m)+total (c7 m)≤c)(h:putAt m s c n=some t):Fits m t:=by
 have e:=CV h;subst e;refine Yt aJ bk fun av=>?_;unfold putAt Au at h;rw[List.getElem?_eq_getElem av] at h;simp only at h;split at h
 ·cases h
 ·omega
theorem SD{m:Model}{q:Nat}(j:Nat):total (cF m)+total (c7 m)≤dG m q+j:=by unfold dG;omega
theorem Vz{m:Model}(bd:eI m){s t:List Int}{q p:Nat}{a:Act}(aF:h8 m q p)(br:pS (inner (m.procs[p]'(aF.aO)) (fI m)) a)(aJ:Fits m s)(h:lP m s q a=some t):Fits m t:=by
 have Bt:=br.kind;unfold lP at h;by_cases bn:a.kind=5
 ·rw[if_pos bn] at h;have av:a.to.toNat<m.aH.length:=(br.chan (.inr bn)).2;have ho:=(bd.chan _ (List.getElem_mem av)).cap.1;have eU:(chanOf m s a.to.toNat).length=1+m.aH[a.to.toNat].cap.toNat:=by rw[tY (by rw[aJ.len];exact qa av),oA av]
  unfold zs at h;cases aO:qM (chanOf m s a.to.toNat) with
  | none=>rw[aO] at h;cases h
  | some KC =>
   obtain⟨r,n⟩:=KC;rw[aO] at h;have BI:=aJ.queue _ av;have e:chanOf m s a.to.toNat=nA m a.to.toNat m.aH[a.to.toNat] s:=by unfold chanOf nA;rw[oA av]
   rw[←e] at BI;have By:=KY aO;have h1:=PT aJ av ho (by rw[By,eU,oA av]) (afT eU ho BI aO);exact F0 h1 (.inr (by rw[Nat.add_assoc];exact SD _)) h
 rw[if_neg bn] at h;by_cases he:(eval a.value (dK m s q)).2≠0
 ·rw[if_pos he] at h;cases h
 rw[if_neg he] at h;by_cases h1:a.kind=1
 ·rw[if_pos h1] at h;obtain⟨_,v,aU,jV⟩:=br.set h1;obtain⟨jW,fW⟩:=List.getElem?_eq_some_iff.1 aU;have Jw:a.to.toNat<m.vars.length:=jW;have nN:=xn Jw
  have:cells m.vars[a.to.toNat] m.scalars=1:=by
   have Jx:m.vars[a.to.toNat]=v:=fW;rw[Jx];unfold cells;rw[if_pos jV]
  exact F0 aJ (.inl (by rw[this] at nN;omega)) h
 rw[if_neg h1] at h;by_cases U:a.kind=2
 ·rw[if_pos U] at h;have jW:a.to.toNat<m.vars.length:=(br.item U).2.1;have nN:=xn jW;have By:=y3 jW;unfold yV at h;split at h
  ·cases h
  ·rename_i aN;exact F0 aJ (.inl (by omega)) h
 rw[if_neg U] at h;by_cases ai:a.kind=3
 ·rw[if_pos ai] at h;exact F0 aJ (.inr (by rw[Nat.add_assoc];exact SD _)) h
 rw[if_neg ai] at h;have aL:a.kind=4:=by omega
 have av:a.to.toNat<m.aH.length:=(br.chan (.inl aL)).2;have ho:=(bd.chan _ (List.getElem_mem av)).cap.1;have eU:(chanOf m s a.to.toNat).length=1+m.aH[a.to.toNat].cap.toNat:=by rw[tY (by rw[aJ.len];exact qa av),oA av]
 have rb:tW m a.to.toNat=eK m.aH[a.to.toNat].scalar m.aH[a.to.toNat].aZ m.aH[a.to.toNat].ad m.scalars:=by unfold tW;rw[List.getElem?_eq_getElem av]
 unfold xg at h;rw[rb] at h;split at h
 ·cases h
 ·rename_i aN;cases aO:oV (chanOf m s a.to.toNat) (eval a.value (dK m s q)).1 with
  | none=>rw[aO] at h;cases h
  | some r =>
   rw[aO] at h;have e:jC s (cU m a.to.toNat) r=t:=by injection h
   rw[←e];have BI:=aJ.queue _ av;have bg:chanOf m s a.to.toNat=nA m a.to.toNat m.aH[a.to.toNat] s:=by unfold chanOf nA;rw[oA av]
   rw[←bg] at BI;have By:=Kl aO;exact PT aJ av ho (by rw[By,eU,oA av]) (adZ eU ho BI (by omega) aO)
end o
end
section
set_option linter.unusedSimpArgs false
end
section
set_option linter.unusedSimpArgs false
namespace o
open Go Go.RowKit bt
structure Env.ok(v:Env):Prop where
 vars:∀l∈v.vars,∀z∈l,ep z
 lens:∀z∈v.lens,ep z
 locals:∀z∈v.locals,ep z
 at_:∀l∈v.at_,∀z∈l,ep z
 self:ep v.self
end o
end
section
set_option linter.unusedSimpArgs false
namespace Go.Proofs.R
open Go Go.RowKit bt
theorem F2(v:Value)(l:List Int)(n:Int)(w:World)(aQ:oi w v l):bq Tryz.prog F.uU #[v,.int .i64 n] w fun v w'=>v = .tuple #[.int .i64 (o.j3 l n).1,.bool (decide ((o.j3 l n).2=0))]∧Ext w w':=by
 obtain⟨bh,cap,rfl,hlen⟩:=aQ.form;refine bI E.uU ?_;refine bF ?_;refine aG ?_;apply K.cond<;>intro g1
 ·refine aG ?_;rw[o.j3,o.gK (.inl g1)];exact cd
 refine aG ?_;apply K.cond<;>intro g2
 ·refine aG ?_;rw[o.j3,o.gK (.inr (by omega))];exact cd
 obtain⟨i,rfl⟩:=Int.eq_ofNat_of_zero_le (show 0≤n by omega);obtain⟨a,rfl⟩:=aQ.addr (by omega);refine aG ?_;rw[o.j3,o.h0 (by omega) (by omega)];simp only[Int.toNat_natCast];exact cd
theorem agm(l:List Int)(n:Int):(o.j3 l n).2=0∨o.j3 l n=(0,8):=by
 unfold o.j3;split
 ·exact .inl rfl
 ·exact .inr rfl
theorem xm(b:Bool)(w:World):bq Tryz.prog F.qy #[.bool b] w fun v w'=>v = .int .i64 (o.bit b)∧w'=w:=by
 refine bI E.qy ?_;refine bF ?_;refine aG ?_;refine K.cX (fun h=>?_) (fun h=>?_)
 all_goals
  subst h;refine aG ?_;exact⟨rfl,trivial⟩
theorem KI(n:Int)(w:World):bq Tryz.prog F.wP #[.int .i64 n] w fun v w'=>v = .bool (o.within n)∧w'=w:=by
 refine bI E.wP ?_;refine bF ?_
 (repeat' (refine aG ?_;first | (refine K.cond (fun _=>?_) (fun _=>?_)<;>try (exfalso;omega)) | refine K.cX (fun _=>?_) (fun _=>?_)))<;>try refine aG ?_
 all_goals
  refine⟨?_,bu⟩;congr 1
  first | (rw[Bool.eq_iff_iff];simp[o.within];omega) | (simp[o.within];omega)
theorem K4(a b n:Int)(w:World):bq Tryz.prog F.wO #[.int .i64 a,.int .i64 b,.int .i64 n] w
  fun v w'=>v = .tuple #[.int .i64 (if o.within a&&o.within b&&o.within n then n else 0),.bool (o.within a&&o.within b&&o.within n)]∧w'=w:=by
 refine bI E.wO ?_;refine bF ?_;refine aG ?_;refine K.call (KI a w) ?_;rintro _ _ ⟨rfl,rfl⟩;refine aG ?_;cases h1:o.within a with
 | false =>
  refine aG ?_;exact⟨by simp,trivial⟩
 | true =>
  refine aG ?_;refine K.call (KI b _) ?_;rintro _ _ ⟨rfl,rfl⟩;refine aG ?_;cases U:o.within b with
  | false =>
   refine aG ?_;exact⟨by simp,trivial⟩
  | true =>
   refine aG ?_;refine K.call (KI n _) ?_;rintro _ _ ⟨rfl,rfl⟩;refine aG ?_;cases ai:o.within n with
   | false =>
    refine aG ?_;exact⟨by simp,trivial⟩
   | true =>
    refine aG ?_;exact⟨by simp,trivial⟩
theorem K5(f:Int→Int→Int)(a b n:Int)(h:o.within a=true→o.within b=true→n=f a b) :
  (if (o.within a&&o.within b&&o.within n)=true then n else 0)=(o.tell f a b).1∧(o.within a&&o.within b&&o.within n)=(o.tell f a b).2:=by
 unfold o.tell;cases h1:o.within a with
 | false=>simp
 | true =>
  cases U:o.within b with
  | false=>simp
  | true =>
   rw[h h1 U];cases ai:o.within (f a b)<;>simp
theorem ael:qR F.B1 (o.tell (· + ·)):=by
 intro a b w;refine bI E.B1 ?_;refine bF ?_;refine aG ?_;refine K.GB ?_;refine aG ?_;refine K.call (K4 a b _ w) ?_;rintro _ _ ⟨rfl,rfl⟩;obtain⟨h1,U⟩:=K5 (· + ·) a b (IntKind.i64.wrap (a+b)) (fun h1 U=>by simp[o.within] at h1 U;exact IntWalk.i64_in _ (by omega));rw[h1,U];refine aG ?_;exact cd
theorem TQ:qR F.y4 (o.tell (· - ·)):=by
 intro a b w;refine bI E.y4 ?_;refine bF ?_;refine aG ?_;refine K.GB ?_;refine aG ?_;refine K.call (K4 a b _ w) ?_;rintro _ _ ⟨rfl,rfl⟩;obtain⟨h1,U⟩:=K5 (· - ·) a b (IntKind.i64.wrap (a - b)) (fun h1 U=>by simp[o.within] at h1 U;exact IntWalk.i64_in _ (by omega));rw[h1,U];refine aG ?_;exact cd
theorem aeQ:qR F.B2 (o.tell (· * ·)):=by
 intro a b w;refine bI E.B2 ?_;refine bF ?_;refine aG ?_;refine K.GB ?_;refine aG ?_;refine K.call (K4 a b _ w) ?_;rintro _ _ ⟨rfl,rfl⟩;obtain⟨h1,U⟩:=K5 (· * ·) a b (IntKind.i64.wrap (a*b)) (fun h1 U=>by simp[o.within] at h1 U;have:=SM h1 U;exact IntWalk.i64_in _ (by omega));rw[h1,U];refine aG ?_;exact cd
def o3(op a b:Int):Int×Int:=match o.gn op with | some aq=>o.Lc aq [a,b] | none=>(0,0)
theorem aeo(op a b:Int)(w:World)(ko:11≤op∧op≤19) :
  bq Tryz.prog F.B5 #[.int .i64 op,.int .i64 a,.int .i64 b] w fun v w'=>v = .tuple #[.int .i64 (o3 op a b).1,.int .i64 (o3 op a b).2]∧Ext w w':=by
 have num:∀f:Int→Int→Int×Bool,(if (f a b).2=true then ((f a b).1,(0:Int)) else (0,10))=(let r:=f a b;if r.2=true then (r.1,0) else (0,10)):=fun _=>rfl;have av:op=11∨op=12∨op=13∨op=14∨op=15∨op=16∨op=17∨op=18∨op=19:=by omega
 refine bI E.B5 ?_;refine bF ?_;rcases av with e | e | e | e | e | e | e | e | e
 ·have key:o3 op a b=if (o.tell (· + ·) a b).2=true then ((o.tell (· + ·) a b).1,0) else (0,10):=by subst e;rfl
  rw[key];refine aG ?_;refine K.call (ael a b w) ?_;rintro _ w1 ⟨rfl,az⟩;refine aG ?_;refine K.cX (fun h=>?_) (fun h=>?_)
  all_goals
   refine aG ?_;rw[h];exact cd
 ·have key:o3 op a b=if (o.tell (· - ·) a b).2=true then ((o.tell (· - ·) a b).1,0) else (0,10):=by subst e;rfl
  rw[key];refine aG ?_;refine K.call (TQ a b w) ?_;rintro _ w1 ⟨rfl,az⟩;refine aG ?_;refine K.cX (fun h=>?_) (fun h=>?_)
  all_goals
   refine aG ?_;rw[h];exact cd
 ·have key:o3 op a b=if (o.tell (· * ·) a b).2=true then ((o.tell (· * ·) a b).1,0) else (0,10):=by subst e;rfl
  rw[key];refine aG ?_;refine K.call (aeQ a b w) ?_;rintro _ w1 ⟨rfl,az⟩;refine aG ?_;refine K.cX (fun h=>?_) (fun h=>?_)
  all_goals
   refine aG ?_;rw[h];exact cd
 ·have key:o3 op a b=(o.bit (decide (a=b)),0):=by subst e;rfl
  rw[key];refine aG ?_;refine K.call (xm _ w) ?_;rintro _ _ ⟨rfl,rfl⟩;refine aG ?_;exact cd
 ·have key:o3 op a b=(o.bit (!decide (a=b)),0):=by subst e;rfl
  rw[key];refine aG ?_;refine K.call (xm _ w) ?_;rintro _ _ ⟨rfl,rfl⟩;refine aG ?_;exact cd
 ·have key:o3 op a b=(o.bit (decide (a<b)),0):=by subst e;rfl
  rw[key];refine aG ?_;refine K.call (xm _ w) ?_;rintro _ _ ⟨rfl,rfl⟩;refine aG ?_;exact cd
 ·have key:o3 op a b=(o.bit (decide (a≤b)),0):=by subst e;rfl
  rw[key];refine aG ?_;refine K.call (xm _ w) ?_;rintro _ _ ⟨rfl,rfl⟩;refine aG ?_;exact cd
 ·have key:o3 op a b=(o.bit (!decide (a=0) && !decide (b=0)),0):=by subst e;rfl
  rw[key];refine aG ?_;refine K.cond (fun h1=>?_) (fun h1=>?_)
  all_goals
   refine aG ?_;refine K.call (xm _ w) ?_;rintro _ _ ⟨rfl,rfl⟩;refine aG ?_;refine⟨?_,fc⟩;simp[h1]
 ·have key:o3 op a b=(o.bit (!decide (a=0) || !decide (b=0)),0):=by subst e;rfl
  rw[key];refine aG ?_;refine K.cond (fun h1=>?_) (fun h1=>?_)
  all_goals
   refine aG ?_;refine K.call (xm _ w) ?_;rintro _ _ ⟨rfl,rfl⟩;refine aG ?_;refine⟨?_,fc⟩;simp[h1]
end Go.Proofs.R
end
section
set_option linter.unusedSimpArgs false
namespace Go.Proofs.R
open Go Go.RowKit bt
theorem Gv(l:List Int)(n:Int):(decide ((o.j3 l n).2=0)=true→o.j3 l n=((o.j3 l n).1,0))∧(decide ((o.j3 l n).2=0)=false→o.j3 l n=(0,8)):=by
 rcases agm l n with h | h
 ·exact⟨fun _=>Prod.ext rfl h,fun bA=>by simp[h] at bA⟩
 ·exact⟨fun bA=>by simp[h] at bA,fun _=>h⟩
theorem ae7(x:o.Node)(cs:List Value)(v:o.Env)(w:World)(aw:x.ok)(h:o.rS w cs v)(ai:x.op≠3)(t:Int) :
  bq Tryz.prog F.Ca #[.agg x.enc.toArray,.agg cs.toArray] w fun u w'=>u = .tuple #[.int .i64 (o.jc x v t).1,.int .i64 (o.jc x v t).2]∧Ext w w':=by
 obtain⟨a0,bN,dy,c1,a2,c2,a3,bK,rfl,qI,eb,dY,eg,gr,eG,dt,dB,dT⟩:=h.form;refine bI E.Ca ?_;refine bF ?_;refine aG ?_;refine K.new fun w1 bz cK az al=>?_;refine aG ?_;refine K.new fun aR b4 dw aA aI=>?_;have he:=az.trans aA;have eO:aR.heap[bz]? = some (.cells #[.int .i64 x.op,.int .i64 x.n] T.k):=aA.obj al;clear al;refine aG ?_;apply K.cond<;>intro g1
 ·have hk:o.jc x v t=if o.within x.n then (x.n,0) else (0,10):=by rw[o.jc,if_pos g1]
  (repeat' (refine aG ?_;first | (refine K.cond (fun _=>?_) (fun _=>?_)<;>try (exfalso;omega)) | refine K.cX (fun _=>?_) (fun _=>?_)))<;>try refine aG ?_
  all_goals
   refine⟨?_,fc⟩;rw[hk];unfold o.within;split<;>first | rfl | (rename_i df;simp at df;exfalso;omega)
 refine aG ?_;apply K.cond<;>intro g2
 ·by_cases H8:x.n<0∨(v.vars.length:Int)≤x.n
  ·have hk:o.jc x v t=(0,8):=by rw[o.jc,if_neg g1,if_pos g2,o.gK H8]
   rw[hk]
   (repeat' (refine aG ?_;first | (refine K.cond (fun _=>?_) (fun _=>?_)<;>try (exfalso;omega)) | refine K.cX (fun _=>?_) (fun _=>?_)))<;>try refine aG ?_
   all_goals exact cd
  obtain⟨i,ad⟩:=Int.eq_ofNat_of_zero_le (show 0≤x.n by omega);have pr:i<v.vars.length:=by omega
  obtain⟨a,rfl⟩:=qI.addr (by omega);obtain⟨cn,lf,oP⟩:=qI.at i pr;have aN:o.nth v.vars x.n=some v.vars[i]:=by rw[ad,o.h0 (by omega) (by omega)];simp only[Int.toNat_natCast]
  have hk:o.jc x v t=o.j3 v.vars[i] 0:=by rw[o.jc,if_neg g1,if_pos g2,aN]
  rw[hk];rw[ad] at eO;refine aG ?_;refine K.ld (he.cell lf) ?_;refine aG ?_;refine K.call (F2 _ v.vars[i] 0 aR (oP.ext he)) ?_;rintro _ ba ⟨rfl,au⟩;obtain⟨nm,mG⟩:=Gv v.vars[i] 0;refine aG ?_;refine K.cX (fun g=>?_) (fun g=>?_)
  ·refine aG ?_;rw[nm g];exact cd
  ·refine aG ?_;rw[mG g];exact cd
 refine aG ?_;apply K.cond<;>intro g4
 ·have hk:o.jc x v t=o.j3 v.locals x.n:=by rw[o.jc,if_neg g1,if_neg g2,if_neg ai,if_pos g4]
  rw[hk];refine aG ?_;refine K.call (F2 _ v.locals x.n aR (dY.ext he)) ?_;rintro _ ba ⟨rfl,au⟩;obtain⟨nm,mG⟩:=Gv v.locals x.n;refine aG ?_;refine K.cX (fun g=>?_) (fun g=>?_)
  ·refine aG ?_;rw[nm g];exact cd
  ·refine aG ?_;rw[mG g];exact cd
 refine aG ?_;apply K.cond<;>intro g5
 ·have hk:o.jc x v t=(v.self,0):=by rw[o.jc,if_neg g1,if_neg g2,if_neg ai,if_neg g4,if_neg (by omega),if_pos g5]
  rw[hk];refine aG ?_;exact cd
 refine aG ?_;apply K.cond<;>intro g6
 ·have hk:o.jc x v t=o.j3 v.lens x.n:=by rw[o.jc,if_neg g1,if_neg g2,if_neg ai,if_neg g4,if_pos g6]
  rw[hk];refine aG ?_;refine K.call (F2 _ v.lens x.n aR (eb.ext he)) ?_;rintro _ ba ⟨rfl,au⟩;obtain⟨nm,mG⟩:=Gv v.lens x.n;refine aG ?_;refine K.cX (fun g=>?_) (fun g=>?_)
  ·refine aG ?_;rw[nm g];exact cd
  ·refine aG ?_;rw[mG g];exact cd
 refine aG ?_;apply K.cond<;>intro g7;rotate_left
 ·have hk:o.jc x v t=(0,0):=by rw[o.jc,if_neg g1,if_neg g2,if_neg ai,if_neg g4,if_neg g6,if_neg g5,if_neg g7]
  rw[hk];refine aG ?_;exact cd
 have hk:o.jc x v t=if 0≤x.n then (match o.nth v.at_ (x.n.tdiv 16) with | some l=>o.j3 l (x.n.tmod 16) | none=>(0,8)) else (0,8):=by
  rw[o.jc,if_neg g1,if_neg g2,if_neg ai,if_neg g4,if_neg g6,if_neg g5,if_pos g7];split
  ·cases o.nth v.at_ (x.n.tdiv 16)<;>rfl
  ·rfl
 refine aG ?_;apply K.cond<;>intro g8
 ·rw[hk,if_neg (by omega)];refine aG ?_;exact cd
 rw[if_pos (by omega)] at hk;obtain⟨i,ad⟩:=Int.eq_ofNat_of_zero_le (show 0≤x.n by omega);obtain⟨_,hK⟩:=aw.n;rw[ad] at hK;have aF:x.n.tdiv 16=((i / 16:Nat):Int):=by rw[ad];rfl
 have ah3:x.n.tmod 16=((i % 16:Nat):Int):=by rw[ad];rfl
 refine aG ?_;refine K.quo (by omega) ?_;rw[aF];refine aG ?_;apply K.cond<;>intro g9
 ·rw[hk,o.gK (.inr (by omega))];refine aG ?_;exact cd
 have aT:i / 16<v.at_.length:=by omega
 obtain⟨a,rfl⟩:=eg.addr (by omega);obtain⟨cn,lf,oP⟩:=eg.at (i / 16) aT;rw[aF,o.h0 (by omega) (by omega)] at hk;simp only[Int.toNat_natCast] at hk;rw[hk];refine aG ?_;refine K.quo (by omega) ?_;rw[aF];refine aG ?_;refine K.ld (he.cell lf) ?_;refine aG ?_;refine K.rem (by omega) ?_;refine aG ?_;refine K.fX _ (fun w' e=>F2 _ v.at_[i / 16] _ w' (oP.ext (he.trans e))) ?_;obtain⟨nm,mG⟩:=Gv v.at_[i / 16] (x.n.tmod 16);refine aG ?_;intro ba au;refine aG ?_;refine K.cX (fun g=>?_) (fun g=>?_)
 ·refine aG ?_;rw[nm g];exact cd
 ·refine aG ?_;rw[mG g];exact cd
def qG(x:o.Node)(k:Int)(v:o.Env):Int×Int:=match o.gn x.op with | some aq=>o.Lc aq [k] | none=>o.jc x v k
theorem aeO(x:o.Node)(k:Int)(cs:List Value)(v:o.Env)(w:World)(h:o.rS w cs v)(ko:x.op=3∨x.op=9∨x.op=10) :
  bq Tryz.prog F.B6 #[.agg x.enc.toArray,.int .i64 k,.agg cs.toArray] w fun u w'=>u = .tuple #[.int .i64 (qG x k v).1,.int .i64 (qG x k v).2]∧Ext w w':=by
 obtain⟨a0,bN,dy,c1,a2,c2,a3,bK,rfl,qI,eb,dY,eg,gr,eG,dt,dB,dT⟩:=h.form;refine bI E.B6 ?_;refine bF ?_;refine aG ?_;refine K.new fun w1 bz cK az al=>?_;refine aG ?_;refine K.new fun aR b4 dw aA aI=>?_;have he:=az.trans aA;have eO:aR.heap[bz]? = some (.cells #[.int .i64 x.op,.int .i64 x.n] T.k):=aA.obj al;clear al;refine aG ?_;apply K.cond<;>intro g9
 ·have hk:qG x k v=(o.bit (decide (k=0)),0):=by rw[qG,g9];rfl
  rw[hk];refine aG ?_;refine K.call (xm _ aR) ?_;rintro _ _ ⟨rfl,rfl⟩;refine aG ?_;exact cd
 refine aG ?_;apply K.cond<;>intro g10
 ·have hk:qG x k v=if (o.tell (· - ·) 0 k).2=true then ((o.tell (· - ·) 0 k).1,0) else (0,10):=by rw[qG,g10];rfl
  rw[hk];refine aG ?_;refine K.call (TQ 0 k aR) ?_;rintro _ ba ⟨rfl,au⟩;refine aG ?_;refine K.cX (fun g=>?_) (fun g=>?_)
  all_goals
   refine aG ?_;rw[g];exact cd
 have g3:x.op=3:=by omega
 have Fk:qG x k v=o.jc x v k:=by rw[qG,show o.gn x.op=none from by rw[g3];rfl]
 have hk:qG x k v=(match o.nth v.vars x.n with | some l=>(match o.nth l (k - 1) with | some y=>(y,0) | none=>(0,10)) | none=>(0,8)):=by
  rw[Fk,o.jc,if_neg (by omega),if_neg (by omega),if_pos g3];cases o.nth v.vars x.n with
  | none=>rfl
  | some l=>simp only;cases o.nth l (k - 1)<;>rfl
 clear Fk;by_cases H8:x.n<0∨(v.vars.length:Int)≤x.n
 ·rw[o.gK H8] at hk;rw[hk]
  (repeat' (refine aG ?_;first | (refine K.cond (fun _=>?_) (fun _=>?_)<;>try (exfalso;omega)) | refine K.cX (fun _=>?_) (fun _=>?_)))<;>try refine aG ?_
  all_goals exact cd
 obtain⟨i,ad⟩:=Int.eq_ofNat_of_zero_le (show 0≤x.n by omega);have pr:i<v.vars.length:=by omega
 obtain⟨a,rfl⟩:=qI.addr (by omega);obtain⟨cn,lf,oP⟩:=qI.at i pr;obtain⟨et,ci,rfl,li⟩:=oP.form;rw[ad,o.h0 (by omega) (by omega)] at hk;simp only[Int.toNat_natCast] at hk;rw[ad] at eO;have im:=oP.ext he;generalize v.vars[i]=l at *;by_cases ahf:k<1∨(l.length:Int)<k
 ·rw[o.gK (by omega)] at hk;simp only at hk;rw[hk];by_cases ahg:k<1
  ·refine aG ?_;exact cd
  ·refine aG ?_;refine K.ld (he.cell lf) ?_;refine aG ?_;exact cd
 obtain⟨j,aT⟩:=Int.eq_ofNat_of_zero_le (show 0≤k - 1 by omega);have wv:j<l.length:=by omega
 rw[o.h0 (by omega) (by omega)] at hk;simp only[aT,Int.toNat_natCast] at hk;rw[hk];obtain⟨dq,rfl⟩:=oP.addr (by omega);refine aG ?_;refine K.ld (he.cell lf) ?_;refine aG ?_;refine K.ld (he.cell lf) ?_;refine aG ?_;refine K.dr j (by omega) (by omega) ?_;refine aG ?_;exact cd
end Go.Proofs.R
end
section
set_option linter.unusedSimpArgs false
namespace Go.Proofs.R
open Go Go.RowKit bt
theorem Yg{v:o.Env}{x:o.Node}{st:List Int}(h:o.e9 x.op=0):o.iz v x st=o.jc x v (st.getLastD 0):=by
 unfold o.iz;rw[(FV h).2.2.2]
theorem Yh{v:o.Env}{x:o.Node}{st:List Int}(h:o.e9 x.op=1)(aQ:1≤st.length):o.iz v x st=qG x st[st.length - 1] v:=by
 unfold o.iz qG;cases a8:o.gn x.op with
 | none=>simp only;rw[H7 st (by omega)]
 | some aq =>
  have:=(o.CP a8).1
  simp only;rw[show aq.parts.toNat=1 from by omega,HG aQ]
theorem Yi{v:o.Env}{x:o.Node}{st:List Int}(h:o.e9 x.op=2)(aQ:2≤st.length):o.iz v x st=o3 x.op st[st.length - 2] st[st.length - 1]:=by
 unfold o.iz o3;obtain⟨aq,a8,aO⟩:=S4 (show 9≤x.op∧x.op≤19 by have:=FW h;omega);rw[a8];simp only;rw[show aq.parts.toNat=2 from by omega,Pc aQ]
theorem Ky(hg:Value)(e:List o.Node)(cs:List Value)(v:o.Env)(w:World)(he:o.fA w hg e)(h:o.rS w cs v) :
  bq Tryz.prog F.wR #[hg,.agg cs.toArray] w fun u w'=>u = .tuple #[.int .i64 (o.eval e v).1,.int .i64 (o.eval e v).2]∧Ext w w':=by
 obtain⟨v0,v1,v2,v3,rfl,_⟩:=h.ex;obtain⟨bh,cap,rfl,hlen⟩:=he.form;refine bI E.wR ?_;refine bF ?_;refine aG ?_;refine K.new fun w1 c6 uI az al=>?_;refine aG ?_;apply K.cond<;>intro g1
 ·refine aG ?_;rw[o.eval,o.lx,if_pos (by omega)];exact cd
 refine aG ?_;apply K.cond<;>intro g2
 ·refine aG ?_;rw[o.eval,o.lx,if_neg (by omega),if_pos (by omega)];exact cd
 refine aG ?_;refine K.yn 7 e.length (fun k S w' => ∃u st,S 6=u∧kZ w1.heap.size w' u st∧o.gh (o.iz v) (e.take k) []=(0,st)∧(0<k→1≤st.length)∧st.length≤12∧Ext w1 w')
  (by simp -dsimp only[cI,cu,Nat.reduceAdd,Nat.reduceEqDiff,reduceIte,reduceCtorEq,cS]) ⟨.slice none 0 0,[],by simp -dsimp only[cI,cu,Nat.reduceAdd,Nat.reduceEqDiff,reduceIte,reduceCtorEq,cS],bp.nil _ _ _ _ _,by simp[o.gh],by simp,by simp,Ext.refl _⟩ ?_
 rintro k S aR ch hk b7 ⟨v6,st,bL,fB,gz,A2,po,aA⟩;have aj:=ch 0 rfl;have ai:=ch 3 rfl;simp only[cb,Nat.reduceAdd,Nat.reduceEqDiff,reduceIte,ij,k7] at aj ai;clear ch;obtain⟨qF,pf,rfl,dm,qp⟩:=fB.form;have ad:Ints aR _ st:=bp.o0 (enc:=encI) (sz:=1) (fun _=>rfl) fB;unfold maxLen at qp;refine cV (And.intro aj (And.intro ai (And.intro bL b7))) ?_;apply K.cond<;>intro g3;rotate_left
 ·have bb:k=e.length:=by omega
  subst bb;rw[List.take_length] at gz;have h1:=A2 (by omega);obtain⟨a,rfl⟩:=ad.addr h1;have e0:o.eval e v=if st.length > 1 then (0,5) else (st.headD 0,0):=by
   rw[o.eval,o.lx,if_neg (by omega),if_neg (by omega),gz,if_neg (by simp)]
  rw[e0];clear e0;refine cV (And.intro aj (And.intro ai (And.intro bL b7))) ?_;apply K.cond<;>intro g4
  ·refine aG ?_;rw[if_pos (by omega)];exact cd
  ·refine cV (And.intro aj (And.intro ai (And.intro bL b7))) ?_;refine K.dr 0 rfl (by omega) ?_;refine aG ?_;rw[if_neg (by omega)]
   have:st.headD 0=st[0]:=by
    cases st with
    | nil=>simp at h1
    | cons z st=>rfl
   rw[this];exact cd
 have bb:k<e.length:=by omega
 obtain⟨a,rfl⟩:=he.addr (by omega);have rv:=(he.at k bb).ok;have iX:=fun aj=>o.KG (f:=o.iz v) (e:=e) (by omega) bb gz aj;have rp:=o.C7 bb gz;have A0:=az.trans aA;have dS:=aA.obj al;refine cV (And.intro aj (And.intro ai (And.intro bL b7))) ?_;refine K.call (Ut e[k].op aR) ?_;rintro _ _ ⟨rfl,rfl⟩;generalize aN:o.e9 e[k].op=n at *;have jt : -1≤n∧n≤2:=by rw[←aN];unfold o.e9; (repeat' split)<;>omega
 refine cV (And.intro aj (And.intro ai (And.intro bL b7))) ?_;apply K.cond<;>intro g4
 ·have ay:o.stepG (o.iz v) e[k] st=(3,st):=by unfold o.stepG;rw[aN,if_pos g4]
  rw[ay] at iX;refine aG ?_;rw[o.eval,iX (by simp)];exact cd
 refine cV (And.intro aj (And.intro ai (And.intro bL b7))) ?_;apply K.cond<;>intro g5
 ·have ay:o.stepG (o.iz v) e[k] st=(4,st):=by unfold o.stepG;rw[aN,if_neg g4,if_pos g5]
  rw[ay] at iX;refine aG ?_;rw[o.eval,iX (by simp)];exact cd
 obtain⟨p,rfl⟩:=Int.eq_ofNat_of_zero_le (show 0≤n by omega);have ea:o.stepG (o.iz v) e[k] st=if (o.iz v e[k] st).2≠0 then ((o.iz v e[k] st).2,st) else if (st.take (st.length - p)++[(o.iz v e[k] st).1]).length > 12 then (12,st) else (0,st.take (st.length - p)++[(o.iz v e[k] st).1]):=by
  unfold o.stepG;rw[aN,if_neg g4,if_neg g5];simp only[Int.toNat_natCast]
 have gV:(st.take (st.length - p)++[(o.iz v e[k] st).1]).length=st.length - p+1:=by simp[List.length_take]
 rw[gV] at ea;have fin:p=0∨p=1∨p=2:=by omega
 rcases fin with wz | wz | wz
 ·have aJ:=Yg (v:=v) (st:=st) (x:=e[k]) (by omega);obtain⟨fy,z2,z3,z4⟩:=FV (x:=e[k].op) (by omega);refine cV (And.intro aj (And.intro ai (And.intro bL b7))) ?_;refine K.gg (c:=[_,_,_,_,_]) dS (Ext.refl _) rfl ?_;refine cV (And.intro aj (And.intro ai (And.intro bL b7))) ?_;refine K.fX _ (fun w' e'=>ae7 e[k] _ v w' rv (h.ext (A0.trans e')) z3 (st.getLastD 0)) ?_;rw[←aJ];refine cV (And.intro aj (And.intro ai (And.intro bL b7))) ?_;intro ba au;refine cV (And.intro aj (And.intro ai (And.intro bL b7))) ?_;apply K.cond<;>intro g6;rotate_left
  ·rw[if_pos g6] at ea;refine aG ?_;rw[o.eval,iX (by rw[ea];exact g6),ea];exact cd
  rw[if_neg (by simpa using g6)] at ea;have eM:=fB.ext au;refine cV (And.intro aj (And.intro ai (And.intro bL b7))) ?_;refine K.kg (cs:=[]) (by simp[List.range,List.range.loop,ey]) fun bo cE fh aP bJ=>?_;have z12:=aA.size;have z23:=au.size;have zP:=aP.size;have qh:kZ w1.heap.size bo (.slice (some ⟨cE,0,none⟩) 0 0) []:=bp.empty (by omega) bJ;have ev:=eM.ext aP;have ek:kZ w1.heap.size bo (.slice _ (st.length - p) _) (st.take (st.length - p)):=bp.head (enc:=encI) (sz:=1) (xs:=st) (fun _=>rfl) ev (st.length - p) (Nat.sub_le _ _);have ck:(st.take (st.length - p)).length=st.length - p:=by simp[List.length_take]
  refine cV (And.intro aj (And.intro ai (And.intro bL b7))) ?_;refine K.rK (st.length - p) (by simp -dsimp only[cI,cu,Nat.reduceAdd,Nat.reduceEqDiff,reduceIte,reduceCtorEq,cS,bL];first | rfl | (congr 1;omega)) (by omega) ?_;refine aG ?_;refine K.xS (xs:=[]) (ys:=st.take (st.length - p)) qh ek (fun _=>rfl) pj (by rw[ck];simp only[List.length_nil];omega) (by rw[ck];simp only[List.length_nil,maxLen];omega) (by omega) fun v5 bR lY iC=>?_;have lX:Ext ba bR:=aP.grown iC fun q aF=>by simp[Value.ownBlock] at aF;omega
  rw[List.nil_append] at lY;have z35:=lX.size;refine aG ?_;refine K.kg (cs:=[(o.iz v e[k] st).1].flatMap encI) (by simp[List.range,List.range.loop,ey,lay,fr,cb,Value.cells,encI]) fun bW ie gG bc dm=>?_;have xw:=bc.size;have dn:=lY.ext bc;refine aG ?_;refine K.qZ (xs:=st.take (st.length - p)) (ys:=[(o.iz v e[k] st).1]) dn (fun _=>rfl) (fZ dm) rfl pj (by rw[ck];simp only[List.length_cons,List.length_nil];omega) (by rw[ck];simp only[List.length_cons,List.length_nil,maxLen];omega) (by omega) fun zK cj dX iV=>?_;have bP:Ext w1 cj:=Ext.grown (((aA.trans au).trans lX).trans bc) iV fun q aF=>(dn.lt q aF).1;obtain⟨CO,vG,rfl,_⟩:=dX.form;rw[gV] at dX ⊢;by_cases g7:12<st.length - p+1
  ·rw[if_pos (by omega)] at ea
   first
    | (exfalso;omega)
    | (refine aG ?_
       rw[o.eval,iX (by rw[ea];simp),ea];exact⟨bu,az.trans bP⟩)
  rw[if_neg (by omega)] at ea;refine cV b7 ?_;refine⟨bb,bu,_,_,rfl,dX,by rw[rp,ea],fun _=>by rw[gV];omega,by rw[gV];omega,bP⟩
 ·have aJ:=Yh (v:=v) (st:=st) (x:=e[k]) (by omega) (by omega);obtain⟨k1,rfl⟩:=ad.addr (by omega);refine cV (And.intro aj (And.intro ai (And.intro bL b7))) ?_;refine K.dr (st.length - 1) (by omega) (by omega) ?_;refine cV (And.intro aj (And.intro ai (And.intro bL b7))) ?_;refine K.gg (c:=[_,_,_,_,_]) dS (Ext.refl _) rfl ?_;refine cV (And.intro aj (And.intro ai (And.intro bL b7))) ?_;refine K.fX _ (fun w' e'=>aeO e[k] _ _ v w' (h.ext (A0.trans e')) (SU (by omega))) ?_;rw[←aJ];refine cV (And.intro aj (And.intro ai (And.intro bL b7))) ?_;intro ba au;refine cV (And.intro aj (And.intro ai (And.intro bL b7))) ?_;apply K.cond<;>intro g6;rotate_left
  ·rw[if_pos g6] at ea;refine aG ?_;rw[o.eval,iX (by rw[ea];exact g6),ea];exact cd
  rw[if_neg (by simpa using g6)] at ea;have eM:=fB.ext au;refine cV (And.intro aj (And.intro ai (And.intro bL b7))) ?_;refine K.kg (cs:=[]) (by simp[List.range,List.range.loop,ey]) fun bo cE fh aP bJ=>?_;have z12:=aA.size;have z23:=au.size;have zP:=aP.size;have qh:kZ w1.heap.size bo (.slice (some ⟨cE,0,none⟩) 0 0) []:=bp.empty (by omega) bJ;have ev:=eM.ext aP;have ek:kZ w1.heap.size bo (.slice _ (st.length - p) _) (st.take (st.length - p)):=bp.head (enc:=encI) (sz:=1) (xs:=st) (fun _=>rfl) ev (st.length - p) (Nat.sub_le _ _);have ck:(st.take (st.length - p)).length=st.length - p:=by simp[List.length_take]
  refine cV (And.intro aj (And.intro ai (And.intro bL b7))) ?_;refine K.rK (st.length - p) (by simp -dsimp only[cI,cu,Nat.reduceAdd,Nat.reduceEqDiff,reduceIte,reduceCtorEq,cS,bL];first | rfl | (congr 1;omega)) (by omega) ?_;refine aG ?_;refine K.xS (xs:=[]) (ys:=st.take (st.length - p)) qh ek (fun _=>rfl) pj (by rw[ck];simp only[List.length_nil];omega) (by rw[ck];simp only[List.length_nil,maxLen];omega) (by omega) fun v5 bR lY iC=>?_;have lX:Ext ba bR:=aP.grown iC fun q aF=>by simp[Value.ownBlock] at aF;omega
  rw[List.nil_append] at lY;have z35:=lX.size;refine aG ?_;refine K.kg (cs:=[(o.iz v e[k] st).1].flatMap encI) (by simp[List.range,List.range.loop,ey,lay,fr,cb,Value.cells,encI]) fun bW ie gG bc dm=>?_;have xw:=bc.size;have dn:=lY.ext bc;refine aG ?_;refine K.qZ (xs:=st.take (st.length - p)) (ys:=[(o.iz v e[k] st).1]) dn (fun _=>rfl) (fZ dm) rfl pj (by rw[ck];simp only[List.length_cons,List.length_nil];omega) (by rw[ck];simp only[List.length_cons,List.length_nil,maxLen];omega) (by omega) fun zK cj dX iV=>?_;have bP:Ext w1 cj:=Ext.grown (((aA.trans au).trans lX).trans bc) iV fun q aF=>(dn.lt q aF).1;obtain⟨CO,vG,rfl,_⟩:=dX.form;rw[gV] at dX ⊢;by_cases g7:12<st.length - p+1
  ·rw[if_pos (by omega)] at ea
   first
    | (exfalso;omega)
    | (refine aG ?_
       rw[o.eval,iX (by rw[ea];simp),ea];exact⟨bu,az.trans bP⟩)
  rw[if_neg (by omega)] at ea;refine cV b7 ?_;refine⟨bb,bu,_,_,rfl,dX,by rw[rp,ea],fun _=>by rw[gV];omega,by rw[gV];omega,bP⟩
 ·have aJ:=Yi (v:=v) (st:=st) (x:=e[k]) (by omega) (by omega);obtain⟨k1,rfl⟩:=ad.addr (by omega);refine cV (And.intro aj (And.intro ai (And.intro bL b7))) ?_;refine K.dr (st.length - 2) (by omega) (by omega) ?_;refine cV (And.intro aj (And.intro ai (And.intro bL b7))) ?_;refine K.dr (st.length - 1) (by omega) (by omega) ?_;refine cV (And.intro aj (And.intro ai (And.intro bL b7))) ?_;refine K.fX _ (fun w' e'=>aeo e[k].op _ _ w' (FW (by omega))) ?_;rw[←aJ];refine cV (And.intro aj (And.intro ai (And.intro bL b7))) ?_;intro ba au;refine cV (And.intro aj (And.intro ai (And.intro bL b7))) ?_;apply K.cond<;>intro g6;rotate_left
  ·rw[if_pos g6] at ea;refine aG ?_;rw[o.eval,iX (by rw[ea];exact g6),ea];exact cd
  rw[if_neg (by simpa using g6)] at ea;have eM:=fB.ext au;refine cV (And.intro aj (And.intro ai (And.intro bL b7))) ?_;refine K.kg (cs:=[]) (by simp[List.range,List.range.loop,ey]) fun bo cE fh aP bJ=>?_;have z12:=aA.size;have z23:=au.size;have zP:=aP.size;have qh:kZ w1.heap.size bo (.slice (some ⟨cE,0,none⟩) 0 0) []:=bp.empty (by omega) bJ;have ev:=eM.ext aP;have ek:kZ w1.heap.size bo (.slice _ (st.length - p) _) (st.take (st.length - p)):=bp.head (enc:=encI) (sz:=1) (xs:=st) (fun _=>rfl) ev (st.length - p) (Nat.sub_le _ _);have ck:(st.take (st.length - p)).length=st.length - p:=by simp[List.length_take]
  refine cV (And.intro aj (And.intro ai (And.intro bL b7))) ?_;refine K.rK (st.length - p) (by simp -dsimp only[cI,cu,Nat.reduceAdd,Nat.reduceEqDiff,reduceIte,reduceCtorEq,cS,bL];first | rfl | (congr 1;omega)) (by omega) ?_;refine aG ?_;refine K.xS (xs:=[]) (ys:=st.take (st.length - p)) qh ek (fun _=>rfl) pj (by rw[ck];simp only[List.length_nil];omega) (by rw[ck];simp only[List.length_nil,maxLen];omega) (by omega) fun v5 bR lY iC=>?_;have lX:Ext ba bR:=aP.grown iC fun q aF=>by simp[Value.ownBlock] at aF;omega
  rw[List.nil_append] at lY;have z35:=lX.size;refine aG ?_;refine K.kg (cs:=[(o.iz v e[k] st).1].flatMap encI) (by simp[List.range,List.range.loop,ey,lay,fr,cb,Value.cells,encI]) fun bW ie gG bc dm=>?_;have xw:=bc.size;have dn:=lY.ext bc;refine aG ?_;refine K.qZ (xs:=st.take (st.length - p)) (ys:=[(o.iz v e[k] st).1]) dn (fun _=>rfl) (fZ dm) rfl pj (by rw[ck];simp only[List.length_cons,List.length_nil];omega) (by rw[ck];simp only[List.length_cons,List.length_nil,maxLen];omega) (by omega) fun zK cj dX iV=>?_;have bP:Ext w1 cj:=Ext.grown (((aA.trans au).trans lX).trans bc) iV fun q aF=>(dn.lt q aF).1;obtain⟨CO,vG,rfl,_⟩:=dX.form;rw[gV] at dX ⊢;by_cases g7:12<st.length - p+1
  ·rw[if_pos (by omega)] at ea
   first
    | (exfalso;omega)
    | (refine aG ?_
       rw[o.eval,iX (by rw[ea];simp),ea];exact⟨bu,az.trans bP⟩)
  rw[if_neg (by omega)] at ea;refine cV b7 ?_;refine⟨bb,bu,_,_,rfl,dX,by rw[rp,ea],fun _=>by rw[gV];omega,by rw[gV];omega,bP⟩
end Go.Proofs.R
end
section
namespace o
open Go
theorem Ys{m:Model}(bd:eI m){s:List Int}(aJ:Fits m s):∀x∈s,-9223372036854775808≤x∧x≤9223372036854775807:=fun x aw=>by
 obtain⟨i,ad,rfl⟩:=List.mem_iff_getElem.1 aw;have bA:i<(b1 m).length:=by have:=aJ.len;unfold fO at this;omega
 have h1:=aJ.cell i ad bA;have U:=WK bd _ (List.getElem_mem bA);obtain⟨bz,b4,bZ⟩:=U;omega
structure Ma(v:Env):Prop where
 vars:∀l∈v.vars,∀x∈l,ep x
 lens:∀x∈v.lens,ep x
 locals:∀x∈v.locals,ep x
 at_:∀l∈v.at_,∀x∈l,ep x
 self:ep v.self
theorem Py{m:Model}(bd:eI m){s:List Int}(aJ:Fits m s){q:Nat}(aF:q<(insts m).length):Ma (dK m s q):=by
 have fs:=Ys bd aJ;have sw:=(qw _ (List.getElem_mem aF)).elem;have gT:=JG bd;refine⟨fun l aQ x aw=>?_,fun x aw=>?_,fun x aw=>?_,fun l aQ x aw=>?_,?_⟩
 ·simp only[dK,List.mem_map] at aQ;obtain⟨k,_,rfl⟩:=aQ;exact fs x (List.mem_of_mem_drop (List.mem_of_mem_take aw))
 ·simp only[dK,List.mem_map] at aw;obtain⟨k,_,rfl⟩:=aw;rw[List.getElem!_eq_getElem?_getD];cases hk:s[cU m k]? with
  | none=>simp[ep]
  | some y=>exact fs y (List.mem_of_getElem? hk)
 ·rw[(Gf s aF rfl).1] at aw;exact fs x (List.mem_of_mem_drop (List.mem_of_mem_take aw))
 ·simp only[dK,List.mem_map] at aQ;obtain⟨k,_,rfl⟩:=aQ;unfold jN at aw;obtain⟨d,_,rfl⟩:=List.mem_map.1 aw
  have:=OE m s k d (insts m).length
  unfold ep;omega
 ·rw[(Gf s aF rfl).2];unfold ep;omega
end o
namespace bt
open Go Go.RowKit
theorem K.y1{b n k:Nat}{c:List Value}{ty:TypeId}{w:World}{aE:Value→Prop}{t}(cs:List Value)(aD:w.heap[b]? = some (.cells c.toArray ty))(fR:(c.drop k).take n=cs)(aN:cs.length=n)(hk:aE (.agg cs.toArray)):qS n (.pointer (some (Addr.add ⟨b,0,none⟩ k))) w aE t:=by
 refine K.iZ (cs:=cs) (fun j v aT=>?_) aN hk;subst fR;rw[List.getElem?_take] at aT;split at aT
 ·rw[List.getElem?_drop] at aT;rw[add_add];exact fi aD (by simpa using aT)
 ·cases aT
end bt
namespace Go.Proofs.R
open Go Go.RowKit bt
theorem JI{w:World}{v:Value}{l:List Int}(h:fo w v l)(fs:∀x∈l,o.ep x):oi w v l:=by
 obtain⟨bh,cap,e,h1,U,ai,aL⟩:=h.ex;exact⟨bh,cap,e,h1,U,ai,fun a br i ad=>⟨aL a br i ad,fs _ (List.getElem_mem ad)⟩⟩
theorem TN{w:World}{v:Value}{l:List (List Int)}(h:Ac w v l)(fs:∀r∈l,∀x∈r,o.ep x):tI w v l:=by
 obtain⟨bh,cap,e,h1,U,ai,aL⟩:=h.ex;refine⟨bh,cap,e,h1,U,ai,fun a br i ad=>?_⟩;obtain⟨u,hu,aN⟩:=aL a br i ad;exact⟨u,hu,JI aN (fs _ (List.getElem_mem ad))⟩
theorem Px{w:World}{cs:List Value}{x:o.Env}(h:L9 w cs x)(a8:o.Ma x):o.rS w cs x:=by
 obtain⟨v0,v1,v2,v3,rfl,aj,h1,U,ai⟩:=h.ex;exact⟨v0,v1,v2,v3,rfl,TN aj a8.vars,JI h1 a8.lens,JI U a8.locals,TN ai a8.at_,a8.self⟩
def NZ(base:Nat)(aq:Option (List Int))(u:Value)(w:World):Prop :=
 (aq=none∧u = .tuple #[.slice none 0 0,.bool false])∨(∃t pQ,aq=some t∧u = .tuple #[pQ,.bool true]∧mK base w pQ t)
theorem aec(cs:List Value)(v cn cr:Value)(m:o.Model)(s:List Int)(q p:Nat)(a:o.Act)(w:World)(h:nt w cs m)(a6:m.cT)(bd:o.eI m)(ay:fo w v s)(aJ:o.Fits m s)(bM:o.h8 m q p)
  (ad:o.fA w cn a.index)(aU:o.fA w cr a.value)(br:o.pS (o.inner (m.procs[p]'(bM.aO)) (o.fI m)) a) :
  bq Tryz.prog F.CG #[.agg cs.toArray,v,.int .i64 q,.agg (a.enc cn cr).toArray] w fun u w'=>NZ w.heap.size (o.lP m s q a) u w'∧Ext w w':=by
 have gk:=h;obtain⟨hz,d0,fk,d1,gp,d2,gL,d3,h2,d4,cv,bN,b9,c1,cq,c2,cm,bK,cw,bQ,et,ci,l5,jQ,rfl,fF,ra,gM,fl,fD,hc,jF,aj,h1,U,ai,Y6,Ik⟩:=h.form;obtain⟨os,yg,rfl,CJ⟩:=ay.form;obtain⟨Kd,cZ,rfl,uX⟩:=ad.form;obtain⟨ajd,aha,rfl,lvl⟩:=aU.form;have Bt:=br.kind;have hlen:=aJ.len;have nD:o.fO m≤64:=o.l3 bd;have gT:=bd.gT;have aF:=bM.aF;have aif:=bM.zz bd;obtain⟨f6,f7,f8⟩:=o.JS m;obtain⟨IZ,sA⟩:=o.wJ aF;have dd:=o.Py bd aJ aF;refine bI E.CG ?_;refine bF ?_;refine an ?_;intro w1 cE fh az bJ;refine an ?_;intro aR lQ jr aA c5;replace bJ:=aA.obj bJ;have bg:=az.trans aA;unfold o.Act.enc at c5;refine an ?_;apply K.cond<;>intro g5
 ·obtain⟨hL,e7⟩:=br.chan (.inr g5);have fW:a.to.toNat<m.aH.length:=e7;have hU:a.to=(a.to.toNat:Nat):=by omega
  rw[hU] at c5;refine an ?_;refine K.call (Ks _ _ m s a.to.toNat aR (gk.ext bg) bd (ay.ext Flat.ext bg) hlen fW) ?_;rintro u ba ⟨hu,au⟩;obtain⟨Kb,sb,rfl,_⟩:=hu.form;have eU:(o.chanOf m s a.to.toNat).length=1+o.jj m a.to.toNat:=o.tY (by rw[hlen];exact o.qa fW);have RB:=o.tS bd fW;have aid:=o.qa fW;obtain⟨eG,aaq⟩:=br.recv g5;have ah2:a.loc.toNat<(m.procs[p]'(bM.aO)).vars.length:=aaq;have aie:=bM.room;have done:o.lP m s q a=o.zs m s q a:=by unfold o.lP;rw[if_pos g5]
  rw[done];unfold o.zs;replace bJ:=au.obj bJ;replace c5:=au.obj c5;have bO:=bg.trans au;refine an ?_;refine K.call (ae0 _ _ ba hu (by omega)) ?_;rintro u bo ⟨jS,aP⟩;replace bJ:=aP.obj bJ;replace c5:=aP.obj c5;have b8:=bO.trans aP;rcases jS with ⟨gW,rfl⟩ | ⟨r,x,ky,ll,rfl,BG⟩
  ·refine an ?_;exact⟨.inl ⟨by rw[gW],bu⟩,b8⟩
  obtain⟨ady,Xs,rfl,_⟩:=BG.form;have lj:=o.KY ll;rw[ll];obtain⟨nw,rfl⟩:=fD.addr (by omega);have C0:=fD.ext Flat.ext b8;refine an ?_;intro bR bf;replace bJ:=bf.obj bJ;replace c5:=bf.obj c5;replace C0:=C0.ext Flat.ext bf;have ca:=b8.trans bf;refine an ?_;rw[sA];refine an ?_;refine K.call (KB _ _ _ m s r a.to.toNat bR (gk.ext ca) bd (ay.ext Flat.ext ca) ((s5 BG).ext Flat.ext bf) hlen fW (by omega)) ?_;rintro u bW ⟨dn,bc⟩;obtain⟨FY,Ey,rfl,_⟩:=dn.form;have c0:=ca.trans bc;have pr:(o.jC s (o.cU m a.to.toNat) r).length=o.fO m:=by rw[o.BW (by omega)];exact hlen
  refine⟨bc,?_⟩;refine an ?_;refine K.call (F6 _ _ m (o.jC s (o.cU m a.to.toNat) r) (o.dG m q+1+a.loc.toNat) _ x bW (gk.ext c0) bd (s5 dn) pr (by omega) (by omega)) ?_;rintro u cj ⟨jS,bP⟩;rcases jS with ⟨gW,rfl⟩ | ⟨t,pQ,aa3,rfl,kP⟩
  ·refine an ?_;exact⟨.inl ⟨gW,bu⟩,c0.trans bP⟩
  ·obtain⟨w8,vN,rfl,_⟩:=kP.form;refine an ?_;exact⟨.inr ⟨t,_,aa3,rfl,bp.low c0.size kP⟩,c0.trans bP⟩
 ·refine an ?_;refine K.y1 [.slice hz m.scalars.length d0,.slice fk m.vars.length d1,.slice gp m.aH.length d2,.slice gL m.procs.length d3,.slice h2 m.props.length d4] bJ rfl rfl ?_;refine an ?_;refine K.y1 [.slice cv (o.layout m).vars.length bN,.slice b9 (o.layout m).aH.length c1,.slice cq (o.layout m).insts.length c2,.int .i64 (o.layout m).cells,.slice cm (o.layout m).aZ.length bK,.slice cw (o.layout m).ad.length bQ] bJ rfl rfl ?_;refine an ?_;refine K.call (TP _ _ _ m s q aR (fF.ext bg) a6 bd (ra.ext bg) (ay.ext Flat.ext bg) aJ (by omega) (by omega)) ?_;rintro _ ba ⟨⟨es,rfl,aN⟩,au⟩;have e0:=Px aN.here dd;have yp:=e0;obtain⟨a0,hL,dy,eO,a2,gA,a3,kS,rfl,qI,eb,dY,eg,gr,_⟩:=e0.form;replace bJ:=au.obj bJ;replace c5:=au.obj c5;have bO:=bg.trans au;refine an ?_;intro bo r4 It aP iS;replace bJ:=aP.obj bJ;replace c5:=aP.obj c5;have b8:=bO.trans aP;refine an ?_;refine K.call (Ky _ a.value _ (o.dK m s q) bo (aU.ext b8) (yp.ext aP)) ?_;rintro _ bR ⟨rfl,bf⟩;obtain⟨n,BC⟩:∃n,n=(o.eval a.value (o.dK m s q)).1:=⟨_,rfl⟩;obtain⟨e,yz⟩:∃e,e=(o.eval a.value (o.dK m s q)).2:=⟨_,rfl⟩;rw[←BC,←yz];replace bJ:=bf.obj bJ;replace c5:=bf.obj c5;replace iS:=bf.obj iS;have ca:=b8.trans bf;have fy:=bg.size;refine an ?_;refine K.cond (fun uQ=>?_) (fun uQ=>?_);rotate_left
  ·refine an ?_;refine⟨.inl ⟨?_,bu⟩,ca⟩;unfold o.lP;rw[if_neg g5,←yz,if_pos uQ]
  have done:o.lP m s q a=if a.kind=1 then o.putAt m s (o.jz m a.to.toNat) n else if a.kind=2 then o.yV m s a (o.eval a.index (o.dK m s q)) n else if a.kind=3 then o.putAt m s (o.dG m q+1+a.to.toNat) n else o.xg m s a.to.toNat n:=by
   unfold o.lP;rw[if_neg g5,←yz,if_neg (by simpa using uQ),←BC]
  rw[done];have sI:=ay.ext Flat.ext ca;have Qm:=gk.ext ca;refine an ?_;apply K.cond<;>intro g1
  ·obtain⟨hL,b3,e7,jV⟩:=br.set g1;have jW:a.to.toNat<m.vars.length:=(List.getElem?_eq_some_iff.1 e7).1;obtain⟨fg,nV⟩:=o.Gq jW;have nN:=o.Gs bd jW;have abe:=o.xn jW;have gy:=o.q1 m;have aao:=o.y3 jW;have ahK:o.cells m.vars[a.to.toNat] m.scalars=1:=by
    have Jx:m.vars[a.to.toNat]=b3:=(List.getElem?_eq_some_iff.1 e7).2;rw[Jx];unfold o.cells;rw[if_pos jV]
   obtain⟨nw,rfl⟩:=gM.addr (by omega);have Tk:=gM.ext Flat.ext ca;refine an ?_;intro bW bc;replace bJ:=bc.obj bJ;replace c5:=bc.obj c5;replace Tk:=Tk.ext Flat.ext bc;have c0:=ca.trans bc;refine an ?_;refine K.dr a.to.toNat (by omega) (by omega) ?_;refine an ?_;refine K.call (F6 _ _ m s (o.jz m a.to.toNat) _ n bW (gk.ext c0) bd (ay.ext Flat.ext c0) hlen (by rw[nV]) (by omega)) ?_;rintro u cj ⟨jS,bP⟩;rcases jS with ⟨gW,rfl⟩ | ⟨t,pQ,ll,rfl,kP⟩
   ·refine an ?_;exact⟨.inl ⟨by rw[if_pos g1];exact gW,bu⟩,c0.trans bP⟩
   ·obtain⟨w8,vN,rfl,_⟩:=kP.form;refine an ?_;exact⟨.inr ⟨t,_,by rw[if_pos g1];exact ll,rfl,bp.low c0.size kP⟩,c0.trans bP⟩
  refine an ?_;apply K.cond<;>intro g2
  ·obtain⟨hL,Jw,Q1⟩:=br.item g2;have jW:a.to.toNat<m.vars.length:=Jw;obtain⟨fg,nV⟩:=o.Gq jW;have abe:=o.xn jW;have gy:=o.q1 m;have aao:=o.y3 jW;have eU:=o.r6 m.vars[a.to.toNat] m.scalars;have abc:=o.Um (s:=s) (inst:=(q:Int)) jW;have aim:=o.KQ m s q;obtain⟨abf,abg⟩:=List.getElem?_eq_some_iff.1 abc;have lj:((o.dK m s q).vars[a.to.toNat]).length=o.uS m a.to.toNat:=by rw[abg,List.length_take,List.length_drop];omega
   obtain⟨nw,rfl⟩:=gM.addr (by omega);obtain⟨xT,rfl⟩:=qI.addr (by omega);obtain⟨ky,py,yQ⟩:=qI.at a.to.toNat abf;obtain⟨aja,ag4,rfl,_⟩:=yQ.form;rw[lj] at py;refine an ?_;refine K.call (Ky _ a.index _ (o.dK m s q) bR (ad.ext ca) (yp.ext (aP.trans bf))) ?_;rintro _ bW ⟨rfl,bc⟩;obtain⟨k,Q8⟩:∃k,k=(o.eval a.index (o.dK m s q)).1:=⟨_,rfl⟩;obtain⟨f,QR⟩:∃f,f=(o.eval a.index (o.dK m s q)).2:=⟨_,rfl⟩;have nO:∀n,o.yV m s a (o.eval a.index (o.dK m s q)) n=if f≠0∨k<1∨(o.uS m a.to.toNat:Int)<k then none else o.putAt m s (o.jz m a.to.toNat+k.toNat - 1) n:=fun n=>by unfold o.yV;rw[←Q8,←QR]
   rw[nO,←Q8,←QR];clear nO;replace bJ:=bc.obj bJ;replace c5:=bc.obj c5;replace iS:=bc.obj iS;have c0:=ca.trans bc;have ZN:=((aP.trans bf).trans bc).cell py;refine an ?_;refine K.cond (fun l0=>?_) (fun l0=>?_);rotate_left
   ·refine an ?_;exact⟨.inl ⟨by rw[if_neg g1,if_pos g2,if_pos (.inl l0)],bu⟩,c0⟩
   refine an ?_;refine K.cond (fun lo=>?_) (fun lo=>?_)
   ·refine an ?_;exact⟨.inl ⟨by rw[if_neg g1,if_pos g2,if_pos (.inr (.inl lo))],bu⟩,c0⟩
   refine an ?_;refine K.dr a.to.toNat (by omega) (by omega) ?_;refine an ?_;refine K.ld ZN ?_;refine an ?_;refine K.cond (fun yW=>?_) (fun yW=>?_)
   ·refine an ?_;exact⟨.inl ⟨by rw[if_neg g1,if_pos g2,if_pos (.inr (.inr (by omega)))],bu⟩,c0⟩
   have Tl:=gM.ext Flat.ext c0;refine an ?_;intro cj bP;replace bJ:=bP.obj bJ;replace c5:=bP.obj c5;replace Tl:=Tl.ext Flat.ext bP;have ee:=c0.trans bP;refine an ?_;refine K.dr a.to.toNat (by omega) (by omega) ?_;refine an ?_;refine K.call (F6 _ _ m s (o.jz m a.to.toNat+k.toNat - 1) _ n cj (gk.ext ee) bd (ay.ext Flat.ext ee) hlen (by rw[nV];omega) (by omega)) ?_;rintro u dC ⟨jS,bV⟩;rcases jS with ⟨gW,rfl⟩ | ⟨t,pQ,ll,rfl,kP⟩
   ·refine an ?_;exact⟨.inl ⟨by rw[if_neg g1,if_pos g2,if_neg (by omega)];exact gW,bu⟩,ee.trans bV⟩
   ·obtain⟨w8,vN,rfl,_⟩:=kP.form;refine an ?_;exact⟨.inr ⟨t,_,by rw[if_neg g1,if_pos g2,if_neg (by omega)];exact ll,rfl,bp.low ee.size kP⟩,ee.trans bV⟩
  refine an ?_;apply K.cond<;>intro g3
  ·obtain⟨hL,jW⟩:=br.loc g3;have fW:a.to.toNat<(m.procs[p]'(bM.aO)).vars.length:=jW;have RB:=bM.room;obtain⟨nw,rfl⟩:=fD.addr (by omega);have zr:=fD.ext Flat.ext ca;refine an ?_;intro bW bc;replace bJ:=bc.obj bJ;replace c5:=bc.obj c5;replace zr:=zr.ext Flat.ext bc;have c0:=ca.trans bc;refine an ?_;rw[sA];refine an ?_;refine K.call (F6 _ _ m s (o.dG m q+1+a.to.toNat) _ n bW (gk.ext c0) bd (ay.ext Flat.ext c0) hlen (by omega) (by omega)) ?_;rintro u cj ⟨jS,bP⟩;rcases jS with ⟨gW,rfl⟩ | ⟨t,pQ,ll,rfl,kP⟩
   ·refine an ?_;exact⟨.inl ⟨by rw[if_neg g1,if_neg g2,if_pos g3];exact gW,bu⟩,c0.trans bP⟩
   ·obtain⟨w8,vN,rfl,_⟩:=kP.form;refine an ?_;exact⟨.inr ⟨t,_,by rw[if_neg g1,if_neg g2,if_pos g3];exact ll,rfl,bp.low c0.size kP⟩,c0.trans bP⟩
  have g4:a.kind=4:=by omega
  rw[if_neg g1,if_neg g2,if_neg g3];obtain⟨hL,jW⟩:=br.chan (.inl g4);have fW:a.to.toNat<m.aH.length:=jW;have QI:=bd.chan _ (List.getElem_mem fW);obtain⟨vz,rfl⟩:=U.addr (by omega);have eu:=((U.at a.to.toNat fW).cells).ext ca;refine an ?_;refine K.dr a.to.toNat (by omega) fW ?_;refine ei ?_;intro bW agU ahs bc Iz;replace bJ:=bc.obj bJ;replace c5:=bc.obj c5;have c0:=ca.trans bc;refine ei ?_;simp -dsimp only[cu];refine ei ?_;intro cj bP;replace bJ:=bP.obj bJ;replace c5:=bP.obj c5;replace Iz:=bP.obj Iz;have ee:=c0.trans bP;have jU:=o.Hu QI gT.1;have EY:o.tW m a.to.toNat=o.eK m.aH[a.to.toNat].scalar m.aH[a.to.toNat].aZ m.aH[a.to.toNat].ad m.scalars:=by unfold o.tW;rw[List.getElem?_eq_getElem fW]
  clear eu;unfold o.c4.enc at Iz;refine ei ?_;refine K.hE [1,4,7,14,18] (fun x:Int×Int=>[(19,.int .i64 x.1),(20,.int .i64 x.2)]) (fun x W=>Ext cj W∧x.1=(o.tW m a.to.toNat).aZ∧x.2=(o.tW m a.to.toNat).ad) ?_ ?_
  ·refine an ?_;refine K.cond (fun l0=>?_) (fun l0=>?_)
   ·have bU:=QI.ja.resolve_left (by omega);obtain⟨j,aT,ahT,Br⟩:∃(j:Nat) (aT:j<m.scalars.length),m.aH[a.to.toNat].scalar=(j:Int)+1∧o.size m.aH[a.to.toNat].scalar m.scalars=m.scalars[j].size:=by
     unfold o.size at bU ⊢;cases aw:m.scalars[(m.aH[a.to.toNat].scalar - 1).toNat]? with
     | none=>rw[aw] at bU;exact absurd rfl bU
     | some x =>
      rw[aw] at bU;obtain⟨aT,rfl⟩:=List.getElem?_eq_some_iff.1 aw;simp only at bU ⊢;split at bU
      ·rename_i df;exact⟨_,aT,by omega,by rw[if_pos df]⟩
      ·exact absurd rfl bU
    obtain⟨vA,rfl⟩:=aj.addr (by omega);have fR:=((aj.at j aT).cells).ext ee;refine an ?_;refine K.dr j (by omega) aT ?_;refine an ?_;intro dC bV;refine an ?_;refine⟨(0,m.scalars[j].size),⟨rfl,rfl,trivial⟩,bV,?_,?_⟩
    ·rw[EY];unfold o.eK;rw[if_neg (by omega)]
    ·rw[EY];unfold o.eK;rw[if_neg (by omega)];exact Br.symm
   ·refine an ?_;refine⟨(m.aH[a.to.toNat].aZ,m.aH[a.to.toNat].ad),⟨rfl,rfl,trivial⟩,Ext.refl _,?_,?_⟩
    ·rw[EY];unfold o.eK;rw[if_pos (by omega)]
    ·rw[EY];unfold o.eK;rw[if_pos (by omega)]
  rintro⟨aZ,cN⟩ S dC ⟨bV,iW,Bq⟩;simp only at iW Bq;replace bJ:=bV.obj bJ;replace c5:=bV.obj c5;have fq:=ee.trans bV;have U1:=fq.size;rw[show o.xg m s a.to.toNat n=if n<aZ∨cN<n then none else (o.oV (o.chanOf m s a.to.toNat) n).map (o.jC s (o.cU m a.to.toNat)) from by unfold o.xg;rw[←iW,←Bq]];refine an ?_;refine K.cond (fun l0=>?_) (fun l0=>?_)
  ·refine an ?_;exact⟨.inl ⟨by rw[if_pos (.inl l0)],bu⟩,fq⟩
  refine an ?_;refine K.cond (fun lo=>?_) (fun lo=>?_)
  ·refine an ?_;exact⟨.inl ⟨by rw[if_pos (.inr (by omega))],bu⟩,fq⟩
  rw[if_neg (by omega)];have hU:a.to=(a.to.toNat:Nat):=by omega
  rw[hU] at c5;have eU:(o.chanOf m s a.to.toNat).length=1+o.jj m a.to.toNat:=o.tY (by rw[hlen];exact o.qa fW);have RB:=o.tS bd fW;refine an ?_;refine K.call (Ks _ _ m s a.to.toNat dC (gk.ext fq) bd (ay.ext Flat.ext fq) hlen fW) ?_;rintro u ez ⟨hu,cp⟩;obtain⟨Kb,sb,rfl,_⟩:=hu.form;replace bJ:=cp.obj bJ;replace c5:=cp.obj c5;have lT:=fq.trans cp;refine an ?_;refine K.call (aeZ _ _ n ez hu (by omega)) ?_;rintro u eX ⟨jS,dI⟩;replace bJ:=dI.obj bJ;replace c5:=dI.obj c5;have jR:=lT.trans dI;rcases jS with ⟨gW,rfl⟩ | ⟨r,ky,ll,rfl,BG⟩
  ·refine an ?_;exact⟨.inl ⟨by rw[gW];rfl,bu⟩,jR⟩
  ·obtain⟨ady,Xs,rfl,_⟩:=BG.form;have lj:=o.Kl ll;refine an ?_;refine K.call (KB _ _ _ m s r a.to.toNat eX (gk.ext jR) bd (ay.ext Flat.ext jR) (s5 BG) hlen fW (by omega)) ?_;rintro u hh ⟨px,hr⟩;obtain⟨FY,Ey,rfl,_⟩:=px.form;refine an ?_;exact⟨.inr ⟨_,_,by rw[ll];rfl,rfl,bp.low jR.size px⟩,jR.trans hr⟩
end Go.Proofs.R
end