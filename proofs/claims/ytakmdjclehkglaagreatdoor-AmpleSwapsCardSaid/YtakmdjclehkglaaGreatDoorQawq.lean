/- Parts. -/
import Derived.Test.YtakmdjclehkglaaGreatDoorQawo
set_option linter.all false
set_option maxRecDepth 4000
set_option maxHeartbeats 16000000
section
namespace o
theorem amT(s:C_ Int)(p:Nat)(x:Int)(xs:C_ Int)(h:p+(xs.length+1)<=s.length):hi (s.set p x) (p+1) xs=hi s p (x :: xs):=by
 have h1:p+1+xs.length<=(s.set p x).length:=by rw[AE8];omega
 have I:p+(x :: xs).length<=s.length:=by simpa using h
 apply List.ext_getElem?;intro i;rw[sl h1,sl I];by_cases U:i=p
 .subst U;rw[if_neg Aw,if_pos ⟨Aw,Bh⟩,List.getElem?_set_self Aw];simp
 .by_cases aG:p+1<=i/\i<p+1+xs.length
  .rw[if_pos aG,if_pos ⟨Aw,by simp;omega⟩,show i - p=(i - (p+1))+1 from Aw,List.getElem?_cons_succ]
  .rw[if_neg aG,if_neg (by simp;omega),List.getElem?_set_ne Aw]
theorem aaI(s:C_ Int)(p:Nat):hi s p []=s:=by simp[hi]
end o
namespace a7
open Go Go.RowKit
theorem ab3{e:F_}{base:Nat}{w:A_}{l:C_ Int}{g n c k:Nat}{x:Int}(h:aP cE e 1 base w (.slice (some ⟨g,0,none⟩) n c) l)(hk:k<l.length) :
  aP cE e 1 base (w.setCell ⟨g,k,none⟩ (.I x)) (.slice (some ⟨g,0,none⟩) n c) (l.set k x)/\(∃hz,w.cell? ⟨g,k,none⟩=some hz)/\w.frozen? ⟨g,k,none⟩=false:=by
 rcases h.2 with ⟨ax,ad⟩ | ⟨aiQ,cap,cur,h1,I,ab,aE,aY,bz,b0⟩
 .cases ax
 .injection h1 with e1 e2 a1
  injection e1 with e1
  injection e1 with e1
  subst e1 a1;have b4:k<cur.size:=Aw
  have kE:Addr.add ⟨g,0,none⟩ k=⟨g,k,none⟩:=by rw[add_eq,AE9]
  have ai:w.cell? (Addr.add ⟨g,0,none⟩ k)=some cur[k]:=fT ab (Array.getElem?_eq_getElem b4);rw[kE] at ai;have bk:w.ownsRow base e 1 (.slice (some ⟨g,0,none⟩) l.length c) l.length (l.flatMap cE):=by unfold aP at h;rw[e2] at h;exact h
  have ak:=World.ownsRow.stored bk k (.I x);rw[OL] at ak;refine⟨?_,⟨_,ai⟩,by simp[World.frozen?,ab]⟩;unfold aP;rw[AE8,e2];exact ak.1
theorem ab4{e:F_}{base:Nat}{g n c p:Nat}:∀(xs:C_ Int) (i:Nat) (w:A_) (l:C_ Int),aP cE e 1 base w (.slice (some ⟨g,0,none⟩) n c) l->p+i+xs.length<=l.length ->
  aP cE e 1 base (ih w ⟨g,p,none⟩ (xs.flatMap cE) i) (.slice (some ⟨g,0,none⟩) n c) (o.hi l (p+i) xs)
 | [],i,w,l,h,_=>by rw[o.aaI];exact h
 | x :: xs,i,w,l,h,az=>by
  have ir:p+i+(xs.length+1)<=l.length:=by simpa using az
  have h1:=(ab3 (x:=x) h (k:=p+i) Aw).1;have I:=ab4 (p:=p) xs (i+1) _ _ h1 (by rw[AE8];omega);rw[<-AI4,o.amT _ _ _ _ ir] at I;show aP cE e 1 base (ih (w.setCell (Addr.add ⟨g,p,none⟩ i) (.I x)) ⟨g,p,none⟩ (xs.flatMap cE) (i+1)) _ _;rw[add_eq];exact I
theorem _c{S:Fr}{w:A_}{ba:B_->Prop}{n cap g:Nat}{x y:G_}{k k':IntKind}{xs:C_ Int}{t}(l u:Nat)(ak:bg 1 (Flat cE) w (.slice (some ⟨g,0,none⟩) n cap) xs)(af:bn S x = .int k (l:Int))(bK:bn S y = .int k' (u:Int))(az:l<=u)(hu:u<=xs.length)
  (hk:∀ae c,(0<u - l->ae=some ⟨g,l,none⟩)->bg 1 (Flat cE) w (.slice ae (u - l) c) ((xs.drop l).take (u - l))->ba (.slice ae (u - l) c)):sR S 1 (.slice (some ⟨g,0,none⟩) n cap) (some x) (some y) none ba t:=by
 obtain⟨e1,e2,a1⟩:=ak.len;refine _B l u cap (by simp[et,af]) (by simp[et,bK]) (by simp[et]) ⟨az,Aw,Gf _⟩ Bh ?_;refine hk _ _ (fun ad=>?_) (ak.sub l u az hu);rw[if_neg Aw];simp[add_eq]
theorem AD8{S:Fr}{w:A_}{ba:B_->Prop}{n cap g:Nat}{x:G_}{k:IntKind}{xs:C_ Int}{t}(l:Nat)(ak:bg 1 (Flat cE) w (.slice (some ⟨g,0,none⟩) n cap) xs)(af:bn S x = .int k (l:Int))(az:l<=xs.length)
  (hk:∀ae c,(0<n - l->ae=some ⟨g,l,none⟩)->ba (.slice ae (n - l) c)):sR S 1 (.slice (some ⟨g,0,none⟩) n cap) (some x) none none ba t:=by
 obtain⟨e1,e2,a1⟩:=ak.len;refine _B l n cap (by simp[et,af]) (by simp[et]) (by simp[et]) ⟨Aw,Aw,Gf _⟩ Bh ?_;refine hk _ _ (fun ad=>?_);rw[if_neg Aw];simp[add_eq]
theorem _d{P:D_}{S:Fr}{w:A_}{e cv:F_}{base g n c p k DM m cs:Nat}{l xs:C_ Int}{x y:G_}{ae os:H_ Addr}{cK:B_->A_->Prop}{ty:F_}{t}(aJ:aP cE e 1 base w (.slice (some ⟨g,0,none⟩) n c) l)(QE:bg 1 (Flat cE) w (.slice os m cs) xs)
  (af:bn S x = .slice ae k DM)(bK:bn S y = .slice os m cs)(a6:0<k->ae=some ⟨g,p,none⟩)(aq:p+k<=l.length)(hu:P.underlying cv=some (.slice e))(bw:(P.info? e).map (·.size)=some 1)
  (hk:∀u w1,di g w w1->aP cE e 1 base w1 (.slice (some ⟨g,0,none⟩) n c) (o.hi l p (xs.take k))->cK u w1):uh P (.call ⟨.builtin .copy,#[x,y],#[cv,cv]⟩) ty S w cK t:=by
 obtain⟨inf,U,ff⟩:=Option.map_eq_some_iff.1 bw;obtain⟨e1,e2,a1⟩:=QE.len;subst e1;have ZS:(xs.take k).length=min k xs.length:=LQ;have akx:∀a,os=some a->e7 w a ((xs.take k).flatMap cE):=fun a aU j v aC=>by
  have mm:(List.map (Value.int .i64) (xs.take k))[j]? = some v:=by rw[<-aC];congr 1;induction xs.take k with | nil=>rfl | cons q r fb=>simp[cE,fb]
  rw[List.getElem?_map] at mm;cases ao:(xs.take k)[j]? with
  | none=>rw[ao] at mm;cases mm
  | some q =>
   rw[ao] at mm;have bC:v = .I q:=by simpa using mm.symm
   subst bC;obtain⟨b4,zY⟩:=List.getElem?_eq_some_iff.1 ao;rw[ZS] at b4;subst aU;have I:=QE.at j Aw;have ab:w.cell? ((a.add (j*1)).add 0)=some (.I xs[j]):=I 0 _ rfl;rw[add_zero,AG8] at ab;rw[ab]
   have:(xs.take k)[j]=xs[j]:=Bh
   rw[this] at zY;rw[zY]
 have lv:((xs.take k).flatMap cE).length=min xs.length k:=by rw[x6 (sz:=1) (fun _=>rfl),ZS];omega
 have PV:(Builtin.firstCells 1 (min xs.length k) (.slice os xs.length cs)).run P w = .ok ((xs.take k).flatMap cE).toArray w:=by
  cases os with
  | none =>
   have ad:xs=[]:=by
    cases tB:xs with
    | nil=>rfl
    | cons q r=>obtain⟨a,aU⟩:=QE.addr (by rw[tB];simp);cases aU
   subst ad;simp[Builtin.firstCells]
  | some a =>
   have h1:=run_loadCells_list (P:=P) w a _ (akx a rfl);rw[lv] at h1;simp only[Builtin.firstCells,Nat.mul_one];exact h1
 rcases Nat.eq_zero_or_pos k with gl | gl
 .subst gl;have bF:(xs.take 0).flatMap cE=[]:=rfl;rw[bF,Nat.min_zero] at PV;refine _D (v:=goInt 0) (w':=w) ?_ (hk _ _ (di.refl _ _) (by rw[show xs.take 0=[] from rfl,o.aaI];exact aJ));cases ae<;>simp[execOp,resolve,invoke,builtin,af,bK,Builtin.copy_,run_underlying hu,Builtin.lenOf,pQ U,ff,PV,storeCells]
 .obtain rfl:=a6 gl;have fS:=Ga P ⟨g,p,none⟩ ((xs.take k).flatMap cE) 0 w (fun j aC=>by
   rw[AE9,add_eq];exact(ab3 (x:=0) aJ (k:=p+j) Aw).2) (fun q ao=>by
   obtain⟨z,_,uR⟩:=List.mem_flatMap.1 ao;rw[List.mem_singleton.1 uR];rfl)
  refine _D (v:=goInt ((Nat.min xs.length k:Nat):Int)) (w':=ih w ⟨g,p,none⟩ ((xs.take k).flatMap cE) 0) ?_ (hk _ _ (di.ih _ w ⟨g,p,none⟩ 0) (ab4 _ 0 w l aJ Aw));simp[execOp,resolve,invoke,builtin,af,bK,Builtin.copy_,run_underlying hu,Builtin.lenOf,pQ U,ff,PV,fS]
theorem AD9{α:Type}{S:Fr}{w:A_}{ba:B_->Prop}{sz n cap:Nat}{R:A_->Addr->α->Prop}{aO:H_ Addr}{x y z:G_}{k k' k'':IntKind}{xs:C_ α}{t}(l u:Nat)(ak:bg sz R w (.slice aO n cap) xs)(af:bn S x = .int k (l:Int))(bK:bn S y = .int k' (u:Int))(bw:bn S z = .int k'' (u:Int))(az:l<=u)(hu:u<=xs.length)
  (hk:∀ae,bg sz R w (.slice ae (u - l) (u - l)) ((xs.drop l).take (u - l))->ba (.slice ae (u - l) (u - l))):sR S sz (.slice aO n cap) (some x) (some y) (some z) ba t:=by
 obtain⟨e1,e2,a1⟩:=ak.len;refine _B l u u (by simp[et,af]) (by simp[et,bK]) (by simp[et,bw]) ⟨az,Gf _,Aw⟩ Bh ?_;refine hk _ ?_;have hlen:((xs.drop l).take (u - l)).length=u - l:=by rw[LQ,AF8];omega
 by_cases aak:u=l
 .subst aak;have ad:(xs.drop u).take (u - u)=[]:=by rw[Nat.sub_self];rfl
  rw[ad];rw[if_pos rfl,Nat.sub_self];exact⟨aO,0,rfl,Gf _,AG0 _,fun h=>absurd rfl h,fun a _ i U=>absurd U (LC _)⟩
 .have h:=ak.sub l u az hu;rw[if_neg Aw] at h;rw[if_neg aak];obtain⟨o',kC,e,h1,I,ab,aE⟩:=h;injection e with f1 f2 f3
  subst f1;exact⟨_,_,by rw[hlen],by rw[hlen];exact Gf _,Aw,ab,aE⟩
end a7
namespace o
theorem amX{l:C_ Int}(ad:0<l.length)(h1:0<=l[0])(I:l[0]<=(l.length:Int) - 1):ja l = !((l.drop (1+l[0].toNat)).any fun n=>decide (n≠0)):=by
 cases l with
 | nil=>simp at ad
 | cons n r =>
  simp only[List.getElem_cons_zero,List.length_cons] at h1 I ⊢;rw[Nat.add_comm,List.drop_succ_cons];unfold ja;show(decide (0<=n/\n<=(r.length:Int))&&(r.drop n.toNat).all fun x=>decide (x=0))=_;rw[decide_eq_true Aw,AJ3,List.not_any_eq_all_not];congr 1;funext x;by_cases h:x=0<;>simp[h]
theorem aaM{l:C_ Int}(h:∀ad:0<l.length,¬(0<=l[0]/\l[0]<=(l.length:Int) - 1)):ja l=false:=by
 cases ao:ja l with
 | false=>rfl
 | true =>
  obtain⟨ad,h1,I,_⟩:=yw.1 ao;exact absurd ⟨h1,I⟩ (h ad)
theorem apm(n:Nat)(l:C_ Int)(h:1<=n):hi ((List.replicate n 0).set 0 (l.length:Int)) 1 (l.take (n - 1))=rA n l:=by
 have hlen:1+(l.take (n - 1)).length<=((List.replicate n (0:Int)).set 0 (l.length:Int)).length:=by
  rw[AE8,AF7,LQ];omega
 apply List.ext_getElem?;intro i;rw[sl hlen];have se:(l.take (n - 1)).length=min (n - 1) l.length:=LQ;cases i with
 | zero =>
  rw[if_neg Aw,List.getElem?_set_self (by rw[AF7];omega)];simp[rA]
 | succ i =>
  by_cases U:i+1<n
  .rw[ab6 U];by_cases kq:i<l.length
   .rw[if_pos Aw,show i+1 - 1=i from rfl,List.getElem?_take_of_lt Aw,List.getElem?_eq_getElem kq];simp[kq]
   .rw[if_neg Aw,List.getElem?_set_ne Aw,List.getElem?_replicate,if_pos U];simp[List.getD,List.getElem?_eq_none (show l.length<=i by omega)]
  .rw[if_neg Aw,List.getElem?_eq_none (by rw[AE8,AF7];omega),List.getElem?_eq_none (by rw[RV h];omega)]
end o
namespace Go.Proofs.R
open Go Go.RowKit a7
theorem aow(n aQ U:Int)(w:A_):Dz F.iW #[.I n,.I aQ,.I U] w fun v w'=>(∃t:Bool,v = .bool t/\(t=true↔aQ<=n/\n<=U))/\Ext w w':=by
 refine bl E.iW ?_;refine J ?_;refine I_ (fun g=>?_) (fun g=>?_)
 .refine J ?_;exact⟨⟨_,rfl,by rw[decide_eq_true_eq];exact⟨fun h=>⟨g,h⟩,fun h=>h.2⟩⟩,Ext.refl _⟩
 .refine J ?_;exact⟨⟨false,rfl,by simp only[Bool.false_eq_true,false_iff];exact fun h=>g h.1⟩,Ext.refl _⟩
theorem agq(n:Int)(w:A_):Dz F.am #[.I n] w fun v w'=>v = .bool (decide (n≠0))/\Ext w w':=by
 refine bl E.am ?_;refine J ?_;refine⟨?_,Ext.refl _⟩
 first | trivial | (congr 1;simp)
theorem agI(v:B_)(l:C_ Int)(w:A_)(h:dc w v l) :
  Dz F.j #[v,.func (.func F.am) #[] #[]] w fun bS w'=>bS = .I (lR (fun n=>decide (n≠0)) l 0)/\Ext w w':=by
 obtain⟨bI,c1,rfl,br⟩:=h.form;refine vr E.j ?_;refine nV ?_;refine J ?_;refine L_ 8 l.length [0,1,7] (fun _:Unit=>[]) () (fun k _ w'=>Ext w w'/\lR (fun n:Int=>decide (n≠0)) l 0=lR (fun n:Int=>decide (n≠0)) (l.drop k) k) a8 a8 ⟨Ext.refl _,Bh⟩ ?_;rintro k _ S aB hk ⟨aj,aX⟩;have I:=h.ext Flat.ext aj;refine J ?_;apply I_<;>intro g1
 .have aV:k<l.length:=Aw
  obtain⟨a,rfl⟩:=h.addr;rw[OH aV] at aX;refine J ?_;refine V_ (first:=[]) (cap:=[]) Cq (agq l[k] aB) ?_;rintro _ aK ⟨rfl,ag⟩;by_cases ak:l[k]≠0
  .rw[if_pos (by simpa using ak)] at aX;rw[decide_eq_true ak];refine J ?_;exact⟨by rw[aX],aj.trans ag⟩
  .rw[if_neg (by simpa using ak)] at aX;rw[decide_eq_false ak];refine J ?_;exact⟨aV,aL,(),trivial,aj.trans ag,aX⟩
 .refine J ?_;exact⟨by rw[aX,AF0 Aw];rfl,aj⟩
theorem af5(v:B_)(l:C_ Int)(w:A_)(h:dc w v l) :
  Dz F.h #[v,.func (.func F.am) #[] #[]] w fun bS w'=>bS = .bool (l.any fun n=>decide (n≠0))/\Ext w w':=by
 refine vr E.h ?_;refine nV ?_;refine J ?_;refine J_ (agI v l w h) ?_;rintro _ aB ⟨rfl,aj⟩;refine J ?_;refine⟨?_,aj⟩;congr 1;exact Bool.eq_iff_iff.2 (by rw[decide_eq_true_eq];exact Ii)
theorem WN(v:B_)(l:C_ Int)(w:A_)(h:dc w v l)(az:l.length<=100000):Dz F.gc #[v] w fun u w'=>u = .bool (o.ja l)/\Ext w w':=by
 obtain⟨ep,fp,rfl,fc⟩:=h.form;refine bl E.gc ?_;refine J ?_;apply I_<;>intro g1
 .refine J ?_;exact⟨by rw[o.aaM fun ad=>by omega],Ext.refl _⟩
 have ad:0<l.length:=Aw
 obtain⟨a,rfl⟩:=h.addr ad;refine J ?_
 try (refine K_ 0 rfl Aw ?_;refine J ?_)
 refine J_ (aow _ _ _ w) ?_;rintro _ w1 ⟨⟨t,rfl,aA⟩,ah⟩;cases t with
 | false =>
  refine J ?_;exact⟨by rw[o.aaM fun _ h=>by have:=aA.2 h;cases this],ah⟩
 | true =>
 have ao:=aA.1 rfl;have ff:=h.ext Flat.ext ah;refine J ?_
 try (refine K_ 0 rfl Aw ?_;refine J ?_)
 refine _0 (k:=.i64) (1+l[0].toNat) ff (by simp[c0,bL];omega) Aw fun ae c aq=>?_;refine J ?_;refine J_ (af5 _ (l.drop (1+l[0].toNat)) w1 (by have:=aq.len.1;exact aq)) ?_;rintro _ aB ⟨rfl,aj⟩;refine J ?_;exact⟨by rw[o.amX ad ao.1 ao.2],ah.trans aj⟩
theorem WO(v:B_)(l:C_ Int)(w:A_)(h:dc w v l)(az:l.length<=100000) :
  Dz F.ge #[v] w fun u w'=>iz w.heap.size w' u (o.jb l)/\Ext w w':=by
 obtain⟨ep,fp,rfl,fc⟩:=h.form;refine bl E.ge ?_;refine J ?_;refine J_ (WN _ l w h az) ?_;rintro _ w1 ⟨rfl,ah⟩;by_cases ao:o.ja l=true;rotate_left
 .have zX:o.ja l=false:=by simpa using ao
  rw[zX];refine J ?_;exact⟨by rw[o.aaP ao];exact aP.nil _ _ _ _ _,ah⟩
 rw[ao];obtain⟨ad,h1,I,ab⟩:=o.yw.1 ao;obtain⟨a,rfl⟩:=h.addr ad;have ff:=h.ext Flat.ext ah;refine J ?_
 try (refine K_ 0 rfl Aw ?_;refine J ?_)
 refine _y l[0].toNat Aw Aw ?_;intro aB bP db aj au;have dj:iz w.heap.size aB (.slice (some ⟨bP,0,none⟩) l[0].toNat l[0].toNat) (List.replicate l[0].toNat 0):=aP.zd _ au (by have:=ah.size;omega) (Fu _) (fun _=>rfl) Bh (by rw[AF7];unfold maxLen;omega);refine J ?_;intro aK ag;have gH:=ff.ext Flat.ext (aj.trans ag);have dG:=dj.ext ag;refine J ?_
 try (refine K_ 0 rfl Aw ?_;refine J ?_)
 try (refine K_ 0 rfl Aw ?_;refine J ?_)
 refine AD9 (k:=.i64) (k':=.i64) (k'':=.i64) 1 (1+l[0].toNat) gH (by simp[n2]) (by simp[c0,bL];omega) (by simp[c0,bL];omega) Aw Aw fun ae aq=>?_;rw[show 1+l[0].toNat - 1=l[0].toNat from Aw] at aq ⊢;refine J ?_;refine _d (p:=0) dG aq (by simp only[c0,bL];rfl) (by simp only[c0,bL];rfl) (fun _=>rfl) (by rw[AF7];omega) Cq Cq fun u aR dq dz=>?_;have a1:=(ah.trans aj).trans ag;refine J ?_;refine⟨?_,dq.ext a1 (by have:=ah.size;omega)⟩;have kq:=o.am0 ao ad;rw[<-o.Rg ao ad,Lj Aw] at dz
 have:o.hi (List.replicate l[0].toNat 0) 0 (o.jb l)=o.jb l:=by
  unfold o.hi;rw[AK8,AF9,AF0 (by rw[AF7];omega),AF2]
 rw[this] at dz;exact dz
theorem WM(n:Nat)(v:B_)(l:C_ Int)(w:A_)(h:dc w v l)(ax:1<=n/\n<=100000) :
  Dz F.IB #[.I n,v] w fun u w'=>iz w.heap.size w' u (o.rA n l)/\Ext w w':=by
 obtain⟨ep,fp,rfl,fc⟩:=h.form;refine bl E.IB ?_;refine J ?_;refine _y n Aw Aw ?_;intro aB bP db aj au;have dj:iz w.heap.size aB (.slice (some ⟨bP,0,none⟩) n n) (List.replicate n 0):=aP.zd _ au Aw (Fu _) (fun _=>rfl) Bh (by rw[AF7];unfold maxLen;omega);have dX:=h.ext Flat.ext aj;clear au;refine J ?_
 try (refine K_ 0 rfl Aw ?_;refine J ?_)
 refine _z (k:=0) dj (by rw[AF7];omega) fun aK fY dG=>?_;have a1:Ext w aK:=fY.ext aj db;have gH:=h.ext Flat.ext a1;refine J ?_;refine AD8 (k:=.i64) 1 (jz dG) (by simp[n2]) (by rw[AE8,AF7];omega) fun ae c aq=>?_;refine J ?_;refine _d (p:=1) dG gH (by simp only[c0,bL];rfl) (by simp only[c0,bL];rfl) aq (by rw[AE8,AF7];omega) Cq Cq fun u aR dq dz=>?_;rw[o.apm n l ax.1] at dz;refine J ?_;exact⟨dz,dq.ext a1 db⟩
theorem ags(v:B_)(l:C_ Int)(w:A_)(h:dc w v l)(az:l.length<=100000) :
  Dz F.IC #[v] w fun u w'=>((o.o8 l=none/\u = .tuple #[.slice none 0 0,.I 0,.bool false])\/(∃r x ae c,o.o8 l=some (r,x)/\u = .tuple #[.slice ae r.length c,.I x,.bool true]/\iz w.heap.size w' (.slice ae r.length c) r))/\Ext w w':=by
 obtain⟨ep,fp,rfl,fc⟩:=h.form;refine bl E.IC ?_;refine J ?_;refine J_ (WO _ l w h az) ?_;rintro u w1 ⟨oY,ah⟩;have fI:=jz oY;obtain⟨b9,ci,rfl,_⟩:=fI.form;refine J ?_;apply I_<;>intro g1
 .have U:o.jb l=[]:=AG1 Aw;refine J ?_;exact⟨.inl ⟨by unfold o.o8;rw[U],aL⟩,ah⟩
 have kq:=o.JS l;obtain⟨x,r,U⟩:∃x r,o.jb l=x :: r:=by
  cases ai:o.jb l with
  | nil=>rw[ai] at g1;simp at g1
  | cons x r=>exact⟨x,r,rfl⟩
 obtain⟨h7,rfl⟩:=fI.addr;refine J ?_;intro aB aj;have IS:=fI.ext Flat.ext aj;have dX:=h.ext Flat.ext (ah.trans aj);refine J ?_;refine _0 (k:=.i64) 1 IS rfl Aw fun ae c aq=>?_;have ED:(o.jb l).drop 1=r:=by rw[U];rfl
 have z6:(o.jb l)[0]' Aw=x:=by simp[U]
 rw[ED] at aq;refine J ?_
 try (refine K_ 0 rfl Aw ?_;refine J ?_)
 refine J_ (WM l.length _ r aB (by have:=aq.len.1;exact aq) Aw) ?_;rintro u aK ⟨dG,ag⟩;obtain⟨RS,x1,rfl,_⟩:=(jz dG).form;refine⟨ag,?_⟩;refine J ?_;exact⟨.inr ⟨o.rA l.length r,x,RS,x1,by unfold o.o8;rw[U],by rw[z6],aP.low (ah.trans aj).size dG⟩,(ah.trans aj).trans ag⟩
theorem agr(v:B_)(l:C_ Int)(x:Int)(w:A_)(h:dc w v l)(az:l.length<=100000) :
  Dz F.IA #[v,.I x] w fun u w'=>((o.mu l x=none/\u = .tuple #[.slice none 0 0,.bool false])\/(∃r ae c,o.mu l x=some r/\u = .tuple #[.slice ae r.length c,.bool true]/\iz w.heap.size w' (.slice ae r.length c) r))/\Ext w w':=by
 obtain⟨ep,fp,rfl,fc⟩:=h.form;refine bl E.IA ?_;refine J ?_;refine J_ (WN _ l w h az) ?_;rintro _ w1 ⟨rfl,ah⟩;by_cases ao:o.ja l=true;rotate_left
 .have zX:o.ja l=false:=by simpa using ao
  rw[zX];refine J ?_;exact⟨.inl ⟨by unfold o.mu;rw[if_neg (fun e=>ao e.1)],aL⟩,ah⟩
 rw[ao];obtain⟨ad,h1,I,ab⟩:=o.yw.1 ao;obtain⟨a,rfl⟩:=h.addr ad;have ff:=h.ext Flat.ext ah;have a6:l.headD 0=l[0]:=by cases l with | nil=>simp at ad | cons n r=>rfl
 refine J ?_;apply I_<;>intro g1
 .refine J ?_;exact⟨.inl ⟨by unfold o.mu;rw[if_neg (fun e=>e.2 (by rw[a6];omega))],aL⟩,ah⟩
 refine J ?_;refine J_ (WO _ l w1 ff az) ?_;rintro u aB ⟨dj,aj⟩;obtain⟨b9,ci,rfl,_⟩:=(jz dj).form;have kq:=o.JS l;refine J ?_;intro aK bR e9 ag bh;refine J ?_;refine U_ (y:=x) (dj.ext ag) bh rfl (fun _=>rfl) lQ Aw (by unfold maxLen;omega) (by have:=aj.size;have:=ag.size;omega) fun aO c d aR dz nA=>?_;have bC:Ext w1 aR:=(aj.trans ag).grown nA fun i U=>(dj.lt i U).1;refine J ?_;refine J_ (WM l.length _ _ aR (jz dz) Aw) ?_;rintro u bo ⟨dt,aF⟩;obtain⟨RS,x1,rfl,_⟩:=(jz dt).form;refine J ?_;exact⟨.inr ⟨_,RS,x1,by unfold o.mu;rw[if_pos ⟨ao,by rw[a6];omega⟩],rfl,aP.low (ah.trans bC).size dt⟩,(ah.trans bC).trans aF⟩
def po(w:A_)(b:Nat)(m:o.Model):Prop := ∃zs,w.heap[b]? = some (.cells zs.toArray T.a9)/\pq w zs m
theorem po.ext{w w':A_}{b:Nat}{m:o.Model}(he:Ext w w')(h:po w b m):po w' b m:=let ⟨zs,h1,I⟩:=h; ⟨zs,he.obj h1,I.ext he⟩
theorem aiF(cs:C_ B_)(m:o.Model)(w:A_)(h:o.dU w cs m)(aH:m.cA)(aJ:gF w) :
  Dz F.zo #[.agg cs.toArray] w fun u w'=>((¬(o.check m).cC=0/\u = .tuple #[.pointer none,.bool false])\/((o.check m).cC=0/\∃b,u = .tuple #[.pointer (some ⟨b,0,none⟩),.bool true]/\w.heap.size<=b/\po w' b m))/\Ext w w':=by
 have cX:=h;obtain⟨bW,bu,bI,c1,bO,c2,bQ,bp,bZ,bB,rfl,_⟩:=h.form;refine bl E.zo ?_;refine J ?_;intro w1 br cF ah al;refine J ?_;refine J_ (yy _ m w1 (cX.ext ah) aH (aJ.ext ah)) ?_;rintro _ aB ⟨rfl,aj⟩;replace al:=aj.obj al;have e2:=ah.trans aj;refine J ?_;refine _K (v:=.I (o.check m).cC) rfl ?_;refine J ?_;refine I_ (fun hk=>?_) (fun hk=>?_);rotate_left
 .refine J ?_;exact⟨.inl ⟨hk,aL⟩,e2⟩
 have P9:o.lay m=o.layout m:=o.FB hk;refine J ?_;intro aK ag;replace al:=ag.obj al;have a1:=e2.trans ag;refine J ?_;refine J_ (FA _ m aK (cX.ext a1) aH (aJ.ext a1)) ?_;rintro _ aR ⟨⟨ys,rfl,Yu⟩,aw⟩;rw[P9] at Yu;have bC:=a1.trans aw;refine⟨aw,?_⟩;refine J ?_;refine J_ (wI _ m aR (cX.ext bC) aH) ?_;rintro bH bo ⟨ak2,aF⟩;have bF:=bC.trans aF;refine⟨aw.trans aF,?_⟩;refine J ?_;refine J_ (yL _ m bo (cX.ext bF) (o.iu hk).lim) ?_;rintro ho bt ⟨tv,aI⟩;have cg:=bF.trans aI;refine⟨(aw.trans aF).trans aI,?_⟩;have Zv:=ak2.ext aI;have Yv:=Yu.here.ext (aF.trans aI);obtain⟨eB,d0,dB,d1,ec,d2,er,d3,eN,d4,rfl,_⟩:=Yv.form;obtain⟨b9,ci,rfl,_⟩:=(aP.hA (enc:=o.cR.enc) (fun _=>rfl) Zv).form;obtain⟨fm,gd,rfl,_⟩:=(aP.hA (enc:=o.Ref.enc) (fun _=>rfl) tv).form;refine J ?_;intro bG iC ia bm cf;have c8:=cg.trans bm;refine J ?_;exact⟨.inr ⟨hk,iC,aL,by have:=cg.size;omega,_,cf,_,_,_,_,rfl,cX.ext c8,Yv.ext bm,(aP.hA (enc:=o.cR.enc) (fun _=>rfl) (Zv.ext bm)),(aP.hA (enc:=o.Ref.enc) (fun _=>rfl) (tv.ext bm))⟩,c8⟩
theorem XN(b:Nat)(m:o.Model)(ref:Int)(q p k:Nat)(w:A_)(h:po w b m)(bq:o.ez m ref q p k) :
  Dz F.n #[.pointer (some ⟨b,0,none⟩),.I ref] w fun u w'=>(∃gn gz aO fz,u = .agg ((o.bx m p k).enc (.slice gn (o.bx m p k).guard.length gz) (.slice aO (o.bx m p k).bE.length fz)).toArray/\o.eL w (.slice gn (o.bx m p k).guard.length gz) (o.bx m p k).guard/\o.lK w (.slice aO (o.bx m p k).bE.length fz) (o.bx m p k).bE)/\Ext w w':=by
 obtain⟨zs,an,h⟩:=h;obtain⟨eB,d0,dB,d1,ec,d2,er,d3,eN,d4,bW,bu,bI,c1,bO,c2,bQ,bp,bZ,bB,b9,ci,fm,gd,rfl,_,_,_,_,_,_,_,_,_,_,ab,aX,bD⟩:=h.form;have ao:=bq.at_.U;have aq:=bq.at_.aq;have mP:=bq.at_.hk;have oe:=bq.at_.ip;obtain⟨r,rfl⟩:=Rt bq.aQ;have aG:r<(o.refs m).length:=bq.U;have gm:(o.refs m)[r].inst=(q:Int):=bq.at_.ox;have o0:(o.refs m)[r].cmd=(k:Int):=bq.at_.sA;obtain⟨jI,rfl⟩:=bD.addr;obtain⟨h7,rfl⟩:=aX.addr;obtain⟨a3,rfl⟩:=ab.addr;obtain⟨lZ,bV,dL,dA,eW,fl⟩:=ab.at p aq;obtain⟨CA,Bs,rfl,Cp⟩:=fl.form;obtain⟨ac,rfl⟩:=fl.addr;obtain⟨eE,e6,dn,fR,hv,fW⟩:=fl.at k mP;obtain⟨gn,gz,rfl,_⟩:=hv.form;obtain⟨sw,rZ,rfl,_⟩:=fW.form;unfold o.dw.enc at dA;unfold o.dr.enc at fR;refine bl E.n ?_;refine J ?_;intro w1 bP db ah au;replace an:=ah.obj an;have O7:=bD.ext Flat.ext ah;refine J ?_;intro aB cx e3 aj bf;have qd:(o.refs m)[r].enc=[.I q,.I k]:=by unfold o.Ref.enc;rw[gm,o0]
 rw[qd] at bf;have z4:=cr au;replace au:=aj.obj au;replace an:=aj.obj an;have e2:=ah.trans aj;have zz:=aX.ext Flat.ext e2;have Cg:=dA.ext e2;have Ez:=fR.ext e2;clear O7;refine J ?_;intro aK ag;replace au:=ag.obj au;replace bf:=ag.obj bf;replace an:=ag.obj an;replace zz:=zz.ext Flat.ext ag;replace Cg:=Cg.ext ag;replace Ez:=Ez.ext ag;refine J ?_;refine K_ p (by rw[oe]) aq ?_;refine J ?_;intro aR dq bY;refine J ?_;have j8:=o.vK aq mP;exact⟨⟨gn,gz,sw,rZ,by rw[j8];rfl,by rw[j8];exact hv,by rw[j8];exact fW⟩,dq.ext (e2.trans ag) Aw⟩
theorem OD(b:Nat)(m:o.Model)(c:Nat)(w:A_)(h:po w b m)(aS:o.eD m)(ai:c<m.ar.length) :
  Dz F.e1 #[.pointer (some ⟨b,0,none⟩),.I c] w fun u w'=>u = .tuple #[.I (o.b6 m c),.I (o.b6 m c+(1+o.fH m c):Nat)]/\Ext w w':=by
 obtain⟨zs,an,h⟩:=h;obtain⟨eB,d0,dB,d1,ec,d2,er,d3,eN,d4,bW,bu,bI,c1,bO,c2,bQ,bp,bZ,bB,b9,ci,fm,gd,rfl,_,_,dV,dH,df,eO,fM,ad,h1,I,ab,aX,bD⟩:=h.form;obtain⟨j7,e0⟩:=o.s6 ai;have hS:=(aS.chan _ (Gy ai)).cap;have eE:=o.oN ai;have sj:=o.kX ai;have ko:o.c6 m<=64:=o.iL aS;obtain⟨cZ,rfl⟩:=dH.addr;obtain⟨pr,rfl⟩:=I.addr;have dT:=(I.at c ai).cells;refine bl E.e1 ?_;refine J ?_;intro w1 ah;refine J ?_;refine⟨?_,ah⟩;rw[e0,show(((o.b6 m c+(1+o.fH m c):Nat)):Int)=(o.b6 m c:Int)+1+m.ar[c].cap from Aw]
end Go.Proofs.R
end
section
namespace o
theorem anx(m:Model):(layout m).ar.length=m.ar.length:=by simp[layout,Ag,dx,ua]
end o
namespace Go.Proofs.R
open Go Go.RowKit a7
theorem y1.ext{w w':A_}{cs:C_ B_}{l:C_ Int}(he:Ext w w')(h:y1 w cs l):y1 w' cs l:=let ⟨v,h1,I⟩:=h; ⟨v,h1,I.ext Flat.ext he⟩
theorem ais(ck cU q p:Nat)(v:B_)(m:o.Model)(s:C_ Int)(w:A_)(bN:w.heap[ck]? = some (.cells #[.pointer (some ⟨cU,0,none⟩),.I q,v] T.cZ))(ek:po w cU m)(gl:(o.check m).cC=0)(ak:dc w v s)(av:o.Fits m s)(hIn:o.fo m q p) :
  Dz F.hC #[.pointer (some ⟨ck,0,none⟩)] w fun u w'=>(∃es,u = .agg es.toArray/\MI w' es (o.cc m s q))/\Ext w w':=by
 obtain⟨zs,an,h9⟩:=ek;obtain⟨eB,d0,dB,d1,ec,d2,er,d3,eN,d4,bW,bu,bI,c1,bO,c2,bQ,bp,bZ,bB,b9,ci,fm,gd,rfl,_,_,dV,dH,df,_,_,ad,h1,I,ab,aX,bD⟩:=h9.form;obtain⟨ep,fp,rfl,fc⟩:=ak.form;have aS:=o.iu gl;have hlen:=av.len;have ko:o.c6 m<=64:=o.iL aS;have gG:=aS.gG;have auR:(o.layout m).ar.length=m.ar.length:=o.anx m;have kq:(o.insts m).length<=30:=by have:=o.uS m;have:=aS.procs;omega
 clear h9 bD;refine bl E.hC ?_;refine J ?_;intro w1 bP db ah au;refine J ?_;intro aB fj ajW aj dJ;have awQ:=cr au;have Tk:=cr dJ;have z12:=aj.size;have Ef:∀{W},Mod (fun i=>i=fj) aB W->Ext w W:=fun h=>ah.trans (h.ext aj fun i U e=>Aw);have Yh:∀{W},Mod (fun i=>i=fj) aB W->W.heap[bP]? = _:=fun h=>(h.ext aj fun i U e=>Aw).obj au;have JP:∀{W},Ext w W->W.heap[ck]? = _:=fun e=>e.obj bN;have Cm:∀{W},Ext w W->W.heap[cU]? = _:=fun e=>e.obj an;have e2:=ah.trans aj;replace bN:=e2.obj bN;replace an:=e2.obj an;clear au;refine J ?_;refine L_ 24 m.vars.length [0,2,3,22,23] (fun _:gr=>[]) (none,0,0) (fun k v W=>(Mod (fun i=>i=fj) aB W/\W.heap[fj]? = some (.cells #[.slice v.1 v.2.1 v.2.2,.slice none 0 0,.slice none 0 0,.slice none 0 0,.I 0] T.v))/\∃cd:C_ (e8 1),cd.length=k/\pj T.b 1 aB.heap.size W (.slice v.1 v.2.1 v.2.2) cd/\∀i (h1:i<cd.length) (I:i<(o.cc m s q).vars.length),y1 w cd[i].1 (o.cc m s q).vars[i]) a8 a8 ⟨⟨Mod.refl _ _,dJ⟩,[],rfl,aP.nil _ _ _ _ _,fun i h=>absurd h (LC _)⟩ ?_;clear dJ bN an;rintro k v S bt hk ⟨⟨jN,dJ⟩,cd,la,c9,Ee⟩;have hq:=Ef jN;have bN:=JP hq;have an:=Cm hq;refine J ?_;apply I_<;>intro g1
 .have cI:k<m.vars.length:=Aw
  obtain⟨a,rfl⟩:=h1.addr;have dv:=o.r0 m.vars[k] m.scalars;have nz:=o.rJ cI;have eE:=o.mL m;obtain⟨eM,hG⟩:=o.xf cI;have dT:=((h1.at k cI).cells).ext hq;refine J ?_;intro wn qY wb fr akt;refine J ?_;intro bG dy gu;have bm:Ext bt bG:=dy.ext fr wb;replace gu:bG.heap[qY]? = some (.cells m.vars[k].enc.toArray T.l):=gu;replace bN:=bm.obj bN;replace an:=bm.obj an;replace dJ:=bm.obj dJ;have dM:=c9.ext bm;have gx:=hq.trans bm;have ib:Mod (fun i=>i=fj) aB bG:=jN.trans bm.mod;clear dy fr akt dT c9;obtain⟨a0,rfl⟩:=dV.addr;have LD:=dV.ext Flat.ext gx;refine J ?_;intro cQ bA;replace dJ:=bA.obj dJ;replace bN:=bA.obj bN;replace an:=bA.obj an;replace gu:=bA.obj gu;have hx:=dM.ext bA;have hr:=gx.trans bA;have hT:Mod (fun i=>i=fj) aB cQ:=ib.trans bA.mod;have Cj:=ak.ext Flat.ext hr;clear LD dM;refine J ?_;refine J_ (Bu m.vars[k] _ m.scalars cQ (ad.ext hr)) ?_;rintro _ cS ⟨rfl,bT⟩;refine⟨bT,?_⟩;refine J ?_;refine _Y (k:=.i64) (k':=.i64) (o.gp m k) (o.gp m k+(o.cells m.vars[k] m.scalars).toNat) ak (by simp[c0,bL,hG]) (by simp[c0,bL,hG];omega) Aw Aw fun ae c aq=>?_;rw[show o.gp m k+(o.cells m.vars[k] m.scalars).toNat - o.gp m k=(o.cells m.vars[k] m.scalars).toNat from Aw] at aq ⊢;have wF:=o.Gj (s:=s) (inst:=q) cI;refine J ?_;intro fN pt BV eg k5;refine⟨bT.trans eg,?_⟩;have Mx:=bT.size;have awG:=eg.size;have On:Ext cQ fN:=bT.trans eg;have oi:=hx.ext On;have z58:=hT.size;refine U_ (enc:=j2) (y:=(⟨[.slice ae (o.cells m.vars[k] m.scalars).toNat c],rfl,by simp[Value.oneCell']⟩:e8 1)) oi k5 rfl j3 tf Aw (by unfold maxLen;omega) Aw fun aO n kC h2 aG yj=>?_;have YX:=oi.box yj (On.obj dJ) BJ;have rj:=(hT.trans On.mod).own yj fun i U=>(oi.lt i U).1;clear dJ oi hx k5 gu bN an;refine J ?_;intro l5 kc jv;refine J ?_;refine⟨cI,aL,(aO,n,kC),trivial,⟨rj.trans (kc.mod rfl),jv⟩,_,by simp[la],aG.wr kc Tk,fun i h1 I=>?_⟩;by_cases U:i<cd.length
  .rw[AI5 U];exact Ee i U I
  .have e:i=cd.length:=by simp at h1;omega
   subst e;rw[AI6 (Gf _)];obtain⟨_,amq⟩:=List.getElem?_eq_some_iff.1 wF;subst la;rw[amq];exact⟨.slice ae _ c,Bh,aq⟩
 have lV:m.vars.length=k:=Aw
 subst lV;obtain⟨dn,nH,fz⟩:=v;have awA:=cr dJ;have z26:=jN.size;have mN:∀{W},Mod (fun i=>i<aB.heap.size) bt W->Ext w W->xB W (.slice dn nH fz) (o.cc m s q).vars:=fun {W} h he =>
  bg.FQ (by rw[la,o.LX]) (aP.jg j3 (aP.mod c9 h fun i U a=>by have:=(c9.lt i U).1;omega)) fun i h1 I=>(Ee i h1 I).ext he
 clear c9 Ee la;have Yy:∀{W},Mod (fun i=>i=fj) bt W->Mod (fun i=>i=fj) aB W:=fun h=>jN.trans h;refine J ?_;clear bN an;refine L_ 73 m.ar.length [0,2,3,71,72] (fun _:gr=>[]) (none,0,0) (fun k v W=>(Mod (fun i=>i=fj) bt W/\W.heap[fj]? = some (.cells #[.slice dn nH fz,.slice v.1 v.2.1 v.2.2,.slice none 0 0,.slice none 0 0,.I 0] T.v))/\aP cE T.a 1 bt.heap.size W (.slice v.1 v.2.1 v.2.2) (((o.cc m s q).lens).take k)) a8 a8 ⟨⟨Mod.refl _ _,dJ⟩,by simpa using aP.nil _ _ _ _ _⟩ ?_;clear dJ;rintro k v S bG hk ⟨⟨ib,dJ⟩,dM⟩;have gx:=Ef (Yy ib);have bN:=JP gx;have an:=Cm gx;refine J ?_;apply I_<;>intro g1
 .have cI:k<m.ar.length:=Aw
  have nz:=o.vF cI;have eE:=o.mL m;obtain⟨eM,e0⟩:=o.s6 cI;obtain⟨cZ,rfl⟩:=dH.addr;obtain⟨afn,rfl⟩:=ak.addr;have jx:=ak.ext Flat.ext gx;have LF:=dH.ext Flat.ext gx;refine J ?_;intro cQ bA;replace dJ:=bA.obj dJ;replace bN:=bA.obj bN;replace an:=bA.obj an;have hx:=dM.ext bA;have hT:Mod (fun i=>i=fj) bt cQ:=ib.trans bA.mod;have Cj:=jx.ext Flat.ext bA;clear jx dM LF;refine J ?_;refine K_ (o.b6 m k) (by rw[e0]) Aw ?_;refine J ?_;intro cS j0 lT bT dp;refine⟨bT,?_⟩;have gk:o.b6 m k<s.length:=Aw
  have wF:=o.adC (inst:=q) cI gk;have alc:(((o.cc m s q).lens).take k).length<=12:=by rw[LQ,o.LW];omega
  have gO:=hx.ext bT;have Th:=hT.size;have Mx:=bT.size;refine U_ (y:=s[o.b6 m k]) gO dp rfl (fun _=>rfl) lQ Aw (by unfold maxLen;omega) Aw fun aO n c eG pH oU=>?_;have akl:=gO.box oU (bT.obj dJ) BJ;have sg:=(hT.trans bT.mod).own oU fun i U=>(gO.lt i U).1;clear dJ gO hx dp bN an;refine J ?_;intro fN ie k5;refine J ?_;refine⟨cI,aL,(aO,n,c),trivial,⟨sg.trans (ie.mod rfl),k5⟩,?_⟩;rw[AJ4,wF];exact pH.mod (ie.mod (A:=fun i=>i=fj) rfl) fun i U e=>by have:=(pH.lt i U).1;omega
 have rh:m.ar.length=k:=Aw
 rw[Lj (by rw[o.LW];omega)] at dM;have Ej:ed bt (fun w=>dc w (.slice v.1 v.2.1 v.2.2) (o.cc m s q).lens) bG:=aP.new (fun _=>rfl) dM;obtain⟨lH,l1,xT⟩:=v;have awC:=cr dJ;have z67:=ib.size;have ajz:∀{W},Mod (fun i=>i=fj) bG W->Mod (fun i=>i=fj) aB W:=fun h=>Yy (ib.trans h);clear dM;refine J ?_;clear bN an;refine L_ 99 m.procs.length [0,2,3,97,98] (fun _:gr=>[]) (none,0,0) (fun k v W=>(Mod (fun i=>i=fj) bG W/\W.heap[fj]? = some (.cells #[.slice dn nH fz,.slice lH l1 xT,.slice none 0 0,.slice v.1 v.2.1 v.2.2,.I 0] T.v))/\∃bs:C_ Nat,bs.length=k/\nM m bG.heap.size bs (fun p=>o.jl m s p (m.procs[p]?.map (·.b2) |>.getD 0) 0) (.slice v.1 v.2.1 v.2.2) W) a8 a8 ⟨⟨Mod.refl _ _,dJ⟩,[],rfl,⟨aP.nil _ _ _ _ _,(fun b h=>nomatch h),List.nodup_nil,(fun p h=>nomatch h)⟩⟩ ?_;clear dJ;rintro k v S cQ hk ⟨⟨hT,dJ⟩,bs,Ev,vY⟩;have hr:=Ef (ajz hT);have bN:=JP hr;have an:=Cm hr;refine J ?_;apply I_<;>intro g1
 .have cI:k<m.procs.length:=Aw
  obtain⟨a,rfl⟩:=ab.addr;obtain⟨lZ,bV,dL,dA,eW,fl⟩:=ab.at k cI;obtain⟨ab1,W7,rfl,abv⟩:=eW.form;obtain⟨abX,WK,rfl,abi⟩:=fl.form;have c5:=(aS.proc _ (Gy cI)).b2;replace dA:=dA.ext hr;refine J ?_;intro cS s3 BW bT oa;replace dJ:=bT.obj dJ;have x7:=vY.ext bT;have mQ:Mod (fun i=>i=fj) bG cS:=hT.trans bT.mod;clear dA vY bN an;refine J ?_;intro eG ch;replace dJ:=ch.obj dJ;replace oa:=ch.obj oa;have BP:=x7.ext ch;have sg:Mod (fun i=>i=fj) bG eG:=mQ.trans ch.mod;refine J ?_;refine _y m.procs[k].b2.toNat Aw Aw ?_;intro fN pt BV eg k5;refine⟨eg,?_⟩;refine J ?_;intro h2 Bi tj ev iF;refine⟨eg.trans ev,?_⟩;have q1:=eg.trans ev;have Ed:=BP.ext q1;have ak0:=o.yg (m:=m) (bs:=bs) Aw;have at2:=aS.procs;have awD:=sg.size;have awx:=q1.size;refine U_ (y:=(pt,m.procs[k].b2.toNat)) Ed.row iF rfl (fun _=>rfl) ahv Aw (by unfold maxLen;omega) Aw fun aO n c l5 zV PX=>?_;have auy:=Ed.row.box PX (q1.obj dJ) BJ;have tr:=(sg.trans q1.mod).own PX fun i U=>(Ed.row.lt i U).1;have ajj:nM m bG.heap.size (bs++[pt]) _ (.slice aO n c) l5:=Ed.snoc Aw (by subst Ev;exact zV) PX Aw (fun p aq e=>by have:=cr (BP.cm p aq);omega) (by
   subst Ev;rw[o.Wo];simp only[List.getElem?_eq_getElem cI,Option.map_some,Option.getD_some];exact ev.obj k5)
  clear dJ Ed BP x7 iF;refine J ?_;intro vh yt oa;refine J ?_;exact⟨cI,aL,(aO,n,c),trivial,⟨tr.trans (yt.mod rfl),oa⟩,bs++[pt],by simp[Ev],ajj.mod (yt.mod (A:=fun i=>i=fj) rfl) fun i e=>Aw⟩
 have uJ:m.procs.length=k:=Aw
 subst uJ;obtain⟨Mg,RH,DM⟩:=v;have awE:=cr dJ;have z78:=hT.size;have vZ:∀{W},Mod (fun i=>i∈bs) cQ W->Ext w W:=fun h=>h.ext hr fun i U e=>by have:=vY.low i e;have:=ah.size;omega
 have ajn:¬fj∈bs:=fun h=>by have:=vY.low _ h;omega
 have ZF:∀{W},Mod (fun i=>i∈bs) cQ W->W.heap[fj]? = _:=fun h=>h.obj ajn dJ;refine J ?_;refine L_ 120 (o.insts m).length [0,2,3,118,119] (fun _:Unit=>[]) () (fun k _ W=>Mod (fun i=>i∈bs) cQ W/\nM m bG.heap.size bs (fun p=>o.jl m s p (m.procs[p]?.map (·.b2) |>.getD 0) k) (.slice Mg RH DM) W) a8 a8 ⟨Mod.refl _ _,vY⟩ ?_;clear vY dJ bN an;rintro k _ S cS hk ⟨mQ,x7⟩;have gR:=vZ mQ;have bN:=JP gR;have an:=Cm gR;have dJ:=ZF mQ;refine J ?_;apply I_<;>intro g1
 .have cI:k<(o.insts m).length:=Aw
  have IP:=aX.ext Flat.ext gR;obtain⟨h7,rfl⟩:=aX.addr;have mT:=o.rr _ (Gy cI);obtain⟨ei,ao,zY,qh⟩:=o.z8 mT;have B7:(o.insts m)[k]?.map (·.proc)=some (ei:Int):=by rw[List.getElem?_eq_getElem cI,AG6,zY]
  obtain⟨d,Fa,akG⟩:=av.loc cI ao qh;obtain⟨kb,Fb⟩:=List.getElem?_eq_some_iff.1 Fa;obtain⟨eM,hG⟩:=o.rq cI;obtain⟨p8,rfl⟩:=ak.addr;obtain⟨a2,rfl⟩:=df.addr;have c5:=(aS.proc _ (Gy ao)).b2;refine J ?_;intro wn NC YM fr aku;refine J ?_;intro eG o1 oR;have ch:Ext cS eG:=o1.ext fr YM;replace oR:eG.heap[NC]? = some (.cells #[.I ei,.I (o.insts m)[k].elem] T.d):=by rw[<-zY];exact oR
  replace dJ:=ch.obj dJ;replace bN:=ch.obj bN;replace an:=ch.obj an;have BP:=x7.ext ch;have sg:Mod (fun i=>i∈bs) cQ eG:=mQ.trans ch.mod;clear o1 fr aku IP x7;refine J ?_;intro fN eg;replace dJ:=eg.obj dJ;replace an:=eg.obj an;replace bN:=eg.obj bN;replace oR:=eg.obj oR;have OX:=BP.ext eg;have Ce:Mod (fun i=>i∈bs) cQ fN:=sg.trans eg.mod;have aag:=ak.ext Flat.ext ((gR.trans ch).trans eg);have av9:=df.ext Flat.ext ((gR.trans ch).trans eg);clear BP;have ak0:=o.yg (m:=m) (bs:=bs) Aw;have lX:=aP.jg (enc:=o.zp) (sz:=1) (fun _=>rfl) OX.row;obtain⟨ni,rfl⟩:∃a,Mg=some a:=lX.addr;have lA:=lX.len.1;obtain⟨auG,Zu⟩:=List.getElem?_eq_some_iff.1 (o.EH (m:=m) (bs:=bs) (k:=ei) Aw ao);have hE:d<m.procs[ei].b2.toNat:=Aw
  have Yn:(o.qn m bs)[ei].1=bs[ei]:=by rw[Zu]
  have O0:(o.qn m bs)[ei].2=m.procs[ei].b2.toNat:=by rw[Zu]
  have hblk:=OX.cm ei Aw;simp only[List.getElem?_eq_getElem ao,Option.map_some,Option.getD_some] at hblk;rw[<-Yn] at hblk;have iI:=o.vA m s ei m.procs[ei].b2 k;have Qx:=o.DC (m:=m) (s:=s) (p:=ei) (k:=k) hE;have dv:=o.NA m s ei d k;have auX:dc fN (.slice (some ⟨(o.qn m bs)[ei].1,0,none⟩) (o.qn m bs)[ei].2 (o.qn m bs)[ei].2) (o.jl m s ei m.procs[ei].b2 k):=RL hblk (by rw[O0,iI]) (by rw[iI];unfold maxLen;omega);have ED:d<(o.jl m s ei m.procs[ei].b2 k).length:=Aw
  obtain⟨_,Qy⟩:=List.getElem?_eq_some_iff.1 Qx;refine J ?_;refine K_ (o.da m k) (by rw[hG]) (by rw[hlen];omega) ?_;refine J ?_;refine K_ d Fb (by rw[O0];exact hE) ?_;refine J ?_;refine K_ d Fb (by rw[O0];exact hE) ?_;refine J ?_;refine _E hblk (by rw[List.size_toArray,aaJ];omega) rfl fun h2 lB iF=>?_;rw[aaK (AG8 _),Qy,<-o.Wn B7 Fa hE] at iF;rw[Yn] at lB iF;refine J ?_;refine⟨cI,aL,(),trivial,Ce.trans (lB.mod (Gy _)),OX.step (q:=ei) Aw lB (by simp only[List.getElem?_eq_getElem ao,Option.map_some,Option.getD_some];exact iF) fun p aq JB=>?_⟩;have Z1:p<m.procs.length:=Aw
  simp only[List.getElem?_eq_getElem Z1,Option.map_some,Option.getD_some];exact o.Wm (by rw[B7];intro e;have:=Option.some.inj e;omega)
 have lx:(o.insts m).length=k:=Aw
 subst lx;have ZQ:Mod (fun i=>i=fj) bG cS:=hT.comp mQ (fun i _ e=>e) fun i U e=>by have:=x7.low i e;omega
 have Qe:Mod (fun i=>i=fj) bt cS:=ib.trans ZQ;have aln:Mod (fun i=>i=fj) aB cS:=jN.trans Qe;have qi:=Yh aln;have ajA:ed bt (fun w=>dc w (.slice lH l1 xT) (o.cc m s q).lens) cS:=Ej.move ZQ (fun i _ e=>Aw) fun i _ e=>e;have c4:∀{W},Mod (fun i=>i<bt.heap.size) cS W->xB W (.slice Mg RH DM) (o.cc m s q).at_:=fun {W} ek=>(x7.mod ek fun i e=>Aw).aox Ev (o.SG m s q) (fun p aq=>by
   simp only[List.getElem?_eq_getElem aq,Option.map_some,Option.getD_some];exact⟨o.vA _ _ _ _ _,by have:=(aS.proc _ (Gy aq)).b2;omega⟩) fun p aq=>by
   simp only[List.getElem?_eq_getElem aq,Option.map_some,Option.getD_some];exact o.adB aq
 have z9:=Qe.size;clear Ej x7 Yh ZF;have ao:=hIn.ao;have nz:=o.Q8 ao;obtain⟨eM,hG⟩:=o.rq ao;obtain⟨a2,rfl⟩:=df.addr;have acy:=df.ext Flat.ext gR;obtain⟨h7,rfl⟩:=aX.addr;have IP:=aX.ext Flat.ext gR;have mT:=o.rr _ (Gy ao);obtain⟨eX,aq,hU,qh⟩:=o.z8 mT;have I6:(o.l0 m (o.insts m)[q]).length=1+m.procs[eX].vars.length:=by rw[qh,o.Ap]
 obtain⟨a,rfl⟩:=ab.addr;obtain⟨lZ,bV,dL,dA,eW,fl⟩:=ab.at eX aq;obtain⟨ab1,W7,rfl,abv⟩:=eW.form;obtain⟨abX,WK,rfl,abi⟩:=fl.form;refine J ?_;intro eG ch;replace dJ:=ch.obj dJ;replace an:=ch.obj an;replace bN:=ch.obj bN;replace qi:=ch.obj qi;have ap4:=acy.ext Flat.ext ch;have ajq:=IP.ext Flat.ext ch;clear acy IP;refine J ?_;intro fN Wp ajU eg k5;refine⟨eg,?_⟩;refine J ?_;intro h2 lB iF;have ev:Ext eG h2:=lB.ext eg ajU;replace iF:h2.heap[Wp]? = some (.cells #[.I eX,.I (o.insts m)[q].elem] T.d):=by rw[<-hU];exact iF
 replace dJ:=ev.obj dJ;replace bN:=ev.obj bN;replace an:=ev.obj an;replace qi:=ev.obj qi;have rj:Mod (fun i=>i=fj) cS h2:=ch.mod.trans ev.mod;have awH:=rj.size;have pX:Ext w h2:=gR.trans (ch.trans ev);have ap5:=df.ext Flat.ext pX;clear k5 lB ajq ap4;refine J ?_;intro l5 hd;replace dJ:=hd.obj dJ;replace bN:=hd.obj bN;replace an:=hd.obj an;replace qi:=hd.obj qi;replace iF:=hd.obj iF;have tr:Mod (fun i=>i=fj) cS l5:=rj.trans hd.mod;have xr:Ext w l5:=pX.trans hd;have auY:=ak.ext Flat.ext xr;clear ap5;replace dA:=dA.ext xr;unfold o.dw.enc at dA;refine J ?_;intro vh k7;replace dJ:=k7.obj dJ;replace bN:=k7.obj bN;replace an:=k7.obj an;replace qi:=k7.obj qi;replace iF:=k7.obj iF;have Jv:Mod (fun i=>i=fj) cS vh:=tr.trans k7.mod;have yW:Ext w vh:=xr.trans k7;have auZ:=ak.ext Flat.ext yW;replace dA:=dA.ext k7;refine J ?_;refine _Y (k:=.i64) (k':=.i64) (o.da m q+1) (o.da m q+1+m.procs[eX].vars.length) ak (by simp[c0,bL,hG]) (by simp[c0,bL,hG]) Aw Aw fun ae c E6=>?_;rw[show o.da m q+1+m.procs[eX].vars.length - (o.da m q+1)=m.procs[eX].vars.length from Aw] at E6 ⊢;refine J ?_;intro Mi JJ zE;have n17:Wp≠fj:=by have:=ch.size;omega
 replace iF:=JJ.obj iF n17;replace qi:=JJ.obj qi Aw;have alm:Mod (fun i=>i=fj) cS Mi:=Jv.trans (JJ.mod rfl);have yX:Ext w Mi:=JJ.ext yW Aw;refine J ?_;intro ad5 QU oR;have ZM:Mod (fun i=>i=fj) cS ad5:=alm.trans (QU.mod rfl);have aey:Ext w ad5:=QU.ext yX Aw;replace qi:=QU.obj qi Aw;refine J ?_;intro S7 QV aur;have MF:Ext w S7:=QV.ext aey Aw;have ZR:Mod (fun i=>i<bt.heap.size) cS S7:=(ZM.AI fun i e=>Aw).trans (QV.mod Aw);have alo:Mod (fun i=>i<aB.heap.size) bt cS:=Qe.AI fun i e=>Aw
 have alp:Mod (fun i=>i<aB.heap.size) cS S7:=(ZM.AI fun i e=>Aw).trans (QV.mod Aw);refine J ?_;obtain⟨dS,e1⟩:=o.xa s ao (n:=m.procs[eX].vars.length) Aw;refine⟨⟨_,rfl,_,_,_,_,by rw[e1];rfl,mN (alo.trans alp) MF,ajA _ ZR,?_,c4 ZR⟩,MF⟩;rw[dS];exact E6.ext Flat.ext MF
structure ln(w0 w:World)(ck cU g c q base:Nat)(m:o.Model)(s:List Int):Prop where
 hz:Ext w0 w
 low:w0.heap.size<=base
 C2:po w0 cU m
 box:w.heap[ck]? = some (.cells #[.pointer (some ⟨cU,0,none⟩),.int .i64 q,.slice (some ⟨g,0,none⟩) s.length c] T.cZ)
 own:iz base w (.slice (some ⟨g,0,none⟩) s.length c) s
theorem ln.ext{w0 w w':A_}{ck cU g c q base:Nat}{m:o.Model}{s:C_ Int}(he:Ext w w')(h:ln w0 w ck cU g c q base m s):ln w0 w' ck cU g c q base m s :=
 ⟨h.hz.trans he,h.low,h.C2,he.obj h.box,h.own.ext he⟩
theorem ln.DG{w0 w:A_}{ck cU g c q base:Nat}{m:o.Model}{s:C_ Int}(h:ln w0 w ck cU g c q base m s):base<=g/\g<w.heap.size:=aP.lt h.own g rfl
theorem ln.ne{w0 w:A_}{ck cU g c q base:Nat}{m:o.Model}{s:C_ Int}(h:ln w0 w ck cU g c q base m s):ck≠g:=fun e=>by
 obtain⟨cur,h1⟩:=aP.cm h.own g rfl;have I:=h.box;rw[e,h1] at I;injection I with I
 injection I with _ I
 revert I;decide
theorem ln.mod{w0 w w':A_}{ck cU g c q base:Nat}{m:o.Model}{s t:C_ Int}(h:ln w0 w ck cU g c q base m s)(hm:Mod (fun i=>i=g) w w')(aJ:iz base w' (.slice (some ⟨g,0,none⟩) s.length c) t)(az:t.length=s.length):ln w0 w' ck cU g c q base m t :=
 ⟨hm.ext h.hz fun i U e=>by have:=h.low;have:=h.DG;omega,h.low,h.C2,by rw[az];exact hm.obj h.ne h.box,by rw[az];exact aJ⟩
theorem ln.Al{w0 w:A_}{ck cU g c q base:Nat}{m:o.Model}{s:C_ Int}(h:ln w0 w ck cU g c q base m s):dc w (.slice (some ⟨g,0,none⟩) s.length c) s:=jz h.own
def kn(base g:Nat)(v:B_)(ae:H_ (C_ Int))(u:B_)(w w':A_):Prop :=
 ((∃t,ae=some t/\u = .bool true/\iz base w' v t)\/(ae=none/\u = .bool false))/\Mod (fun i=>i=g) w w'
theorem kn.before{base g:Nat}{v:B_}{ae:H_ (C_ Int)}{u:B_}{w w1 w':A_}(h:kn base g v ae u w1 w')(he:Ext w w1):kn base g v ae u w w':=⟨h.1,he.mod.trans h.2⟩
theorem kn.none{base g:Nat}{v:B_}{ae:H_ (C_ Int)}{w w':A_}(aJ:ae=Option.none)(he:Ext w w'):kn base g v ae (.bool false) w w':=⟨.inr ⟨aJ,rfl⟩,he.mod⟩
theorem kn.Rf{base g:Nat}{v:B_}{ae:H_ (C_ Int)}{u:B_}{w w':A_}(h:kn base g v ae u w w'):∃t:Bool,u = .bool t:=by
 rcases h.1 with ⟨_,_,e,_⟩ | ⟨_,e⟩
 .exact⟨_,e⟩
 .exact⟨_,e⟩
theorem BN{w0:A_}(ck cU g c q p base:Nat)(m:o.Model)(s:C_ Int)(gQ:B_)(e:C_ o.Node)(w:A_)(bN:ln w0 w ck cU g c q base m s)(gl:(o.check m).cC=0)(av:o.Fits m s)(hIn:o.fo m q p)(he:o.eL w gQ e) :
  Dz F.BH #[.pointer (some ⟨ck,0,none⟩),gQ] w fun u w'=>u = .tuple #[.I (o.eval e (o.cc m s q)).1,.bool (decide ((o.eval e (o.cc m s q)).2=0))]/\Ext w w':=by
 obtain⟨Lt,eb,rfl,wR⟩:=he.form;refine bl E.BH ?_;refine J ?_;refine J_ (ais ck cU q p _ m s w bN.box (bN.C2.ext bN.hz) gl bN.Al av hIn) ?_;rintro _ w1 ⟨⟨es,rfl,dI⟩,ah⟩;refine J ?_;refine J_ (ahL _ e _ (o.cc m s q) w1 (he.ext ah) (Ot dI (o.Ou (o.iu gl) av hIn.ao))) ?_;rintro _ aB ⟨rfl,aj⟩;refine J ?_;exact⟨aL,ah.trans aj⟩
theorem Iq{w0:A_}(ck cU g c q base:Nat)(m:o.Model)(s:C_ Int)(k:Nat)(x n:Int)(w:A_)(bN:ln w0 w ck cU g c q base m s)(aS:o.eD m)(az:s.length=o.c6 m)(af:x=k)(hk:k<o.c6 m) :
  Dz F.Iz #[.pointer (some ⟨ck,0,none⟩),.I x,.I n] w fun u w'=>kn base g (.slice (some ⟨g,0,none⟩) s.length c) (o.putAt m s k n) u w w':=by
 subst af;have yb:=bN;obtain⟨hold,zR,⟨zs,an,h9⟩,sb,fK⟩:=bN;obtain⟨eB,d0,dB,d1,ec,d2,er,d3,eN,d4,bW,bu,bI,c1,bO,c2,bQ,bp,bZ,bB,b9,ci,fm,gd,rfl,_,_,dV,dH,df,eO,fM,ad,h1,I,ab,aX,bD⟩:=h9.form;replace an:=hold.obj an;replace eO:=eO.ext Flat.ext hold;replace fM:=fM.ext Flat.ext hold;obtain⟨dv,qg⟩:=o.Wt hk;have f2:=o.J3 m;have f3:=o.J1 m;have la:(o.bU m).length=o.c6 m:=rfl;have dY:(o.layout m).aQ[k]' Aw=(o.bU m)[k].aQ:=o.J2 _ dv;have ew:(o.layout m).U[k]' Aw=(o.bU m)[k].U:=o.J0 _ dv;have ko:o.c6 m<=64:=o.iL aS;obtain⟨a3,rfl⟩:=eO.addr;obtain⟨a4,rfl⟩:=fM.addr;clear dV dH df ad h1 I ab aX bD h9;refine bl E.Iz ?_;refine J ?_;apply I_<;>intro g1
 .refine J ?_;exact kn.none (by unfold o.putAt;rw[qg,if_pos (.inl (by simp only;omega))]) (Ext.refl _)
 refine J ?_;apply I_<;>intro g2
 .refine J ?_;exact kn.none (by unfold o.putAt;rw[qg,if_pos (.inr (by simp only;omega))]) (Ext.refl _)
 refine J ?_;refine _z (k:=k) fK Aw fun w1 hh oY=>?_;refine J ?_;exact⟨.inl ⟨_,by unfold o.putAt;rw[qg,if_neg (by simp only;omega)],aL,oY⟩,hh.mod rfl⟩
theorem aiN{w0:A_}(ck cU g c q p base:Nat)(m:o.Model)(s:C_ Int)(a:o.Act)(bH bV:B_)(w:A_)(bN:ln w0 w ck cU g c q base m s)(gl:(o.check m).cC=0)(av:o.Fits m s)(hIn:o.fo m q p)
  (aU:o.l8 (o.inner (m.procs[p]'(hIn.aq)) (o.eF m)) a)(lx:a.kind=1)(U:o.eL w bH a.index)(aD:o.eL w bV a.value) :
  Dz F.DI #[.agg (a.enc bH bV).toArray,.pointer (some ⟨ck,0,none⟩)] w fun u w'=>kn base g (.slice (some ⟨g,0,none⟩) s.length c) (o.gC m s q a) u w w':=by
 obtain⟨b9,ci,rfl,_⟩:=U.form;obtain⟨tO,td,rfl,_⟩:=aD.form;have aS:=o.iu gl;obtain⟨f6,f7,f8⟩:=o.tC m;have done:o.gC m s q a=if (o.eval a.value (o.cc m s q)).2≠0 then none else o.putAt m s (o.gp m a.to.toNat) (o.eval a.value (o.cc m s q)).1:=by
  unfold o.gC;rw[if_neg Aw,if_pos lx]
 rw[done];unfold o.Act.enc;refine bl E.DI ?_;refine J ?_;intro w1 bP db ah au;replace bN:=bN.ext ah;refine J ?_;refine J_ (BN ck cU g c q p base m s _ a.value w1 bN gl av hIn (aD.ext ah)) ?_;rintro _ aB ⟨rfl,aj⟩;replace bN:=bN.ext aj;replace au:=aj.obj au;obtain⟨n,oW⟩:∃n,n=(o.eval a.value (o.cc m s q)).1:=⟨_,rfl⟩;obtain⟨e,od⟩:∃e,e=(o.eval a.value (o.cc m s q)).2:=⟨_,rfl⟩;rw[<-oW,<-od];have e2:=ah.trans aj;refine J ?_;intro aK ag;replace bN:=bN.ext ag;replace au:=ag.obj au;have a1:=e2.trans ag;have yb:=bN;obtain⟨hold,zR,⟨zs,an,h9⟩,sb,fK⟩:=bN;obtain⟨eB,d0,dB,d1,ec,d2,er,d3,eN,d4,bW,bu,bI,c1,bO,c2,bQ,bp,bZ,bB,yF,xW,fm,gd,rfl,_,_,dV,dH,df,eO,fM,ad,h1,I,ab,aX,bD⟩:=h9.form;replace an:=hold.obj an;obtain⟨gv,bS,eT,iJ⟩:=aU.set lx;have hg:a.to.toNat<m.vars.length:=(List.getElem?_eq_some_iff.1 eT).1;obtain⟨eM,hG⟩:=o.xf hg;have QM:=o.rJ hg;have eE:=o.mL m;have dv:=o.r0 m.vars[a.to.toNat] m.scalars;have Qb:=o.rv hg;have akp:o.cells m.vars[a.to.toNat] m.scalars=1:=by
  have Fi:m.vars[a.to.toNat]=bS:=(List.getElem?_eq_some_iff.1 eT).2;rw[Fi];unfold o.cells;rw[if_pos iJ]
 obtain⟨oM,rfl⟩:=dV.addr;replace dV:=dV.ext Flat.ext hold;clear dH df eO fM ad h1 I ab aX bD h9;refine J ?_;refine I_ (fun cq=>?_) (fun cq=>?_);rotate_left
 .refine J ?_;exact kn.none (by rw[if_pos cq]) a1
 rw[if_neg Aw];refine J ?_;refine K_ a.to.toNat Aw Aw ?_;refine J ?_;refine J_ (Iq ck cU g c q base m s (o.gp m a.to.toNat) _ n aK yb aS av.len (by rw[hG]) Aw) ?_;rintro u aR v7;obtain⟨t,rfl⟩:=v7.Rf;refine J ?_;exact v7.before a1
theorem aiG{w0:A_}(ck cU g c q p base:Nat)(m:o.Model)(s:C_ Int)(a:o.Act)(bH bV:B_)(w:A_)(bN:ln w0 w ck cU g c q base m s)(gl:(o.check m).cC=0)(av:o.Fits m s)(hIn:o.fo m q p)
  (aU:o.l8 (o.inner (m.procs[p]'(hIn.aq)) (o.eF m)) a)(lx:a.kind=3)(U:o.eL w bH a.index)(aD:o.eL w bV a.value) :
  Dz F.cH #[.agg (a.enc bH bV).toArray,.pointer (some ⟨ck,0,none⟩)] w fun u w'=>kn base g (.slice (some ⟨g,0,none⟩) s.length c) (o.gC m s q a) u w w':=by
 obtain⟨b9,ci,rfl,_⟩:=U.form;obtain⟨tO,td,rfl,_⟩:=aD.form;have aS:=o.iu gl;obtain⟨f6,f7,f8⟩:=o.tC m;have done:o.gC m s q a=if (o.eval a.value (o.cc m s q)).2≠0 then none else o.putAt m s (o.da m q+1+a.to.toNat) (o.eval a.value (o.cc m s q)).1:=by
  unfold o.gC;rw[if_neg (show ¬a.kind=5 by omega),if_neg (show ¬a.kind=1 by omega),if_neg (show ¬a.kind=2 by omega),if_pos lx]
 rw[done];unfold o.Act.enc;refine bl E.cH ?_;refine J ?_;intro w1 bP db ah au;replace bN:=bN.ext ah;refine J ?_;refine J_ (BN ck cU g c q p base m s _ a.value w1 bN gl av hIn (aD.ext ah)) ?_;rintro _ aB ⟨rfl,aj⟩;replace bN:=bN.ext aj;replace au:=aj.obj au;obtain⟨n,oW⟩:∃n,n=(o.eval a.value (o.cc m s q)).1:=⟨_,rfl⟩;obtain⟨e,od⟩:∃e,e=(o.eval a.value (o.cc m s q)).2:=⟨_,rfl⟩;rw[<-oW,<-od];have e2:=ah.trans aj;refine J ?_;intro aK ag;replace bN:=bN.ext ag;replace au:=ag.obj au;have a1:=e2.trans ag;have yb:=bN;obtain⟨hold,zR,⟨zs,an,h9⟩,sb,fK⟩:=bN;obtain⟨eB,d0,dB,d1,ec,d2,er,d3,eN,d4,bW,bu,bI,c1,bO,c2,bQ,bp,bZ,bB,yF,xW,fm,gd,rfl,_,_,dV,dH,df,eO,fM,ad,h1,I,ab,aX,bD⟩:=h9.form;replace an:=hold.obj an;have ao:=hIn.ao;obtain⟨gv,EZ⟩:=aU.loc lx;have EY:a.to.toNat<(m.procs[p]'(hIn.aq)).vars.length:=EZ;obtain⟨eM,hG⟩:=o.rq ao;have sj:=hIn.room;have ko:o.c6 m<=64:=o.iL aS;have hlen:=av.len;obtain⟨oM,rfl⟩:=df.addr;replace df:=df.ext Flat.ext hold;clear dV dH eO fM ad h1 I ab aX bD h9;refine J ?_;refine I_ (fun cq=>?_) (fun cq=>?_);rotate_left
 .refine J ?_;exact kn.none (by rw[if_pos cq]) a1
 rw[if_neg Aw];refine J ?_;refine J_ (Iq ck cU g c q base m s (o.da m q+1+a.to.toNat) _ n aK yb aS av.len (by rw[hG];omega) Aw) ?_;rintro u aR v7;obtain⟨t,rfl⟩:=v7.Rf;refine J ?_;exact v7.before a1
theorem aiy{w0:A_}(ck cU g c q p base:Nat)(m:o.Model)(s:C_ Int)(a:o.Act)(bH bV:B_)(w:A_)(bN:ln w0 w ck cU g c q base m s)(gl:(o.check m).cC=0)(av:o.Fits m s)(hIn:o.fo m q p)
  (aU:o.l8 (o.inner (m.procs[p]'(hIn.aq)) (o.eF m)) a)(lx:a.kind=2)(U:o.eL w bH a.index)(aD:o.eL w bV a.value) :
  Dz F.pv #[.agg (a.enc bH bV).toArray,.pointer (some ⟨ck,0,none⟩)] w fun u w'=>kn base g (.slice (some ⟨g,0,none⟩) s.length c) (o.gC m s q a) u w w':=by
 obtain⟨b9,ci,rfl,_⟩:=U.form;obtain⟨tO,td,rfl,_⟩:=aD.form;have aS:=o.iu gl;obtain⟨f6,f7,f8⟩:=o.tC m;have done:o.gC m s q a=if (o.eval a.value (o.cc m s q)).2≠0 then none else o.uU m s a (o.eval a.index (o.cc m s q)) (o.eval a.value (o.cc m s q)).1:=by
  unfold o.gC;rw[if_neg (show ¬a.kind=5 by omega),if_neg (show ¬a.kind=1 by omega),if_pos lx]
 rw[done];unfold o.Act.enc;refine bl E.pv ?_;refine J ?_;intro w1 bP db ah au;replace bN:=bN.ext ah;refine J ?_;refine J_ (BN ck cU g c q p base m s _ a.index w1 bN gl av hIn (U.ext ah)) ?_;rintro _ aB ⟨rfl,aj⟩;replace bN:=bN.ext aj;replace au:=aj.obj au;have e2:=ah.trans aj;refine J ?_;refine J_ (BN ck cU g c q p base m s _ a.value aB bN gl av hIn (aD.ext e2)) ?_;rintro _ aK ⟨rfl,ag⟩;replace bN:=bN.ext ag;replace au:=ag.obj au;have a1:=e2.trans ag;obtain⟨n,oW⟩:∃n,n=(o.eval a.value (o.cc m s q)).1:=⟨_,rfl⟩;obtain⟨e,od⟩:∃e,e=(o.eval a.value (o.cc m s q)).2:=⟨_,rfl⟩;obtain⟨k,ES⟩:∃k,k=(o.eval a.index (o.cc m s q)).1:=⟨_,rfl⟩;obtain⟨f,EK⟩:∃f,f=(o.eval a.index (o.cc m s q)).2:=⟨_,rfl⟩;have og:o.uU m s a (o.eval a.index (o.cc m s q)) n=if f≠0\/k<1\/(o.o4 m a.to.toNat:Int)<k then none else o.putAt m s (o.gp m a.to.toNat+k.toNat - 1) n:=by unfold o.uU;rw[<-ES,<-EK]
 rw[<-oW,<-od,og,<-ES,<-EK];clear og done;have yb:=bN;obtain⟨hold,zR,⟨zs,an,h9⟩,sb,fK⟩:=bN;obtain⟨eB,d0,dB,d1,ec,d2,er,d3,eN,d4,bW,bu,bI,c1,bO,c2,bQ,bp,bZ,bB,yF,xW,fm,gd,rfl,_,_,dV,dH,df,eO,fM,ad,h1,I,ab,aX,bD⟩:=h9.form;replace an:=hold.obj an;obtain⟨gv,Fh,P4⟩:=aU.item lx;have hg:a.to.toNat<m.vars.length:=Fh;obtain⟨eM,hG⟩:=o.xf hg;have QM:=o.rJ hg;have eE:=o.mL m;have Qb:=o.rv hg;have dv:=o.r0 m.vars[a.to.toNat] m.scalars;have ko:o.c6 m<=64:=o.iL aS;have hlen:=av.len;obtain⟨oM,rfl⟩:=dV.addr;obtain⟨p8,rfl⟩:=h1.addr;replace dV:=dV.ext Flat.ext hold;replace ad:=ad.ext hold;have dT:=((h1.at a.to.toNat hg).cells).ext hold;clear dH df eO fM h1 I ab aX bD h9;refine J ?_;refine I_ (fun cq=>?_) (fun cq=>?_);rotate_left
 .refine J ?_;intro aR aw;refine kn.none ?_ (a1.trans aw);by_cases h:e≠0
  .rw[if_pos h]
  .rw[if_neg h,if_pos (.inl cq)]
 refine J ?_;refine I_ (fun cB=>?_) (fun cB=>?_);rotate_left
 .refine J ?_;intro aR aw;exact kn.none (by rw[if_pos cB]) (a1.trans aw)
 rw[if_neg (show ¬e≠0 by omega)];refine J ?_;refine I_ (fun e5=>?_) (fun e5=>?_)
 .refine J ?_;intro aR aw;exact kn.none (by rw[if_pos (.inr (.inl e5))]) (a1.trans aw)
 refine J ?_;refine K_ a.to.toNat Aw Aw ?_;refine J ?_;refine P_ (.I (o.cells m.vars[a.to.toNat] m.scalars)) (fun w' e'=>Bu m.vars[a.to.toNat] _ m.scalars w' (ad.ext e')) ?_;refine J ?_;intro aR aw;refine I_ (fun hK=>?_) (fun hK=>?_)
 .refine J ?_;exact kn.none (by rw[if_pos (.inr (.inr Aw))]) (a1.trans aw)
 rw[if_neg Aw];have zC:=yb.ext aw;replace au:=aw.obj au;replace an:=aw.obj an;replace sb:=aw.obj sb;have acu:=dV.ext Flat.ext aw;clear dV ad dT;refine J ?_;intro bo aF;replace zC:=zC.ext aF;replace au:=aF.obj au;replace an:=aF.obj an;replace sb:=aF.obj sb;replace acu:=acu.ext Flat.ext aF;refine J ?_;refine K_ a.to.toNat Aw Aw ?_;refine J ?_;refine J_ (Iq ck cU g c q base m s (o.gp m a.to.toNat+k.toNat - 1) _ n bo zC aS av.len (by rw[hG];omega) Aw) ?_;rintro u bt uD;obtain⟨t,rfl⟩:=uD.Rf;refine J ?_;exact uD.before ((a1.trans aw).trans aF)
end Go.Proofs.R
end
section
namespace o
theorem NT(m:Model)(s:C_ Int)(c:Nat):(s.drop (b6 m c)).take (b6 m c+(1+fH m c) - b6 m c)=chanOf m s c:=by
 unfold chanOf;rw[show b6 m c+(1+fH m c) - b6 m c=1+fH m c from Aw]
end o
namespace Go.Proofs.R
open Go Go.RowKit a7
theorem aiI{w0:A_}(ck cU g c q p base:Nat)(m:o.Model)(s:C_ Int)(a:o.Act)(bH bV:B_)(w:A_)(bN:ln w0 w ck cU g c q base m s)(gl:(o.check m).cC=0)(av:o.Fits m s)(hIn:o.fo m q p)
  (aU:o.l8 (o.inner (m.procs[p]'(hIn.aq)) (o.eF m)) a)(lx:a.kind=5)(U:o.eL w bH a.index)(aD:o.eL w bV a.value) :
  Dz F.vC #[.agg (a.enc bH bV).toArray,.pointer (some ⟨ck,0,none⟩)] w fun u w'=>kn base g (.slice (some ⟨g,0,none⟩) s.length c) (o.gC m s q a) u w w':=by
 obtain⟨b9,ci,rfl,_⟩:=U.form;obtain⟨tO,td,rfl,_⟩:=aD.form;have aS:=o.iu gl;obtain⟨f6,f7,f8⟩:=o.tC m;have done:o.gC m s q a=o.w2 m s q a:=by unfold o.gC;rw[if_pos lx]
 rw[done];unfold o.w2;clear done;obtain⟨gv,eT⟩:=aU.chan (.inr lx);have fa:a.to.toNat<m.ar.length:=eT;have gZ:a.to=(a.to.toNat:Nat):=Aw
 have dv:(o.chanOf m s a.to.toNat).length=1+o.fH m a.to.toNat:=o.n0 (by rw[av.len];exact o.kX fa);have aaf:=o.kX fa;obtain⟨eU,EZ⟩:=aU.recv lx;have EY:a.loc.toNat<(m.procs[p]'(hIn.aq)).vars.length:=EZ;have al7:=hIn.room;have hlen:=av.len;have ko:o.c6 m<=64:=o.iL aS;have ao:=hIn.ao;obtain⟨eM,hG⟩:=o.rq ao;unfold o.Act.enc;rw[gZ,AF4];have B5:=bN.DG;refine bl E.vC ?_;refine J ?_;intro w1 bP db ah au;replace bN:=bN.ext ah;have pC:=bN.box;refine J ?_;refine P_ (.tuple #[.I (o.b6 m a.to.toNat),.I (o.b6 m a.to.toNat+(1+o.fH m a.to.toNat):Nat)]) (fun w' e=>OD cU m a.to.toNat w' (bN.C2.ext (bN.hz.trans e)) aS fa) ?_;refine J ?_;intro aB aj;replace bN:=bN.ext aj;replace au:=aj.obj au;replace pC:=bN.box;have e2:=ah.trans aj;refine J ?_;refine _c (k:=.i64) (k':=.i64) (o.b6 m a.to.toNat) (o.b6 m a.to.toNat+(1+o.fH m a.to.toNat)) bN.Al (by simp[c0,bL]) (by simp[c0,bL]) Aw Aw fun bI c1 _ yo=>?_;rw[o.NT] at yo;refine J ?_;refine J_ (ags _ _ aB yo Aw) ?_;rintro _ aK ⟨ajN,ag⟩;replace bN:=bN.ext ag;replace au:=ag.obj au;replace pC:=bN.box;have a1:=e2.trans ag;have aH:=bN.DG;rcases ajN with ⟨fg,rfl⟩ | ⟨r,x,ae,gd,hW,rfl,wy⟩
 .rw[fg];refine J ?_;refine _c (k:=.i64) (k':=.i64) (o.b6 m a.to.toNat) (o.b6 m a.to.toNat+(1+o.fH m a.to.toNat)) bN.Al (by simp[c0,bL]) (by simp[c0,bL]) Aw Aw fun bO c2 hc _=>?_;refine J ?_;refine _d (p:=o.b6 m a.to.toNat) (xs:=[]) bN.own bg.nil (by simp only[c0,bL];rfl) (by simp only[c0,bL];rfl) hc Aw Cq Cq fun u aR dq dz=>?_;refine J ?_;intro bo aF;refine J ?_;have hm:Mod (fun i=>i=g) w bo:=((Ext.mod (A:=fun i=>i=g) a1).trans (dq.mod rfl)).trans aF.mod;exact⟨.inr ⟨rfl,aL⟩,hm⟩
 .rw[hW];have iI:=o.Gp hW;rw[dv] at iI;refine J ?_;refine _c (k:=.i64) (k':=.i64) (o.b6 m a.to.toNat) (o.b6 m a.to.toNat+(1+o.fH m a.to.toNat)) bN.Al (by simp[c0,bL]) (by simp[c0,bL]) Aw Aw fun bO c2 hc _=>?_;refine J ?_;refine _d (p:=o.b6 m a.to.toNat) bN.own (jz wy) (by simp only[c0,bL];rfl) (by simp only[c0,bL];rfl) hc Aw Cq Cq fun u aR dq dz=>?_;rw[Lj Aw] at dz;have kq:(o.hi s (o.b6 m a.to.toNat) r).length=s.length:=o.uT Aw;replace bN:=bN.mod (dq.mod rfl) dz kq;have bf:=dq.obj au Aw;have jM:Mod (fun i=>i=g) w aR:=a1.mod.trans (dq.mod rfl);clear pC yo au;refine J ?_;intro bo aF;replace bN:=bN.ext aF;replace bf:=aF.obj bf;have yb:=bN;obtain⟨hold,zR,⟨zs,an,h9⟩,sb,fK⟩:=bN;obtain⟨eB,d0,dB,d1,ec,d2,er,d3,eN,d4,bW,bu,bI,c1,abV,WB,bQ,bp,bZ,bB,yF,xW,fm,qb,rfl,_,_,dV,dH,df,eO,fM,ad,h1,I,ab,aX,bD⟩:=h9.form;replace an:=hold.obj an;obtain⟨oM,rfl⟩:=df.addr;replace df:=df.ext Flat.ext hold;rw[kq] at sb;clear dV dH eO fM ad h1 I ab aX bD h9;refine J ?_;rw[hG];refine J ?_;refine J_ (Iq ck cU g c q base m _ (o.da m q+1+a.loc.toNat) _ x bo yb aS Aw Aw Aw) ?_;rintro u bt ⟨uD,jN⟩;rw[kq] at uD;have hm:Mod (fun i=>i=g) w bt:=(jM.trans aF.mod).trans jN;rcases uD with ⟨t,h1,rfl,I⟩ | ⟨h1,rfl⟩
  .refine J ?_;exact⟨.inl ⟨t,h1,aL,I⟩,hm⟩
  .refine J ?_;exact⟨.inr ⟨h1,aL⟩,hm⟩
theorem aiM{w0:A_}(ck cU g c q p base:Nat)(m:o.Model)(s:C_ Int)(a:o.Act)(bH bV:B_)(w:A_)(bN:ln w0 w ck cU g c q base m s)(gl:(o.check m).cC=0)(av:o.Fits m s)(hIn:o.fo m q p)
  (aU:o.l8 (o.inner (m.procs[p]'(hIn.aq)) (o.eF m)) a)(lx:a.kind=4)(U:o.eL w bH a.index)(aD:o.eL w bV a.value) :
  Dz F.DK #[.agg (a.enc bH bV).toArray,.pointer (some ⟨ck,0,none⟩)] w fun u w'=>kn base g (.slice (some ⟨g,0,none⟩) s.length c) (o.gC m s q a) u w w':=by
 obtain⟨b9,ci,rfl,_⟩:=U.form;obtain⟨tO,td,rfl,_⟩:=aD.form;have aS:=o.iu gl;obtain⟨f6,f7,f8⟩:=o.tC m;have done:o.gC m s q a=if (o.eval a.value (o.cc m s q)).2≠0 then none else o.tX m s a.to.toNat (o.eval a.value (o.cc m s q)).1:=by
  unfold o.gC;rw[if_neg (show ¬a.kind=5 by omega),if_neg (show ¬a.kind=1 by omega),if_neg (show ¬a.kind=2 by omega),if_neg (show ¬a.kind=3 by omega)]
 rw[done];clear done;obtain⟨gv,eT⟩:=aU.chan (.inl lx);have fa:a.to.toNat<m.ar.length:=eT;have gZ:a.to=(a.to.toNat:Nat):=Aw
 have dv:(o.chanOf m s a.to.toNat).length=1+o.fH m a.to.toNat:=o.n0 (by rw[av.len];exact o.kX fa);have aaf:=o.kX fa;have hlen:=av.len;have ko:o.c6 m<=64:=o.iL aS;unfold o.Act.enc;rw[gZ,AF4];have B5:=bN.DG;refine bl E.DK ?_;refine J ?_;intro w1 bP db ah au;replace bN:=bN.ext ah;refine J ?_;refine J_ (BN ck cU g c q p base m s _ a.value w1 bN gl av hIn (aD.ext ah)) ?_;rintro _ aB ⟨rfl,aj⟩;replace bN:=bN.ext aj;replace au:=aj.obj au;have e2:=ah.trans aj;obtain⟨n,oW⟩:∃n,n=(o.eval a.value (o.cc m s q)).1:=⟨_,rfl⟩;obtain⟨e,od⟩:∃e,e=(o.eval a.value (o.cc m s q)).2:=⟨_,rfl⟩;rw[<-oW,<-od];refine J ?_;intro aK ag;replace bN:=bN.ext ag;replace au:=ag.obj au;have a1:=e2.trans ag;obtain⟨zs,sa,h9⟩:=bN.C2;obtain⟨eB,d0,dB,d1,ec,d2,er,d3,eN,d4,bW,bu,bI,c1,abV,WB,bQ,bp,bZ,bB,yF,xW,fm,qb,rfl,_,_,dV,dH,df,eO,fM,ad,h1,I,ab,aX,bD⟩:=h9.form;obtain⟨pr,rfl⟩:=I.addr;have an:=bN.hz.obj sa;have pC:=bN.box;have dT:=((I.at a.to.toNat fa).cells).ext bN.hz;have IX:=ad.ext bN.hz;clear dV dH df eO fM ad h1 I ab aX bD sa h9;refine J ?_;intro aR iC ia aw cf;refine⟨aw,?_⟩;refine T_ cf rfl rfl (by simp[Value.oneCell',o.dg.enc]) fun bo e4 bY=>?_;have aF:Ext aK bo:=e4.ext aw ia;replace bN:=bN.ext aF;replace an:=aF.obj an;replace pC:=bN.box;replace au:=aF.obj au;replace IX:=IX.ext aF;have bF:=a1.trans aF;clear cf e4 dT;obtain⟨aQ,hf⟩:∃aQ,aQ=(o.eS m.ar[a.to.toNat].scalar m.ar[a.to.toNat].aQ m.ar[a.to.toNat].U m.scalars).aQ:=⟨_,rfl⟩;obtain⟨cw,tq⟩:∃U,U=(o.eS m.ar[a.to.toNat].scalar m.ar[a.to.toNat].aQ m.ar[a.to.toNat].U m.scalars).U:=⟨_,rfl⟩;have qk:o.tX m s a.to.toNat n=if n<aQ\/cw<n then none else (o.mu (o.chanOf m s a.to.toNat) n).map (o.hi s (o.b6 m a.to.toNat)):=by
  unfold o.tX o.vH;rw[List.getElem?_eq_getElem fa,hf,tq]
 rw[qk];clear qk;refine J ?_;refine P_ (.tuple #[.I aQ,.I cw]) (fun w' e'=>by
  rw[hf,tq,show o.eS m.ar[a.to.toNat].scalar m.ar[a.to.toNat].aQ m.ar[a.to.toNat].U m.scalars=_ from o.zc ⟨⟨#[]⟩,m.ar[a.to.toNat].scalar,0,m.ar[a.to.toNat].aQ,m.ar[a.to.toNat].U,0⟩ m.scalars];exact Hl ⟨⟨#[]⟩,m.ar[a.to.toNat].scalar,0,m.ar[a.to.toNat].aQ,m.ar[a.to.toNat].U,0⟩ _ m.scalars w' (IX.ext e')) ?_
 refine J ?_;intro bt aI;replace bN:=bN.ext aI;replace an:=aI.obj an;replace pC:=bN.box;replace au:=aI.obj au;have cg:=bF.trans aI;clear bY IX;refine J ?_;refine I_ (fun cq=>?_) (fun cq=>?_);rotate_left
 .refine J ?_;exact kn.none (by rw[if_pos cq]) cg
 rw[if_neg (show ¬e≠0 by omega)];refine J ?_;refine I_ (fun cB=>?_) (fun cB=>?_)
 .refine J ?_;exact kn.none (by rw[if_pos (.inl cB)]) cg
 refine J ?_;refine I_ (fun e5=>?_) (fun e5=>?_)
 .refine J ?_;exact kn.none (by rw[if_pos (.inr Aw)]) cg
 rw[if_neg Aw];refine J ?_;refine P_ (.tuple #[.I (o.b6 m a.to.toNat),.I (o.b6 m a.to.toNat+(1+o.fH m a.to.toNat):Nat)]) (fun w' e'=>OD cU m a.to.toNat w' (bN.C2.ext (bN.hz.trans e')) aS fa) ?_;refine J ?_;intro bG bm;replace bN:=bN.ext bm;replace pC:=bN.box;have c8:=cg.trans bm;clear an au;refine J ?_;refine _c (k:=.i64) (k':=.i64) (o.b6 m a.to.toNat) (o.b6 m a.to.toNat+(1+o.fH m a.to.toNat)) bN.Al (by simp[c0,bL]) (by simp[c0,bL]) Aw Aw fun bI c1 _ yo=>?_;rw[o.NT] at yo;refine J ?_;refine J_ (agr _ _ n bG yo Aw) ?_;rintro _ cQ ⟨ajD,bA⟩;replace bN:=bN.ext bA;replace pC:=bN.box;have eY:=c8.trans bA;rcases ajD with ⟨fg,rfl⟩ | ⟨r,ae,gd,hW,rfl,wy⟩
 .rw[fg];refine J ?_;refine _c (k:=.i64) (k':=.i64) (o.b6 m a.to.toNat) (o.b6 m a.to.toNat+(1+o.fH m a.to.toNat)) bN.Al (by simp[c0,bL]) (by simp[c0,bL]) Aw Aw fun bO c2 hc _=>?_;refine J ?_;refine _d (p:=o.b6 m a.to.toNat) (xs:=[]) bN.own bg.nil (by simp only[c0,bL];rfl) (by simp only[c0,bL];rfl) hc Aw Cq Cq fun u cS hI gO=>?_;refine J ?_;exact⟨.inr ⟨rfl,aL⟩,(Ext.mod (A:=fun i=>i=g) eY).trans (hI.mod rfl)⟩
 .rw[hW];have iI:=o.F0 hW;rw[dv] at iI;refine J ?_;refine _c (k:=.i64) (k':=.i64) (o.b6 m a.to.toNat) (o.b6 m a.to.toNat+(1+o.fH m a.to.toNat)) bN.Al (by simp[c0,bL]) (by simp[c0,bL]) Aw Aw fun bO c2 hc _=>?_;refine J ?_;refine _d (p:=o.b6 m a.to.toNat) bN.own (jz wy) (by simp only[c0,bL];rfl) (by simp only[c0,bL];rfl) hc Aw Cq Cq fun u cS hI gO=>?_;rw[Lj Aw] at gO;refine J ?_;exact⟨.inl ⟨_,rfl,aL,gO⟩,(Ext.mod (A:=fun i=>i=g) eY).trans (hI.mod rfl)⟩
end Go.Proofs.R
end
section
namespace a7
open Go Go.RowKit
theorem _r{P:D_}{ty:F_}{v:B_}{m:String}{f:E_}{r:B_}{args:C_ B_}{w:A_}{R:B_->A_->Prop}{cK:B_->A_->Prop}{t}(av:okF P f=true)(hm:∀w',(method (P.types.size+Made.depth) ty v m).run P w' = .ok (f,r) w')
  (h:aW P f (r :: args).toArray w R)(hk:∀v w',R v w'->cK v w'):AP P (.iface ty v) m args w cK t:=by unfold AP;exact af0 av hm h hk
theorem aP.aoG{α:Type}{enc:α->C_ B_}{e:F_}{sz base:Nat}{w:A_}{v:B_}{cd:C_ (e8 sz)}{xs:C_ α}(h:pj e sz base w v cd)(az:cd.length=xs.length)(he:∀i (h1:i<cd.length) (I:i<xs.length),cd[i].1=enc xs[i]):aP enc e sz base w v xs:=by
 have hm:cd.map j2=xs.map enc:=AK9 (by simp[az]) fun i h1 I=>by
  rw[List.getElem_map,List.getElem_map];exact he i (by simpa using h1) (by simpa using I)
 have:cd.flatMap j2=xs.flatMap enc:=by rw[List.flatMap_def,List.flatMap_def,hm]
 unfold aP at *;rw[<-this,<-az];exact h
end a7
namespace Go.Proofs.R
open Go Go.RowKit a7
theorem Q9(v:B_)(xs:C_ Int)(w:A_)(h:dc w v xs)(an:o.ea xs.length 8) :
  Dz F.ID #[v] w fun bS w'=>iz w.heap.size w' bS xs/\Ext w w' :=
 (WS lz E.ID Cq v xs w h (by unfold o.ea at an;omega)).mono fun bS w' ⟨⟨cd,az,aJ,ai⟩,he⟩=>⟨aP.aoG aJ az fun i h1 I=>ai i h1 I,he⟩
def k1(k:Int):F_:=if k=1 then T.qX else if k=2 then T.sX else if k=3 then T.mJ else if k=4 then T.am else T.Hh
def GP(w:A_)(cs:C_ B_)(x:o.Act):Prop := ∃bH bV,cs=[.iface (k1 x.kind) (.agg (x.enc bH bV).toArray)]/\o.eL w bH x.index/\o.eL w bV x.value
theorem air{w0:A_}(v:B_)(xs:C_ o.Act)(w:A_)(h:o.lK w0 v xs)(dI:Ext w0 w)(hk:∀x∈xs,1<=x.kind/\x.kind<=5)(an:xs.length<=100000) :
  Dz F.vS #[v] w fun u w'=>(∃cd:C_ (e8 1),cd.length=xs.length/\pj T.a2 1 w.heap.size w' u cd/\∀i (h1:i<cd.length) (I:i<xs.length),GP w0 cd[i].1 xs[i])/\Ext w w':=by
 obtain⟨ep,fp,rfl,fc⟩:=h.form;refine bl E.vS ?_;refine J ?_;refine L_ 8 xs.length [6,7] (fun v:gr=>[(3,.slice v.1 v.2.1 v.2.2)]) (none,0,0) (fun k v W=>Ext w W/\∃cd:C_ (e8 1),cd.length=k/\pj T.a2 1 w.heap.size W (.slice v.1 v.2.1 v.2.2) cd/\∀i (h1:i<cd.length) (I:i<xs.length),GP w0 cd[i].1 xs[i]) a8 a8 ⟨Ext.refl _,[],rfl,aP.nil _ _ _ _ _,fun i h=>absurd h (LC _)⟩ ?_;rintro k CZ S aB mP ⟨aj,cd,la,dj,h8⟩;refine J ?_;apply I_<;>intro g1;rotate_left
 .have jw:xs.length=k:=Aw
  refine J ?_;exact⟨⟨cd,Aw,dj,h8⟩,aj⟩
 have aV:k<xs.length:=Aw
 obtain⟨a,rfl⟩:=h.addr;obtain⟨bH,bV,q8,oX,pG⟩:=h.at k aV;obtain⟨cq,uX⟩:=hk _ (Gy aV);obtain⟨x,af⟩:∃x,x=xs[k]:=⟨_,rfl⟩;rw[<-af] at q8 oX pG cq uX;obtain⟨b9,ci,rfl,_⟩:=oX.form;obtain⟨tO,td,rfl,_⟩:=pG.form;replace q8:=q8.ext (dI.trans aj);unfold o.Act.enc at q8;refine J ?_;intro aK dE kI ag bY;have dG:=dj.ext ag;have a1:=aj.trans ag;clear q8;have step:∀(y:e8 1),GP w0 y.1 xs[k]->∀i (h1:i<(cd++[y]).length) (I:i<xs.length),GP w0 ((cd++[y])[i]).1 xs[i]:=fun y bK i h1 I=>by
  by_cases U:i<cd.length
  .rw[AI5 U];exact h8 i U I
  .have e:i=cd.length:=by simp at h1;omega
   subst e;subst la;rw[AI6 (Gf _)];simpa using bK
 have aeu:=a1.size;refine J ?_;apply I_<;>intro g2
 .refine J ?_;intro aR cx e3 aw bf;refine J ?_;have wg:k1 x.kind=T.qX:=by unfold k1;rw[if_pos (show x.kind=1 by omega)]
  refine U_ (enc:=j2) (y:=(⟨[.iface T.qX (.agg (x.enc (.slice b9 x.index.length ci) (.slice tO x.value.length td)).toArray)],rfl,by simp[Value.oneCell']⟩:e8 1)) (dG.ext aw) bf rfl j3 tf Aw (by unfold maxLen;omega) (by have:=aw.size;omega) fun aO n c bo dt gT=>?_;refine J ?_;exact⟨aV,aL,(aO,n,c),⟨rfl,trivial⟩,(a1.trans aw).grown gT fun i U=>(dG.lt i U).1,_,by simp[la],dt,step _ ⟨_,_,by rw[<-af,wg],by rw[<-af];exact oX,by rw[<-af];exact pG⟩⟩
 refine J ?_;apply I_<;>intro g3
 .refine J ?_;intro aR cx e3 aw bf;refine J ?_;have wg:k1 x.kind=T.sX:=by unfold k1;rw[if_neg (show ¬x.kind=1 by omega),if_pos (show x.kind=2 by omega)]
  refine U_ (enc:=j2) (y:=(⟨[.iface T.sX (.agg (x.enc (.slice b9 x.index.length ci) (.slice tO x.value.length td)).toArray)],rfl,by simp[Value.oneCell']⟩:e8 1)) (dG.ext aw) bf rfl j3 tf Aw (by unfold maxLen;omega) (by have:=aw.size;omega) fun aO n c bo dt gT=>?_;refine J ?_;exact⟨aV,aL,(aO,n,c),⟨rfl,trivial⟩,(a1.trans aw).grown gT fun i U=>(dG.lt i U).1,_,by simp[la],dt,step _ ⟨_,_,by rw[<-af,wg],by rw[<-af];exact oX,by rw[<-af];exact pG⟩⟩
 refine J ?_;apply I_<;>intro g4
 .refine J ?_;intro aR cx e3 aw bf;refine J ?_;have wg:k1 x.kind=T.mJ:=by unfold k1;rw[if_neg (show ¬x.kind=1 by omega),if_neg (show ¬x.kind=2 by omega),if_pos (show x.kind=3 by omega)]
  refine U_ (enc:=j2) (y:=(⟨[.iface T.mJ (.agg (x.enc (.slice b9 x.index.length ci) (.slice tO x.value.length td)).toArray)],rfl,by simp[Value.oneCell']⟩:e8 1)) (dG.ext aw) bf rfl j3 tf Aw (by unfold maxLen;omega) (by have:=aw.size;omega) fun aO n c bo dt gT=>?_;refine J ?_;exact⟨aV,aL,(aO,n,c),⟨rfl,trivial⟩,(a1.trans aw).grown gT fun i U=>(dG.lt i U).1,_,by simp[la],dt,step _ ⟨_,_,by rw[<-af,wg],by rw[<-af];exact oX,by rw[<-af];exact pG⟩⟩
 refine J ?_;apply I_<;>intro g5
 .refine J ?_;intro aR cx e3 aw bf;refine J ?_;have wg:k1 x.kind=T.am:=by unfold k1;rw[if_neg (show ¬x.kind=1 by omega),if_neg (show ¬x.kind=2 by omega),if_neg (show ¬x.kind=3 by omega),if_pos (show x.kind=4 by omega)]
  refine U_ (enc:=j2) (y:=(⟨[.iface T.am (.agg (x.enc (.slice b9 x.index.length ci) (.slice tO x.value.length td)).toArray)],rfl,by simp[Value.oneCell']⟩:e8 1)) (dG.ext aw) bf rfl j3 tf Aw (by unfold maxLen;omega) (by have:=aw.size;omega) fun aO n c bo dt gT=>?_;refine J ?_;exact⟨aV,aL,(aO,n,c),⟨rfl,trivial⟩,(a1.trans aw).grown gT fun i U=>(dG.lt i U).1,_,by simp[la],dt,step _ ⟨_,_,by rw[<-af,wg],by rw[<-af];exact oX,by rw[<-af];exact pG⟩⟩
 refine J ?_;intro aR cx e3 aw bf;refine J ?_;have wg:k1 x.kind=T.Hh:=by unfold k1;rw[if_neg (show ¬x.kind=1 by omega),if_neg (show ¬x.kind=2 by omega),if_neg (show ¬x.kind=3 by omega),if_neg (show ¬x.kind=4 by omega)]
 refine U_ (enc:=j2) (y:=(⟨[.iface T.Hh (.agg (x.enc (.slice b9 x.index.length ci) (.slice tO x.value.length td)).toArray)],rfl,by simp[Value.oneCell']⟩:e8 1)) (dG.ext aw) bf rfl j3 tf Aw (by unfold maxLen;omega) (by have:=aw.size;omega) fun aO n c bo dt gT=>?_;refine J ?_;exact⟨aV,aL,(aO,n,c),⟨rfl,trivial⟩,(a1.trans aw).grown gT fun i U=>(dG.lt i U).1,_,by simp[la],dt,step _ ⟨_,_,by rw[<-af,wg],by rw[<-af];exact oX,by rw[<-af];exact pG⟩⟩
theorem aiq{w0:A_}(ck cU g c q p base:Nat)(m:o.Model)(s:C_ Int)(a:o.Act)(bH bV:B_)(w:A_)(gb:B_->A_->Prop){t}(bN:ln w0 w ck cU g c q base m s)(gl:(o.check m).cC=0)(av:o.Fits m s)(hIn:o.fo m q p)
  (aU:o.l8 (o.inner (m.procs[p]'(hIn.aq)) (o.eF m)) a)(U:o.eL w bH a.index)(aD:o.eL w bV a.value)
  (iX:∀u w',kn base g (.slice (some ⟨g,0,none⟩) s.length c) (o.gC m s q a) u w w'->gb u w') :
  AP Tryz.prog (.iface (k1 a.kind) (.agg (a.enc bH bV).toArray)) "lariat/fire.do" [.pointer (some ⟨ck,0,none⟩)] w gb t:=by
 obtain⟨cq,uX⟩:=aU.kind;by_cases e1:a.kind=1
 .rw[show k1 a.kind=T.qX from by unfold k1;rw[if_pos e1]];exact _r (f:=F.DI) Cq (fun w'=>Cq) (aiN ck cU g c q p base m s a bH bV w bN gl av hIn aU e1 U aD) iX
 by_cases e2:a.kind=2
 .rw[show k1 a.kind=T.sX from by unfold k1;rw[if_neg e1,if_pos e2]];exact _r (f:=F.pv) Cq (fun w'=>Cq) (aiy ck cU g c q p base m s a bH bV w bN gl av hIn aU e2 U aD) iX
 by_cases a1:a.kind=3
 .rw[show k1 a.kind=T.mJ from by unfold k1;rw[if_neg e1,if_neg e2,if_pos a1]];exact _r (f:=F.cH) Cq (fun w'=>Cq) (aiG ck cU g c q p base m s a bH bV w bN gl av hIn aU a1 U aD) iX
 by_cases bC:a.kind=4
 .rw[show k1 a.kind=T.am from by unfold k1;rw[if_neg e1,if_neg e2,if_neg a1,if_pos bC]];exact _r (f:=F.DK) Cq (fun w'=>Cq) (aiM ck cU g c q p base m s a bH bV w bN gl av hIn aU bC U aD) iX
 .rw[show k1 a.kind=T.Hh from by unfold k1;rw[if_neg e1,if_neg e2,if_neg a1,if_neg bC]];exact _r (f:=F.vC) Cq (fun w'=>Cq) (aiI ck cU g c q p base m s a bH bV w bN gl av hIn aU Aw U aD) iX
theorem aip(b:Nat)(m:o.Model)(ref:Int)(q p k:Nat)(w:A_)(h:po w b m)(bq:o.ez m ref q p k) :
  ∃gn gz aO fz,o.eL w (.slice gn (o.bx m p k).guard.length gz) (o.bx m p k).guard/\o.lK w (.slice aO (o.bx m p k).bE.length fz) (o.bx m p k).bE /\
   ∀W,Ext w W->Dz F.n #[.pointer (some ⟨b,0,none⟩),.I ref] W fun u w'=>u = .agg ((o.bx m p k).enc (.slice gn (o.bx m p k).guard.length gz) (.slice aO (o.bx m p k).bE.length fz)).toArray/\Ext W w':=by
 obtain⟨zs,an,h⟩:=h;obtain⟨eB,d0,dB,d1,ec,d2,er,d3,eN,d4,bW,bu,bI,c1,bO,c2,bQ,bp,bZ,bB,b9,ci,fm,gd,rfl,_,_,_,_,_,_,_,_,_,_,ab,aX,bD⟩:=h.form;have ao:=bq.at_.U;have aq:=bq.at_.aq;have mP:=bq.at_.hk;have oe:=bq.at_.ip;obtain⟨r,rfl⟩:=Rt bq.aQ;have aG:r<(o.refs m).length:=bq.U;have gm:(o.refs m)[r].inst=(q:Int):=bq.at_.ox;have o0:(o.refs m)[r].cmd=(k:Int):=bq.at_.sA;obtain⟨jI,rfl⟩:=bD.addr;obtain⟨h7,rfl⟩:=aX.addr;obtain⟨a3,rfl⟩:=ab.addr;obtain⟨lZ,bV,dL,dA,eW,fl⟩:=ab.at p aq;obtain⟨CA,Bs,rfl,Cp⟩:=fl.form;obtain⟨ac,rfl⟩:=fl.addr;obtain⟨eE,e6,dn,fR,hv,fW⟩:=fl.at k mP;obtain⟨gn,gz,rfl,_⟩:=hv.form;obtain⟨sw,rZ,rfl,_⟩:=fW.form;unfold o.dw.enc at dA;unfold o.dr.enc at fR;have j8:=o.vK aq mP;refine⟨gn,gz,sw,rZ,by rw[j8];exact hv,by rw[j8];exact fW,fun W tm=>?_⟩;replace an:=tm.obj an;replace bD:=bD.ext Flat.ext tm;replace aX:=aX.ext Flat.ext tm;replace dA:=dA.ext tm;replace fR:=fR.ext tm;refine bl E.n ?_;refine J ?_;intro w1 bP db ah au;replace an:=ah.obj an;have O7:=bD.ext Flat.ext ah;refine J ?_;intro aB cx e3 aj bf;have qd:(o.refs m)[r].enc=[.I q,.I k]:=by unfold o.Ref.enc;rw[gm,o0]
 rw[qd] at bf;have z4:=cr au;replace au:=aj.obj au;replace an:=aj.obj an;have e2:=ah.trans aj;have zz:=aX.ext Flat.ext e2;have Cg:=dA.ext e2;have Ez:=fR.ext e2;clear O7;refine J ?_;intro aK ag;replace au:=ag.obj au;replace bf:=ag.obj bf;replace an:=ag.obj an;replace zz:=zz.ext Flat.ext ag;replace Cg:=Cg.ext ag;replace Ez:=Ez.ext ag;refine J ?_;refine K_ p (by rw[oe]) aq ?_;refine J ?_;intro aR dq bY;refine J ?_;exact⟨by rw[j8];rfl,dq.ext (e2.trans ag) Aw⟩
theorem aio(cU:Nat)(v:B_)(m:o.Model)(s:C_ Int)(ref:Int)(q p k:Nat)(w:A_)(ek:po w cU m)(ak:dc w v s)(av:o.Fits m s)(bq:o.ez m ref q p k) :
  Dz F.HZ #[.pointer (some ⟨cU,0,none⟩),v,.I ref] w fun u w'=>((o.fA m s q (o.bx m p k)=none/\u = .tuple #[.slice none 0 0,.bool false])\/(∃t ae c,o.fA m s q (o.bx m p k)=some t/\u = .tuple #[.slice ae t.length c,.bool true]/\iz w.heap.size w' (.slice ae t.length c) t))/\Ext w w':=by
 have gl:=bq.ok;have aS:=o.iu gl;have hIn:=bq.inst;have oT:=bq.cin;have sd:=oT.gG;have ao:=hIn.ao;have hlen:=av.len;have ko:o.c6 m<=64:=o.iL aS;have EN:=hIn.room;obtain⟨f6,f7,f8⟩:=o.tC m;obtain⟨EM,qu⟩:=o.rq ao;have yc:=ek;obtain⟨zs,an,h9⟩:=ek;obtain⟨eB,d0,dB,d1,ec,d2,er,d3,eN,d4,bW,bu,bI,c1,bO,c2,bQ,bp,bZ,bB,yF,xW,fm,gd,rfl,_,_,dV,dH,df,eO,fM,ad,h1,I,ab,aX,bD⟩:=h9.form;obtain⟨ep,fp,rfl,fc⟩:=ak.form;obtain⟨r,rfl⟩:=Rt bq.aQ;have aG:r<(o.refs m).length:=bq.U;have gm:(o.refs m)[r].inst=(q:Int):=bq.at_.ox;obtain⟨jI,rfl⟩:=bD.addr;obtain⟨a2,rfl⟩:=df.addr;obtain⟨Nx,rfl⟩:=ak.addr;obtain⟨c,ye⟩:∃c,c=o.bx m p k:=⟨_,rfl⟩;obtain⟨gn,gz,aO,fz,hv,fW,j8⟩:=aip cU m r q p k w yc bq;rw[<-ye] at oT sd ⊢;simp only[<-ye] at j8 hv fW;clear dV dH eO fM ad h1 I ab aX h9;have Cm:∀{W},Ext w W->W.heap[cU]? = _:=fun e=>e.obj an;refine bl E.HZ ?_;simp -dsimp only[cu];refine dO ?_;refine S_ [0,1,2] (fun jJ:Nat=>[(8,.pointer (some ⟨jJ,0,none⟩)),(9,.I q)]) (fun jJ W=>w.heap.size<=jJ/\Ext w W/\W.heap[jJ]? = some (.cells (c.enc (.slice gn c.guard.length gz) (.slice aO c.bE.length fz)).toArray T.s)) ?_ ?_
 .refine J ?_;intro w1 ah;replace an:=ah.obj an;replace bD:=bD.ext Flat.ext ah;refine J ?_;refine⟨?_,?_⟩
  .refine J_ (j8 w1 ah) ?_;rintro _ aB ⟨rfl,aj⟩;refine⟨aj,?_⟩;refine J ?_;intro aK jJ nu ag cn;refine⟨aj.trans ag,?_⟩;refine T_ cn rfl rfl (by simp[Value.oneCell',o.dr.enc]) fun aR dq bf=>?_;have aw:Ext aB aR:=dq.ext ag nu;refine⟨aj.trans aw,?_⟩;refine J ?_
   have:=ah.size
   have:=aj.size
   exact⟨jJ,⟨rfl,by first | trivial | (rw[gm];trivial) | simp[gm,Has],trivial⟩,Aw,ah.trans (aj.trans aw),bf⟩
  .refine J ?_;intro aB jJ nu aj cn;refine⟨aj,?_⟩;refine J ?_;refine J_ (j8 aB (ah.trans aj)) ?_;rintro _ aK ⟨rfl,ag⟩;replace cn:=ag.obj cn;have Xo:=aj.trans ag;refine⟨Xo,?_⟩;refine J ?_;intro aR dq bf;have aw:Ext w1 aR:=dq.ext Xo nu;refine⟨aw,?_⟩;refine J ?_
   have:=ah.size
   exact⟨jJ,⟨rfl,by first | trivial | (rw[gm];trivial) | simp[gm,Has],trivial⟩,Aw,ah.trans aw,bf⟩
 clear j8 an;rintro jJ S w1 ⟨nu,ah,cn⟩;have awR:=cr cn;have an:=Cm ah;have ff:=ak.ext Flat.ext ah;have sf:s[o.da m q]? = some (s[o.da m q]' Aw):=List.getElem?_eq_getElem Aw;refine J ?_;refine J_ (Q9 _ s w1 ff (by unfold o.ea;omega)) ?_;rintro u aB ⟨dj,aj⟩;replace an:=aj.obj an;replace cn:=aj.obj cn;have e2:=ah.trans aj;obtain⟨aoK,DP,rfl,_⟩:=(jz dj).form;obtain⟨g,rfl⟩:∃g,aoK=some ⟨g,0,none⟩:=by
  rcases dj.2 with ⟨ax,ad⟩ | ⟨g,cap,cur,h1,_⟩
  .exfalso;injection ax with _ I _;omega
  .injection h1 with h1 _ _;exact⟨g,h1⟩
 refine J ?_;intro aK qY wb ag gu;have a1:=e2.trans ag;have YF:ln w1 aK qY cU g DP q w1.heap.size m s:=⟨aj.trans ag,Gf _,yc.ext ah,gu,dj.ext ag⟩;replace an:=ag.obj an;replace cn:=ag.obj cn;have gH:=ak.ext Flat.ext a1;have ap6:=df.ext Flat.ext a1;clear ff dj;refine dO ?_;refine AA0 an (Ext.refl _) rfl ?_;refine dO ?_;simp -dsimp only[cu];refine dO ?_;refine K_ (o.da m q) (by rw[qu]) Aw ?_;refine dO ?_;intro aR aw;have zC:=YF.ext aw;replace cn:=aw.obj cn;replace an:=aw.obj an;have bC:=a1.trans aw;clear gH ap6 YF gu;refine dO ?_;apply I_<;>intro g1;rotate_left
 .refine J ?_;exact⟨.inl ⟨by unfold o.fA;rw[sf,if_pos (by simpa using g1)],aL⟩,bC⟩
 have pD:o.fA m s q c=if 0<c.guard.length/\((o.eval c.guard (o.cc m s q)).2≠0\/(o.eval c.guard (o.cc m s q)).1=0) then none else (o.h6 m q c.bE s).map fun t=>t.set (o.da m q) c.to:=by
  unfold o.fA;rw[sf,if_neg (by simpa using g1)]
 have YU:=cn;refine dO ?_;refine S_ [0,2,8,9,10,11] (fun _:Unit=>[]) (fun _ W=>Ext aR W/\¬(0<c.guard.length/\((o.eval c.guard (o.cc m s q)).2≠0\/(o.eval c.guard (o.cc m s q)).1=0))) ?_ ?_
 .refine J ?_;apply I_<;>intro g2;rotate_left
  .refine J ?_;exact⟨(),trivial,Ext.refl _,fun cN=>Aw⟩
  refine J ?_;refine J_ (BN qY cU g DP q p w1.heap.size m s _ c.guard aR zC gl av hIn (hv.ext bC)) ?_;rintro _ bo ⟨rfl,aF⟩;obtain⟨n,oW⟩:∃n,n=(o.eval c.guard (o.cc m s q)).1:=⟨_,rfl⟩;obtain⟨e,od⟩:∃e,e=(o.eval c.guard (o.cc m s q)).2:=⟨_,rfl⟩;rw[<-oW,<-od];rw[<-oW,<-od] at pD;refine J ?_;refine I_ (fun jP=>?_) (fun jP=>?_);rotate_left
  .refine J ?_;exact⟨.inl ⟨by rw[pD,if_pos ⟨Aw,.inl jP⟩],aL⟩,bC.trans aF⟩
  refine J ?_;refine I_ (fun hJ=>?_) (fun hJ=>?_)
  .refine J ?_;exact⟨.inl ⟨by rw[pD,if_pos ⟨Aw,.inr hJ⟩],aL⟩,bC.trans aF⟩
  .refine J ?_;exact⟨(),trivial,aF,fun cN=>by rcases cN.2 with h | h;exact h jP;exact hJ h⟩
 clear cn an;rintro _ S bo ⟨aF,tp⟩;have hc:o.fA m s q c=(o.h6 m q c.bE s).map fun t=>t.set (o.da m q) c.to:=by rw[pD,if_neg tp]
 rw[hc];clear pD tp hc;have cn:=aF.obj YU;have Pb:=zC.ext aF;have bF:=bC.trans aF;refine J ?_;refine J_ (air _ c.bE bo (fW.ext ah) (aj.trans (ag.trans (aw.trans aF))) (fun x af=>(o.Dv oT x af).kind) Aw) ?_;rintro u bt ⟨⟨cd,la,Qn,h8⟩,aI⟩;obtain⟨ov,nY,rfl,_⟩:=(aP.jg j3 Qn).form;have ajL:=Pb.ext aI;have Pu:=aI.obj cn;have cg:=bF.trans aI;have B8:=Pb.DG;have z5:=aI.size;clear cn YU zC Pb;refine J ?_;refine L_ 69 cd.length [0,2,8,9,10,11,67,68] (fun _:C_ Int=>[]) s (fun n t W=>Mod (fun i=>i=g) bt W/\o.h6 m q (c.bE.take n) s=some t/\o.Fits m t/\ln w1 W qY cU g DP q w1.heap.size m t) a8 a8 ⟨Mod.refl _ _,rfl,av,ajL⟩ ?_;rintro n t aZ bG ax ⟨ib,aA,re,Em⟩;have akX:g≠jJ:=Aw
 have BZ:=ib.obj (fun h=>akX h.symm) Pu;have alE:=aP.mod Qn ib fun i U h=>by have:=(aP.lt Qn i U).1;omega
 refine J ?_;apply I_<;>intro g2
 .have iH:n<cd.length:=Aw
  have yn:n<c.bE.length:=Aw
  have YD:=aP.jg j3 alE;obtain⟨ac,rfl⟩:=YD.addr;obtain⟨bH,bV,gk,oX,pG⟩:=h8 n iH yn;have gj:bG.cell? (ac.add (n*1))=some (.iface (k1 c.bE[n].kind) (.agg (c.bE[n].enc bH bV).toArray)):=by
   have:=YD.at n iH 0 _ (by show(cd[n].1)[0]? = _;rw[gk];rfl)
   rwa[add_zero] at this
  have zy:Ext w1 bG:=ib.ext (aj.trans (ag.trans (aw.trans (aF.trans aI)))) fun i U h=>Aw
  have sb:=Em.box;refine J ?_;refine M_ gj ?_;refine J ?_;refine aiq qY cU g DP q p w1.heap.size m t c.bE[n] bH bV bG _ Em gl re hIn (o.Dv oT _ (Gy yn)) (oX.ext zy) (pG.ext zy) fun u cQ bD=>?_;obtain⟨bD,hT⟩:=bD;have ZP:Mod (fun i=>i=g) bt cQ:=ib.trans hT;rcases bD with ⟨t2,h1,rfl,I⟩ | ⟨h1,rfl⟩
  .have Zr:=o.Nl aS hIn (o.Dv oT _ (Gy yn)) re h1;refine J ?_;exact⟨iH,aL,t2,trivial,ZP,by rw[o.Np m q c.bE s yn,aA];exact h1,Zr,Em.mod hT I (by rw[Zr.len,re.len])⟩
  .have fg:o.h6 m q c.bE s=none:=o.No m q c.bE s (n+1) (by rw[o.Np m q c.bE s yn,aA];exact h1);refine J ?_;exact⟨.inl ⟨by rw[fg];rfl,aL⟩,ZP.ext cg fun i U h=>by have:=ah.size;omega⟩
 have pF:n=c.bE.length:=Aw
 rw[pF,AF1] at aA;rw[aA];have sb:=Em.box;have b4:=re.len;have gx:Ext w bG:=ib.ext cg fun i U h=>by have:=ah.size;omega
 have gq:=ah.size;refine J ?_;intro cQ bA;have Pc:=Em.ext bA;have aup:=Pc.box;replace BZ:=bA.obj BZ;clear sb;refine J ?_;refine K_ (o.da m q) (by rw[qu]) Aw ?_;refine J ?_;refine _z (k:=o.da m q) Pc.own Aw fun cS hI gO=>?_;have ajM:=Pc.mod (hI.mod rfl) gO (AE8 ..);have ajZ:=ajM.box;rw[AE8] at ajZ;refine J ?_;refine⟨.inr ⟨_,some ⟨g,0,none⟩,DP,rfl,by rw[AE8],by rw[AE8];exact aP.low gq gO⟩,hI.ext (gx.trans bA) (by show w.heap.size<=g;omega)⟩
end Go.Proofs.R
end