/- Parts. -/
import Derived.Test.YtakmdjclehkglaaGreatDoorQaso
set_option linter.all false
set_option maxRecDepth 4000
set_option maxHeartbeats 16000000
section
namespace o
theorem alR(s:C_ Int)(p:Nat)(x:Int)(xs:C_ Int)(h:p+(xs.length+1)<=s.length):hR (s.set p x) (p+1) xs=hR s p (x :: xs):=by
 have h1:p+1+xs.length<=(s.set p x).length:=by rw[AE9];omega
 have I:p+(x :: xs).length<=s.length:=by simpa using h
 apply List.ext_getElem?;intro i;rw[An h1,An I];by_cases U:i=p
 .subst U;rw[if_neg AK,if_pos ⟨AK,Bs⟩,List.getElem?_set_self AK];simp
 .by_cases aP:p+1<=i/\i<p+1+xs.length
  .rw[if_pos aP,if_pos ⟨AK,by simp;omega⟩,show i - p=(i - (p+1))+1 from AK,List.getElem?_cons_succ]
  .rw[if_neg aP,if_neg (by simp;omega),List.getElem?_set_ne AK]
theorem ZQ(s:C_ Int)(p:Nat):hR s p []=s:=by simp[hR]
end o
namespace ba
open Go Go.RowKit
theorem aa4{e:F_}{base:Nat}{w:A_}{l:C_ Int}{g n c k:Nat}{x:Int}(h:aS cL e 1 base w (.slice (some ⟨g,0,none⟩) n c) l)(hk:k<l.length) :
  aS cL e 1 base (w.setCell ⟨g,k,none⟩ (.I x)) (.slice (some ⟨g,0,none⟩) n c) (l.set k x)/\(∃hD,w.cell? ⟨g,k,none⟩=some hD)/\w.frozen? ⟨g,k,none⟩=false:=by
 rcases h.2 with ⟨az,af⟩ | ⟨ahM,cap,cur,h1,I,ab,aH,a8,bE,cj⟩
 .cases az
 .injection h1 with bB aJ a7
  injection bB with bB
  injection bB with bB
  subst bB a7;have cg:k<cur.size:=AK
  have kP:Addr.add ⟨g,0,none⟩ k=⟨g,k,none⟩:=by rw[add_eq,AE8]
  have an:w.cell? (Addr.add ⟨g,0,none⟩ k)=some cur[k]:=fW ab (Array.getElem?_eq_getElem cg);rw[kP] at an;have bo:w.ownsRow base e 1 (.slice (some ⟨g,0,none⟩) l.length c) l.length (l.flatMap cL):=by unfold aS at h;rw[aJ] at h;exact h
  have ak:=World.ownsRow.stored bo k (.I x);rw[NX] at ak;refine⟨?_,⟨_,an⟩,by simp[World.frozen?,ab]⟩;unfold aS;rw[AE9,aJ];exact ak.1
theorem aa5{e:F_}{base:Nat}{g n c p:Nat}:∀(xs:C_ Int) (i:Nat) (w:A_) (l:C_ Int),aS cL e 1 base w (.slice (some ⟨g,0,none⟩) n c) l->p+i+xs.length<=l.length ->
  aS cL e 1 base (iC w ⟨g,p,none⟩ (xs.flatMap cL) i) (.slice (some ⟨g,0,none⟩) n c) (o.hR l (p+i) xs)
 | [],i,w,l,h,_=>by rw[o.ZQ];exact h
 | x :: xs,i,w,l,h,aC=>by
  have iK:p+i+(xs.length+1)<=l.length:=by simpa using aC
  have h1:=(aa4 (x:=x) h (k:=p+i) AK).1;have I:=aa5 (p:=p) xs (i+1) _ _ h1 (by rw[AE9];omega);rw[<-AI3,o.alR _ _ _ _ iK] at I;show aS cL e 1 base (iC (w.setCell (Addr.add ⟨g,p,none⟩ i) (.I x)) ⟨g,p,none⟩ (xs.flatMap cL) (i+1)) _ _;rw[add_eq];exact I
theorem _c{S:Fr}{w:A_}{aE:B_->Prop}{n cap g:Nat}{x y:G_}{k k':IntKind}{xs:C_ Int}{t}(l u:Nat)(ak:bn 1 (Flat cL) w (.slice (some ⟨g,0,none⟩) n cap) xs)(ag:aX S x = .int k (l:Int))(bV:aX S y = .int k' (u:Int))(aC:l<=u)(hu:u<=xs.length)
  (hk:∀ae c,(0<u - l->ae=some ⟨g,l,none⟩)->bn 1 (Flat cL) w (.slice ae (u - l) c) ((xs.drop l).take (u - l))->aE (.slice ae (u - l) c)):rZ S 1 (.slice (some ⟨g,0,none⟩) n cap) (some x) (some y) none aE t:=by
 obtain⟨bB,aJ,a7⟩:=ak.len;refine _B l u cap (by simp[eG,ag]) (by simp[eG,bV]) (by simp[eG]) ⟨aC,AK,GA _⟩ Bs ?_;refine hk _ _ (fun af=>?_) (ak.sub l u aC hu);rw[if_neg AK];simp[add_eq]
theorem AD8{S:Fr}{w:A_}{aE:B_->Prop}{n cap g:Nat}{x:G_}{k:IntKind}{xs:C_ Int}{t}(l:Nat)(ak:bn 1 (Flat cL) w (.slice (some ⟨g,0,none⟩) n cap) xs)(ag:aX S x = .int k (l:Int))(aC:l<=xs.length)
  (hk:∀ae c,(0<n - l->ae=some ⟨g,l,none⟩)->aE (.slice ae (n - l) c)):rZ S 1 (.slice (some ⟨g,0,none⟩) n cap) (some x) none none aE t:=by
 obtain⟨bB,aJ,a7⟩:=ak.len;refine _B l n cap (by simp[eG,ag]) (by simp[eG]) (by simp[eG]) ⟨AK,AK,GA _⟩ Bs ?_;refine hk _ _ (fun af=>?_);rw[if_neg AK];simp[add_eq]
theorem _d{P:D_}{S:Fr}{w:A_}{e cD:F_}{base g n c p k ta m cs:Nat}{l xs:C_ Int}{x y:G_}{ae os:H_ Addr}{cT:B_->A_->Prop}{ty:F_}{t}(aO:aS cL e 1 base w (.slice (some ⟨g,0,none⟩) n c) l)(PN:bn 1 (Flat cL) w (.slice os m cs) xs)
  (ag:aX S x = .slice ae k ta)(bV:aX S y = .slice os m cs)(bb:0<k->ae=some ⟨g,p,none⟩)(au:p+k<=l.length)(hu:P.underlying cD=some (.slice e))(bI:(P.info? e).map (·.size)=some 1)
  (hk:∀u w1,dy g w w1->aS cL e 1 base w1 (.slice (some ⟨g,0,none⟩) n c) (o.hR l p (xs.take k))->cT u w1):sP P (.call ⟨.builtin .copy,#[x,y],#[cD,cD]⟩) ty S w cT t:=by
 obtain⟨inf,U,fp⟩:=Option.map_eq_some_iff.1 bI;obtain⟨bB,aJ,a7⟩:=PN.len;subst bB;have Y1:(xs.take k).length=min k xs.length:=K9;have ajt:∀a,os=some a->fi w a ((xs.take k).flatMap cL):=fun a aV j v aF=>by
  have mE:(List.map (Value.int .i64) (xs.take k))[j]? = some v:=by rw[<-aF];congr 1;induction xs.take k with | nil=>rfl | cons q r fh=>simp[cL,fh]
  rw[List.getElem?_map] at mE;cases ar:(xs.take k)[j]? with
  | none=>rw[ar] at mE;cases mE
  | some q =>
   rw[ar] at mE;have bD:v = .I q:=by simpa using mE.symm
   subst bD;obtain⟨cg,Af⟩:=List.getElem?_eq_some_iff.1 ar;rw[Y1] at cg;subst aV;have I:=PN.at j AK;have ab:w.cell? ((a.add (j*1)).add 0)=some (.I xs[j]):=I 0 _ rfl;rw[add_zero,AG5] at ab;rw[ab]
   have:(xs.take k)[j]=xs[j]:=Bs
   rw[this] at Af;rw[Af]
 have lK:((xs.take k).flatMap cL).length=min xs.length k:=by rw[x8 (sz:=1) (fun _=>rfl),Y1];omega
 have O5:(Builtin.firstCells 1 (min xs.length k) (.slice os xs.length cs)).run P w = .ok ((xs.take k).flatMap cL).toArray w:=by
  cases os with
  | none =>
   have af:xs=[]:=by
    cases tF:xs with
    | nil=>rfl
    | cons q r=>obtain⟨a,aV⟩:=PN.addr (by rw[tF];simp);cases aV
   subst af;simp[Builtin.firstCells]
  | some a =>
   have h1:=run_loadCells_list (P:=P) w a _ (ajt a rfl);rw[lK] at h1;simp only[Builtin.firstCells,Nat.mul_one];exact h1
 rcases Nat.eq_zero_or_pos k with gr | gr
 .subst gr;have bJ:(xs.take 0).flatMap cL=[]:=rfl;rw[bJ,Nat.min_zero] at O5;refine _D (v:=goInt 0) (w':=w) ?_ (hk _ _ (dy.refl _ _) (by rw[show xs.take 0=[] from rfl,o.ZQ];exact aO));cases ae<;>simp[execOp,resolve,invoke,builtin,ag,bV,Builtin.copy_,run_underlying hu,Builtin.lenOf,p4 U,fp,O5,storeCells]
 .obtain rfl:=bb gr;have iL:=Gv P ⟨g,p,none⟩ ((xs.take k).flatMap cL) 0 w (fun j aF=>by
   rw[AE8,add_eq];exact(aa4 (x:=0) aO (k:=p+j) AK).2) (fun q ar=>by
   obtain⟨z,_,tG⟩:=List.mem_flatMap.1 ar;rw[List.mem_singleton.1 tG];rfl)
  refine _D (v:=goInt ((Nat.min xs.length k:Nat):Int)) (w':=iC w ⟨g,p,none⟩ ((xs.take k).flatMap cL) 0) ?_ (hk _ _ (dy.iC _ w ⟨g,p,none⟩ 0) (aa5 _ 0 w l aO AK));simp[execOp,resolve,invoke,builtin,ag,bV,Builtin.copy_,run_underlying hu,Builtin.lenOf,p4 U,fp,O5,iL]
theorem AD9{α:Type}{S:Fr}{w:A_}{aE:B_->Prop}{sz n cap:Nat}{R:A_->Addr->α->Prop}{aQ:H_ Addr}{x y z:G_}{k k' k'':IntKind}{xs:C_ α}{t}(l u:Nat)(ak:bn sz R w (.slice aQ n cap) xs)(ag:aX S x = .int k (l:Int))(bV:aX S y = .int k' (u:Int))(bI:aX S z = .int k'' (u:Int))(aC:l<=u)(hu:u<=xs.length)
  (hk:∀ae,bn sz R w (.slice ae (u - l) (u - l)) ((xs.drop l).take (u - l))->aE (.slice ae (u - l) (u - l))):rZ S sz (.slice aQ n cap) (some x) (some y) (some z) aE t:=by
 obtain⟨bB,aJ,a7⟩:=ak.len;refine _B l u u (by simp[eG,ag]) (by simp[eG,bV]) (by simp[eG,bI]) ⟨aC,GA _,AK⟩ Bs ?_;refine hk _ ?_;have hlen:((xs.drop l).take (u - l)).length=u - l:=by rw[K9,AF7];omega
 by_cases Zq:u=l
 .subst Zq;have af:(xs.drop u).take (u - u)=[]:=by rw[Nat.sub_self];rfl
  rw[af];rw[if_pos rfl,Nat.sub_self];exact⟨aQ,0,rfl,GA _,AF6 _,fun h=>absurd rfl h,fun a _ i U=>absurd U (K8 _)⟩
 .have h:=ak.sub l u aC hu;rw[if_neg AK] at h;rw[if_neg Zq];obtain⟨o',kN,e,h1,I,ab,aH⟩:=h;injection e with f1 f2 f3
  subst f1;exact⟨_,_,by rw[hlen],by rw[hlen];exact GA _,AK,ab,aH⟩
end ba
namespace o
theorem alV{l:C_ Int}(af:0<l.length)(h1:0<=l[0])(I:l[0]<=(l.length:Int) - 1):ju l = !((l.drop (1+l[0].toNat)).any fun n=>decide (n≠0)):=by
 cases l with
 | nil=>simp at af
 | cons n r =>
  simp only[List.getElem_cons_zero,List.length_cons] at h1 I ⊢;rw[Nat.add_comm,List.drop_succ_cons];unfold ju;show(decide (0<=n/\n<=(r.length:Int))&&(r.drop n.toNat).all fun x=>decide (x=0))=_;rw[decide_eq_true AK,AJ3,List.not_any_eq_all_not];congr 1;funext x;by_cases h:x=0<;>simp[h]
theorem ZU{l:C_ Int}(h:∀af:0<l.length,¬(0<=l[0]/\l[0]<=(l.length:Int) - 1)):ju l=false:=by
 cases ar:ju l with
 | false=>rfl
 | true =>
  obtain⟨af,h1,I,_⟩:=yy.1 ar;exact absurd ⟨h1,I⟩ (h af)
theorem aoj(n:Nat)(l:C_ Int)(h:1<=n):hR ((List.replicate n 0).set 0 (l.length:Int)) 1 (l.take (n - 1))=rH n l:=by
 have hlen:1+(l.take (n - 1)).length<=((List.replicate n (0:Int)).set 0 (l.length:Int)).length:=by
  rw[AE9,AF5,K9];omega
 apply List.ext_getElem?;intro i;rw[An hlen];have rq:(l.take (n - 1)).length=min (n - 1) l.length:=K9;cases i with
 | zero =>
  rw[if_neg AK,List.getElem?_set_self (by rw[AF5];omega)];simp[rH]
 | succ i =>
  by_cases U:i+1<n
  .rw[aa7 U];by_cases jX:i<l.length
   .rw[if_pos AK,show i+1 - 1=i from rfl,List.getElem?_take_of_lt AK,List.getElem?_eq_getElem jX];simp[jX]
   .rw[if_neg AK,List.getElem?_set_ne AK,List.getElem?_replicate,if_pos U];simp[List.getD,List.getElem?_eq_none (show l.length<=i by omega)]
  .rw[if_neg AK,List.getElem?_eq_none (by rw[AE9,AF5];omega),List.getElem?_eq_none (by rw[Q2 h];omega)]
end o
namespace Go.Proofs.R
open Go Go.RowKit ba
theorem ans(n aR U:Int)(w:A_):DD F.IN #[.I n,.I aR,.I U] w fun v w'=>(∃t:Bool,v = .bool t/\(t=true↔aR<=n/\n<=U))/\Ext w w':=by
 refine br E.IN ?_;refine J ?_;refine I_ (fun g=>?_) (fun g=>?_)
 .refine J ?_;exact⟨⟨_,rfl,by rw[decide_eq_true_eq];exact⟨fun h=>⟨g,h⟩,fun h=>h.2⟩⟩,Ext.refl _⟩
 .refine J ?_;exact⟨⟨false,rfl,by simp only[Bool.false_eq_true,false_iff];exact fun h=>g h.1⟩,Ext.refl _⟩
theorem afn(n:Int)(w:A_):DD F.om #[.I n] w fun v w'=>v = .bool (decide (n≠0))/\Ext w w':=by
 refine br E.om ?_;refine J ?_;refine⟨?_,Ext.refl _⟩
 first | trivial | (congr 1;simp)
theorem afF(v:B_)(l:C_ Int)(w:A_)(h:dw w v l) :
  DD F.q #[v,.func (.func F.om) #[] #[]] w fun b0 w'=>b0 = .I (l4 (fun n=>decide (n≠0)) l 0)/\Ext w w':=by
 obtain⟨bR,c1,rfl,bw⟩:=h.form;refine vA E.q ?_;refine oh ?_;refine J ?_;refine L_ 8 l.length [0,1,7] (fun _:Unit=>[]) () (fun k _ w'=>Ext w w'/\l4 (fun n:Int=>decide (n≠0)) l 0=l4 (fun n:Int=>decide (n≠0)) (l.drop k) k) bc bc ⟨Ext.refl _,Bs⟩ ?_;rintro k _ S aD hk ⟨aj,aZ⟩;have I:=h.ext Flat.ext aj;refine J ?_;apply I_<;>intro g1
 .have a1:k<l.length:=AK
  obtain⟨a,rfl⟩:=h.addr;rw[NU a1] at aZ;refine J ?_;refine V_ (first:=[]) (cap:=[]) Ct (afn l[k] aD) ?_;rintro _ aN ⟨rfl,ah⟩;by_cases ak:l[k]≠0
  .rw[if_pos (by simpa using ak)] at aZ;rw[decide_eq_true ak];refine J ?_;exact⟨by rw[aZ],aj.trans ah⟩
  .rw[if_neg (by simpa using ak)] at aZ;rw[decide_eq_false ak];refine J ?_;exact⟨a1,aL,(),trivial,aj.trans ah,aZ⟩
 .refine J ?_;exact⟨by rw[aZ,AF0 AK];rfl,aj⟩
theorem ae3(v:B_)(l:C_ Int)(w:A_)(h:dw w v l) :
  DD F.ae #[v,.func (.func F.om) #[] #[]] w fun b0 w'=>b0 = .bool (l.any fun n=>decide (n≠0))/\Ext w w':=by
 refine vA E.ae ?_;refine oh ?_;refine J ?_;refine J_ (afF v l w h) ?_;rintro _ aD ⟨rfl,aj⟩;refine J ?_;refine⟨?_,aj⟩;congr 1;exact Bool.eq_iff_iff.2 (by rw[decide_eq_true_eq];exact Is)
theorem VU(v:B_)(l:C_ Int)(w:A_)(h:dw w v l)(aC:l.length<=100000):DD F.IL #[v] w fun u w'=>u = .bool (o.ju l)/\Ext w w':=by
 obtain⟨eF,fB,rfl,fm⟩:=h.form;refine br E.IL ?_;refine J ?_;apply I_<;>intro g1
 .refine J ?_;exact⟨by rw[o.ZU fun af=>by omega],Ext.refl _⟩
 have af:0<l.length:=AK
 obtain⟨a,rfl⟩:=h.addr af;refine J ?_
 try (refine K_ 0 rfl AK ?_;refine J ?_)
 refine J_ (ans _ _ _ w) ?_;rintro _ w1 ⟨⟨t,rfl,aB⟩,ai⟩;cases t with
 | false =>
  refine J ?_;exact⟨by rw[o.ZU fun _ h=>by have:=aB.2 h;cases this],ai⟩
 | true =>
 have ar:=aB.1 rfl;have fp:=h.ext Flat.ext ai;refine J ?_
 try (refine K_ 0 rfl AK ?_;refine J ?_)
 refine _0 (k:=.i64) (1+l[0].toNat) fp (by simp[de,bN];omega) AK fun ae c au=>?_;refine J ?_;refine J_ (ae3 _ (l.drop (1+l[0].toNat)) w1 (by have:=au.len.1;exact au)) ?_;rintro _ aD ⟨rfl,aj⟩;refine J ?_;exact⟨by rw[o.alV af ar.1 ar.2],ai.trans aj⟩
theorem VV(v:B_)(l:C_ Int)(w:A_)(h:dw w v l)(aC:l.length<=100000) :
  DD F.IM #[v] w fun u w'=>iS w.heap.size w' u (o.jv l)/\Ext w w':=by
 obtain⟨eF,fB,rfl,fm⟩:=h.form;refine br E.IM ?_;refine J ?_;refine J_ (VU _ l w h aC) ?_;rintro _ w1 ⟨rfl,ai⟩;by_cases ar:o.ju l=true;rotate_left
 .have Ae:o.ju l=false:=by simpa using ar
  rw[Ae];refine J ?_;exact⟨by rw[o.ZX ar];exact aS.nil _ _ _ _ _,ai⟩
 rw[ar];obtain⟨af,h1,I,ab⟩:=o.yy.1 ar;obtain⟨a,rfl⟩:=h.addr af;have fp:=h.ext Flat.ext ai;refine J ?_
 try (refine K_ 0 rfl AK ?_;refine J ?_)
 refine _y l[0].toNat AK AK ?_;intro aD bS dm aj av;have dA:iS w.heap.size aD (.slice (some ⟨bS,0,none⟩) l[0].toNat l[0].toNat) (List.replicate l[0].toNat 0):=aS.zn _ av (by have:=ai.size;omega) (FB _) (fun _=>rfl) Bs (by rw[AF5];unfold maxLen;omega);refine J ?_;intro aN ah;have gO:=fp.ext Flat.ext (aj.trans ah);have dT:=dA.ext ah;refine J ?_
 try (refine K_ 0 rfl AK ?_;refine J ?_)
 try (refine K_ 0 rfl AK ?_;refine J ?_)
 refine AD9 (k:=.i64) (k':=.i64) (k'':=.i64) 1 (1+l[0].toNat) gO (by simp[ot]) (by simp[de,bN];omega) (by simp[de,bN];omega) AK AK fun ae au=>?_;rw[show 1+l[0].toNat - 1=l[0].toNat from AK] at au ⊢;refine J ?_;refine _d (p:=0) dT au (by simp only[de,bN];rfl) (by simp only[de,bN];rfl) (fun _=>rfl) (by rw[AF5];omega) Ct Ct fun u aU dE dO=>?_;have a7:=(ai.trans aj).trans ah;refine J ?_;refine⟨?_,dE.ext a7 (by have:=ai.size;omega)⟩;have jX:=o.alY ar af;rw[<-o.Qo ar af,LJ AK] at dO
 have:o.hR (List.replicate l[0].toNat 0) 0 (o.jv l)=o.jv l:=by
  unfold o.hR;rw[AK7,AF8,AF0 (by rw[AF5];omega),AF1]
 rw[this] at dO;exact dO
theorem VT(n:Nat)(v:B_)(l:C_ Int)(w:A_)(h:dw w v l)(az:1<=n/\n<=100000) :
  DD F.ci #[.I n,v] w fun u w'=>iS w.heap.size w' u (o.rH n l)/\Ext w w':=by
 obtain⟨eF,fB,rfl,fm⟩:=h.form;refine br E.ci ?_;refine J ?_;refine _y n AK AK ?_;intro aD bS dm aj av;have dA:iS w.heap.size aD (.slice (some ⟨bS,0,none⟩) n n) (List.replicate n 0):=aS.zn _ av AK (FB _) (fun _=>rfl) Bs (by rw[AF5];unfold maxLen;omega);have ep:=h.ext Flat.ext aj;clear av;refine J ?_
 try (refine K_ 0 rfl AK ?_;refine J ?_)
 refine _z (k:=0) dA (by rw[AF5];omega) fun aN gg dT=>?_;have a7:Ext w aN:=gg.ext aj dm;have gO:=h.ext Flat.ext a7;refine J ?_;refine AD8 (k:=.i64) 1 (kF dT) (by simp[ot]) (by rw[AE9,AF5];omega) fun ae c au=>?_;refine J ?_;refine _d (p:=1) dT gO (by simp only[de,bN];rfl) (by simp only[de,bN];rfl) au (by rw[AE9,AF5];omega) Ct Ct fun u aU dE dO=>?_;rw[o.aoj n l az.1] at dO;refine J ?_;exact⟨dO,dE.ext a7 dm⟩
theorem afp(v:B_)(l:C_ Int)(w:A_)(h:dw w v l)(aC:l.length<=100000) :
  DD F.Ee #[v] w fun u w'=>((o.p6 l=none/\u = .tuple #[.slice none 0 0,.I 0,.bool false])\/(∃r x ae c,o.p6 l=some (r,x)/\u = .tuple #[.slice ae r.length c,.I x,.bool true]/\iS w.heap.size w' (.slice ae r.length c) r))/\Ext w w':=by
 obtain⟨eF,fB,rfl,fm⟩:=h.form;refine br E.Ee ?_;refine J ?_;refine J_ (VV _ l w h aC) ?_;rintro u w1 ⟨pb,ai⟩;have fM:=kF pb;obtain⟨cn,ci,rfl,_⟩:=fM.form;refine J ?_;apply I_<;>intro g1
 .have U:o.jv l=[]:=AF9 AK;refine J ?_;exact⟨.inl ⟨by unfold o.p6;rw[U],aL⟩,ai⟩
 have jX:=o.J2 l;obtain⟨x,r,U⟩:∃x r,o.jv l=x :: r:=by
  cases an:o.jv l with
  | nil=>rw[an] at g1;simp at g1
  | cons x r=>exact⟨x,r,rfl⟩
 obtain⟨ij,rfl⟩:=fM.addr;refine J ?_;intro aD aj;have I1:=fM.ext Flat.ext aj;have ep:=h.ext Flat.ext (ai.trans aj);refine J ?_;refine _0 (k:=.i64) 1 I1 rfl AK fun ae c au=>?_;have EM:(o.jv l).drop 1=r:=by rw[U];rfl
 have Fv:(o.jv l)[0]' AK=x:=by simp[U]
 rw[EM] at au;refine J ?_
 try (refine K_ 0 rfl AK ?_;refine J ?_)
 refine J_ (VT l.length _ r aD (by have:=au.len.1;exact au) AK) ?_;rintro u aN ⟨dT,ah⟩;obtain⟨QZ,x3,rfl,_⟩:=(kF dT).form;refine⟨ah,?_⟩;refine J ?_;exact⟨.inr ⟨o.rH l.length r,x,QZ,x3,by unfold o.p6;rw[U],by rw[Fv],aS.low (ai.trans aj).size dT⟩,(ai.trans aj).trans ah⟩
theorem afo(v:B_)(l:C_ Int)(x:Int)(w:A_)(h:dw w v l)(aC:l.length<=100000) :
  DD F.IK #[v,.I x] w fun u w'=>((o.nr l x=none/\u = .tuple #[.slice none 0 0,.bool false])\/(∃r ae c,o.nr l x=some r/\u = .tuple #[.slice ae r.length c,.bool true]/\iS w.heap.size w' (.slice ae r.length c) r))/\Ext w w':=by
 obtain⟨eF,fB,rfl,fm⟩:=h.form;refine br E.IK ?_;refine J ?_;refine J_ (VU _ l w h aC) ?_;rintro _ w1 ⟨rfl,ai⟩;by_cases ar:o.ju l=true;rotate_left
 .have Ae:o.ju l=false:=by simpa using ar
  rw[Ae];refine J ?_;exact⟨.inl ⟨by unfold o.nr;rw[if_neg (fun e=>ar e.1)],aL⟩,ai⟩
 rw[ar];obtain⟨af,h1,I,ab⟩:=o.yy.1 ar;obtain⟨a,rfl⟩:=h.addr af;have fp:=h.ext Flat.ext ai;have bb:l.headD 0=l[0]:=by cases l with | nil=>simp at af | cons n r=>rfl
 refine J ?_;apply I_<;>intro g1
 .refine J ?_;exact⟨.inl ⟨by unfold o.nr;rw[if_neg (fun e=>e.2 (by rw[bb];omega))],aL⟩,ai⟩
 refine J ?_;refine J_ (VV _ l w1 fp aC) ?_;rintro u aD ⟨dA,aj⟩;obtain⟨cn,ci,rfl,_⟩:=(kF dA).form;have jX:=o.J2 l;refine J ?_;intro aN bW fe ah bl;refine J ?_;refine U_ (y:=x) (dA.ext ah) bl rfl (fun _=>rfl) l3 AK (by unfold maxLen;omega) (by have:=aj.size;have:=ah.size;omega) fun aQ c d aU dO nM=>?_;have bD:Ext w1 aU:=(aj.trans ah).grown nM fun i U=>(dA.lt i U).1;refine J ?_;refine J_ (VT l.length _ _ aU (kF dO) AK) ?_;rintro u bt ⟨dF,aI⟩;obtain⟨QZ,x3,rfl,_⟩:=(kF dF).form;refine J ?_;exact⟨.inr ⟨_,QZ,x3,by unfold o.nr;rw[if_pos ⟨ar,by rw[bb];omega⟩],rfl,aS.low (ai.trans bD).size dF⟩,(ai.trans bD).trans aI⟩
def pC(w:A_)(b:Nat)(m:o.Model):Prop := ∃zs,w.heap[b]? = some (.cells zs.toArray T.a0)/\pD w zs m
theorem pC.ext{w w':A_}{b:Nat}{m:o.Model}(he:Ext w w')(h:pC w b m):pC w' b m:=let ⟨zs,h1,I⟩:=h; ⟨zs,he.obj h1,I.ext he⟩
theorem ahD(cs:C_ B_)(m:o.Model)(w:A_)(h:o.eh w cs m)(aK:m.cK)(aO:gK w) :
  DD F.d6 #[.agg cs.toArray] w fun u w'=>((¬(o.check m).cN=0/\u = .tuple #[.pointer none,.bool false])\/((o.check m).cN=0/\∃b,u = .tuple #[.pointer (some ⟨b,0,none⟩),.bool true]/\w.heap.size<=b/\pC w' b m))/\Ext w w':=by
 have dc:=h;obtain⟨b6,bx,bR,c1,bX,c2,bZ,bu,ca,bC,rfl,_⟩:=h.form;refine br E.d6 ?_;refine J ?_;intro w1 bw cM ai al;refine J ?_;refine J_ (yC _ m w1 (dc.ext ai) aK (aO.ext ai)) ?_;rintro _ aD ⟨rfl,aj⟩;replace al:=aj.obj al;have aJ:=ai.trans aj;refine J ?_;refine _K (v:=.I (o.check m).cN) rfl ?_;refine J ?_;refine I_ (fun hk=>?_) (fun hk=>?_);rotate_left
 .refine J ?_;exact⟨.inl ⟨hk,aL⟩,aJ⟩
 have Pk:o.lay m=o.layout m:=o.FJ hk;refine J ?_;intro aN ah;replace al:=ah.obj al;have a7:=aJ.trans ah;refine J ?_;refine J_ (FI _ m aN (dc.ext a7) aK (aO.ext a7)) ?_;rintro _ aU ⟨⟨ys,rfl,XF⟩,ax⟩;rw[Pk] at XF;have bD:=a7.trans ax;refine⟨ax,?_⟩;refine J ?_;refine J_ (wU _ m aU (dc.ext bD) aK) ?_;rintro bL bt ⟨ajX,aI⟩;have bJ:=bD.trans aI;refine⟨ax.trans aI,?_⟩;refine J ?_;refine J_ (yN _ m bt (dc.ext bJ) (o.j3 hk).lim) ?_;rintro hy bz ⟨tC,aM⟩;have cv:=bJ.trans aM;refine⟨(ax.trans aI).trans aM,?_⟩;have YE:=ajX.ext aM;have XG:=XF.here.ext (aI.trans aM);obtain⟨eK,d0,dM,d1,et,d2,eB,d3,eL,d4,rfl,_⟩:=XG.form;obtain⟨cn,ci,rfl,_⟩:=(aS.hE (enc:=o.cX.enc) (fun _=>rfl) YE).form;obtain⟨fA,gp,rfl,_⟩:=(aS.hE (enc:=o.Ref.enc) (fun _=>rfl) tC).form;refine J ?_;intro bK hp ir bq ct;have dz:=cv.trans bq;refine J ?_;exact⟨.inr ⟨hk,hp,aL,by have:=cv.size;omega,_,ct,_,_,_,_,rfl,dc.ext dz,XG.ext bq,(aS.hE (enc:=o.cX.enc) (fun _=>rfl) (YE.ext bq)),(aS.hE (enc:=o.Ref.enc) (fun _=>rfl) (tC.ext bq))⟩,dz⟩
theorem WW(b:Nat)(m:o.Model)(ref:Int)(q p k:Nat)(w:A_)(h:pC w b m)(bF:o.fr m ref q p k) :
  DD F.h #[.pointer (some ⟨b,0,none⟩),.I ref] w fun u w'=>(∃gw fS aQ eZ,u = .agg ((o.bT m p k).enc (.slice gw (o.bT m p k).guard.length fS) (.slice aQ (o.bT m p k).bQ.length eZ)).toArray/\o.eS w (.slice gw (o.bT m p k).guard.length fS) (o.bT m p k).guard/\o.lX w (.slice aQ (o.bT m p k).bQ.length eZ) (o.bT m p k).bQ)/\Ext w w':=by
 obtain⟨zs,ao,h⟩:=h;obtain⟨eK,d0,dM,d1,et,d2,eB,d3,eL,d4,b6,bx,bR,c1,bX,c2,bZ,bu,ca,bC,cn,ci,fA,gp,rfl,_,_,_,_,_,_,_,_,_,_,ab,aZ,bH⟩:=h.form;have ar:=bF.at_.U;have au:=bF.at_.au;have nd:=bF.at_.hk;have oB:=bF.at_.ip;obtain⟨r,rfl⟩:=QA bF.aR;have aP:r<(o.refs m).length:=bF.U;have gu:(o.refs m)[r].inst=(q:Int):=bF.at_.pk;have pd:(o.refs m)[r].cmd=(k:Int):=bF.at_.sC;obtain⟨jG,rfl⟩:=bH.addr;obtain⟨ij,rfl⟩:=aZ.addr;obtain⟨a3,rfl⟩:=ab.addr;obtain⟨mc,b2,dV,dP,e7,fy⟩:=ab.at p au;obtain⟨CB,BA,rfl,Cs⟩:=fy.form;obtain⟨ac,rfl⟩:=fy.addr;obtain⟨eU,fq,dH,gF,h6,gG⟩:=fy.at k nd;obtain⟨gw,fS,rfl,_⟩:=h6.form;obtain⟨sy,r6,rfl,_⟩:=gG.form;unfold o.dJ.enc at dP;unfold o.ea.enc at gF;refine br E.h ?_;refine J ?_;intro w1 bS dm ai av;replace ao:=ai.obj ao;have Oh:=bH.ext Flat.ext ai;refine J ?_;intro aD cC ff aj bp;have qm:(o.refs m)[r].enc=[.I q,.I k]:=by unfold o.Ref.enc;rw[gu,pd]
 rw[qm] at bp;have z4:=cA av;replace av:=aj.obj av;replace ao:=aj.obj ao;have aJ:=ai.trans aj;have zK:=aZ.ext Flat.ext aJ;have Cj:=dP.ext aJ;have EI:=gF.ext aJ;clear Oh;refine J ?_;intro aN ah;replace av:=ah.obj av;replace bp:=ah.obj bp;replace ao:=ah.obj ao;replace zK:=zK.ext Flat.ext ah;replace Cj:=Cj.ext ah;replace EI:=EI.ext ah;refine J ?_;refine K_ p (by rw[oB]) au ?_;refine J ?_;intro aU dE b9;refine J ?_;have km:=o.xX au nd;exact⟨⟨gw,fS,sy,r6,by rw[km];rfl,by rw[km];exact h6,by rw[km];exact gG⟩,dE.ext (aJ.trans ah) AK⟩
theorem NQ(b:Nat)(m:o.Model)(c:Nat)(w:A_)(h:pC w b m)(aW:o.eX m)(an:c<m.aw.length) :
  DD F.bJ #[.pointer (some ⟨b,0,none⟩),.I c] w fun u w'=>u = .tuple #[.I (o.cm m c),.I (o.cm m c+(1+o.gE m c):Nat)]/\Ext w w':=by
 obtain⟨zs,ao,h⟩:=h;obtain⟨eK,d0,dM,d1,et,d2,eB,d3,eL,d4,b6,bx,bR,c1,bX,c2,bZ,bu,ca,bC,cn,ci,fA,gp,rfl,_,_,en,dU,du,eW,fQ,af,h1,I,ab,aZ,bH⟩:=h.form;obtain⟨kl,e0⟩:=o.s8 an;have iu:=(aW.chan _ (GR an)).cap;have eU:=o.pJ an;have wM:=o.nA an;have kA:o.dN m<=64:=o.jd aW;obtain⟨db,rfl⟩:=dU.addr;obtain⟨pG,rfl⟩:=I.addr;have ej:=(I.at c an).cells;refine br E.bJ ?_;refine J ?_;intro w1 ai;refine J ?_;refine⟨?_,ai⟩;rw[e0,show(((o.cm m c+(1+o.gE m c):Nat)):Int)=(o.cm m c:Int)+1+m.aw[c].cap from AK]
end Go.Proofs.R
end
section
namespace o
theorem amt(m:Model):(layout m).aw.length=m.aw.length:=by simp[layout,As,dK,ud]
end o
namespace Go.Proofs.R
open Go Go.RowKit ba
theorem y8.ext{w w':A_}{cs:C_ B_}{l:C_ Int}(he:Ext w w')(h:y8 w cs l):y8 w' cs l:=let ⟨v,h1,I⟩:=h; ⟨v,h1,I.ext Flat.ext he⟩
theorem aho(cy c9 q p:Nat)(v:B_)(m:o.Model)(s:C_ Int)(w:A_)(bU:w.heap[cy]? = some (.cells #[.pointer (some ⟨c9,0,none⟩),.I q,v] T.a3))(eD:pC w c9 m)(gr:(o.check m).cN=0)(ak:dw w v s)(ay:o.Fits m s)(hIn:o.fY m q p) :
  DD F.IG #[.pointer (some ⟨cy,0,none⟩)] w fun u w'=>(∃es,u = .agg es.toArray/\Mm w' es (o.cR m s q))/\Ext w w':=by
 obtain⟨zs,ao,iq⟩:=eD;obtain⟨eK,d0,dM,d1,et,d2,eB,d3,eL,d4,b6,bx,bR,c1,bX,c2,bZ,bu,ca,bC,cn,ci,fA,gp,rfl,_,_,en,dU,du,_,_,af,h1,I,ab,aZ,bH⟩:=iq.form;obtain⟨eF,fB,rfl,fm⟩:=ak.form;have aW:=o.j3 gr;have hlen:=ay.len;have kA:o.dN m<=64:=o.jd aW;have gM:=aW.gM;have atU:(o.layout m).aw.length=m.aw.length:=o.amt m;have jX:(o.insts m).length<=30:=by have:=o.tH m;have:=aW.procs;omega
 clear iq bH;refine br E.IG ?_;refine J ?_;intro w1 bS dm ai av;refine J ?_;intro aD fv aiS aj dX;have avT:=cA av;have Sq:=cA dX;have z12:=aj.size;have El:∀{W},Mod (fun i=>i=fv) aD W->Ext w W:=fun h=>ai.trans (h.ext aj fun i U e=>AK);have Xs:∀{W},Mod (fun i=>i=fv) aD W->W.heap[bS]? = _:=fun h=>(h.ext aj fun i U e=>AK).obj av;have JZ:∀{W},Ext w W->W.heap[cy]? = _:=fun e=>e.obj bU;have Co:∀{W},Ext w W->W.heap[c9]? = _:=fun e=>e.obj ao;have aJ:=ai.trans aj;replace bU:=aJ.obj bU;replace ao:=aJ.obj ao;clear av;refine J ?_;refine L_ 24 m.vars.length [0,2,3,22,23] (fun _:gA=>[]) (none,0,0) (fun k v W=>(Mod (fun i=>i=fv) aD W/\W.heap[fv]? = some (.cells #[.slice v.1 v.2.1 v.2.2,.slice none 0 0,.slice none 0 0,.slice none 0 0,.I 0] T.v))/\∃cq:C_ (fj 1),cq.length=k/\pw T.b 1 aD.heap.size W (.slice v.1 v.2.1 v.2.2) cq/\∀i (h1:i<cq.length) (I:i<(o.cR m s q).vars.length),y8 w cq[i].1 (o.cR m s q).vars[i]) bc bc ⟨⟨Mod.refl _ _,dX⟩,[],rfl,aS.nil _ _ _ _ _,fun i h=>absurd h (K8 _)⟩ ?_;clear dX bU ao;rintro k v S bz hk ⟨⟨jZ,dX⟩,cq,lx,dn,Ek⟩;have iE:=El jZ;have bU:=JZ iE;have ao:=Co iE;refine J ?_;apply I_<;>intro g1
 .have cI:k<m.vars.length:=AK
  obtain⟨a,rfl⟩:=h1.addr;have dY:=o.r7 m.vars[k] m.scalars;have nL:=o.rQ cI;have eU:=o.mZ m;obtain⟨eV,hP⟩:=o.xr cI;have ej:=((h1.at k cI).cells).ext iE;refine J ?_;intro wn r4 yf fC ajp;refine J ?_;intro bK dL kk;have bq:Ext bz bK:=dL.ext fC yf;replace kk:bK.heap[r4]? = some (.cells m.vars[k].enc.toArray T.n):=kk;replace bU:=bq.obj bU;replace ao:=bq.obj ao;replace dX:=bq.obj dX;have ec:=dn.ext bq;have gR:=iE.trans bq;have iv:Mod (fun i=>i=fv) aD bK:=jZ.trans bq.mod;clear dL fC ajp ej dn;obtain⟨a0,rfl⟩:=en.addr;have Lo:=en.ext Flat.ext gR;refine J ?_;intro c4 bG;replace dX:=bG.obj dX;replace bU:=bG.obj bU;replace ao:=bG.obj ao;replace kk:=bG.obj kk;have hB:=ec.ext bG;have iF:=gR.trans bG;have iZ:Mod (fun i=>i=fv) aD c4:=iv.trans bG.mod;have Cm:=ak.ext Flat.ext iF;clear Lo ec;refine J ?_;refine J_ (BC m.vars[k] _ m.scalars c4 (af.ext iF)) ?_;rintro _ c6 ⟨rfl,b5⟩;refine⟨b5,?_⟩;refine J ?_;refine _Y (k:=.i64) (k':=.i64) (o.hn m k) (o.hn m k+(o.cells m.vars[k] m.scalars).toNat) ak (by simp[de,bN,hP]) (by simp[de,bN,hP];omega) AK AK fun ae c au=>?_;rw[show o.hn m k+(o.cells m.vars[k] m.scalars).toNat - o.hn m k=(o.cells m.vars[k] m.scalars).toNat from AK] at au ⊢;have wR:=o.RR (s:=s) (inst:=q) cI;refine J ?_;intro gy o0 zP e6 iW;refine⟨b5.trans e6,?_⟩;have Me:=b5.size;have avJ:=e6.size;have ND:Ext c4 gy:=b5.trans e6;have oE:=hB.ext ND;have z58:=iZ.size;refine U_ (enc:=kf) (y:=(⟨[.slice ae (o.cells m.vars[k] m.scalars).toNat c],rfl,by simp[Value.oneCell']⟩:fj 1)) oE iW rfl kg tj AK (by unfold maxLen;omega) AK fun aQ n kN ji aP ym=>?_;have X7:=oE.box ym (ND.obj dX) BN;have rr:=(iZ.trans ND.mod).own ym fun i U=>(oE.lt i U).1;clear dX oE hB iW kk bU ao;refine J ?_;intro mR kq jK;refine J ?_;refine⟨cI,aL,(aQ,n,kN),trivial,⟨rr.trans (kq.mod rfl),jK⟩,_,by simp[lx],aP.wr kq Sq,fun i h1 I=>?_⟩;by_cases U:i<cq.length
  .rw[AI5 U];exact Ek i U I
  .have e:i=cq.length:=by simp at h1;omega
   subst e;rw[AI6 (GA _)];obtain⟨_,alq⟩:=List.getElem?_eq_some_iff.1 wR;subst lx;rw[alq];exact⟨.slice ae _ c,Bs,au⟩
 have l8:m.vars.length=k:=AK
 subst l8;obtain⟨dH,nV,eZ⟩:=v;have avD:=cA dX;have z26:=jZ.size;have nb:∀{W},Mod (fun i=>i<aD.heap.size) bz W->Ext w W->xI W (.slice dH nV eZ) (o.cR m s q).vars:=fun {W} h he =>
  bn.Gd (by rw[lx,o.LF]) (aS.jD kg (aS.mod dn h fun i U a=>by have:=(dn.lt i U).1;omega)) fun i h1 I=>(Ek i h1 I).ext he
 clear dn Ek lx;have XJ:∀{W},Mod (fun i=>i=fv) bz W->Mod (fun i=>i=fv) aD W:=fun h=>jZ.trans h;refine J ?_;clear bU ao;refine L_ 73 m.aw.length [0,2,3,71,72] (fun _:gA=>[]) (none,0,0) (fun k v W=>(Mod (fun i=>i=fv) bz W/\W.heap[fv]? = some (.cells #[.slice dH nV eZ,.slice v.1 v.2.1 v.2.2,.slice none 0 0,.slice none 0 0,.I 0] T.v))/\aS cL T.a 1 bz.heap.size W (.slice v.1 v.2.1 v.2.2) (((o.cR m s q).lens).take k)) bc bc ⟨⟨Mod.refl _ _,dX⟩,by simpa using aS.nil _ _ _ _ _⟩ ?_;clear dX;rintro k v S bK hk ⟨⟨iv,dX⟩,ec⟩;have gR:=El (XJ iv);have bU:=JZ gR;have ao:=Co gR;refine J ?_;apply I_<;>intro g1
 .have cI:k<m.aw.length:=AK
  have nL:=o.vR cI;have eU:=o.mZ m;obtain⟨eV,e0⟩:=o.s8 cI;obtain⟨db,rfl⟩:=dU.addr;obtain⟨aem,rfl⟩:=ak.addr;have ko:=ak.ext Flat.ext gR;have Lp:=dU.ext Flat.ext gR;refine J ?_;intro c4 bG;replace dX:=bG.obj dX;replace bU:=bG.obj bU;replace ao:=bG.obj ao;have hB:=ec.ext bG;have iZ:Mod (fun i=>i=fv) bz c4:=iv.trans bG.mod;have Cm:=ko.ext Flat.ext bG;clear ko ec Lp;refine J ?_;refine K_ (o.cm m k) (by rw[e0]) AK ?_;refine J ?_;intro c6 ik l6 b5 dD;refine⟨b5,?_⟩;have fx:o.cm m k<s.length:=AK
  have wR:=o.acF (inst:=q) cI fx;have aj9:(((o.cR m s q).lens).take k).length<=12:=by rw[K9,o.LD];omega
  have gU:=hB.ext b5;have Sm:=iZ.size;have Me:=b5.size;refine U_ (y:=s[o.cm m k]) gU dD rfl (fun _=>rfl) l3 AK (by unfold maxLen;omega) AK fun aQ n c eO pW o7=>?_;have ajh:=gU.box o7 (b5.obj dX) BN;have sl:=(iZ.trans b5.mod).own o7 fun i U=>(gU.lt i U).1;clear dX gU hB dD bU ao;refine J ?_;intro gy iz iW;refine J ?_;refine⟨cI,aL,(aQ,n,c),trivial,⟨sl.trans (iz.mod rfl),iW⟩,?_⟩;rw[AJ4,wR];exact pW.mod (iz.mod (A:=fun i=>i=fv) rfl) fun i U e=>by have:=(pW.lt i U).1;omega
 have rp:m.aw.length=k:=AK
 rw[LJ (by rw[o.LD];omega)] at ec;have Ep:ey bz (fun w=>dw w (.slice v.1 v.2.1 v.2.2) (o.cR m s q).lens) bK:=aS.new (fun _=>rfl) ec;obtain⟨lV,mf,pK⟩:=v;have avF:=cA dX;have z67:=iv.size;have aiw:∀{W},Mod (fun i=>i=fv) bK W->Mod (fun i=>i=fv) aD W:=fun h=>XJ (iv.trans h);clear ec;refine J ?_;clear bU ao;refine L_ 99 m.procs.length [0,2,3,97,98] (fun _:gA=>[]) (none,0,0) (fun k v W=>(Mod (fun i=>i=fv) bK W/\W.heap[fv]? = some (.cells #[.slice dH nV eZ,.slice lV mf pK,.slice none 0 0,.slice v.1 v.2.1 v.2.2,.I 0] T.v))/\∃bs:C_ Nat,bs.length=k/\n1 m bK.heap.size bs (fun p=>o.kz m s p (m.procs[p]?.map (·.cp) |>.getD 0) 0) (.slice v.1 v.2.1 v.2.2) W) bc bc ⟨⟨Mod.refl _ _,dX⟩,[],rfl,⟨aS.nil _ _ _ _ _,(fun b h=>nomatch h),List.nodup_nil,(fun p h=>nomatch h)⟩⟩ ?_;clear dX;rintro k v S c4 hk ⟨⟨iZ,dX⟩,bs,ED,wj⟩;have iF:=El (aiw iZ);have bU:=JZ iF;have ao:=Co iF;refine J ?_;apply I_<;>intro g1
 .have cI:k<m.procs.length:=AK
  obtain⟨a,rfl⟩:=ab.addr;obtain⟨mc,b2,dV,dP,e7,fy⟩:=ab.at k cI;obtain⟨aa1,We,rfl,aaC⟩:=e7.form;obtain⟨aaW,VR,rfl,aap⟩:=fy.form;have dh:=(aW.proc _ (GR cI)).cp;replace dP:=dP.ext iF;refine J ?_;intro c6 s6 BZ b5 ox;replace dX:=b5.obj dX;have x9:=wj.ext b5;have ng:Mod (fun i=>i=fv) bK c6:=iZ.trans b5.mod;clear dP wj bU ao;refine J ?_;intro eO cr;replace dX:=cr.obj dX;replace ox:=cr.obj ox;have BS:=x9.ext cr;have sl:Mod (fun i=>i=fv) bK eO:=ng.trans cr.mod;refine J ?_;refine _y m.procs[k].cp.toNat AK AK ?_;intro gy o0 zP e6 iW;refine⟨e6,?_⟩;refine J ?_;intro ji Bt tq fb iX;refine⟨e6.trans fb,?_⟩;have q7:=e6.trans fb;have Ej:=BS.ext q7;have ajV:=o.yj (m:=m) (bs:=bs) AK;have as6:=aW.procs;have avG:=sl.size;have avA:=q7.size;refine U_ (y:=(o0,m.procs[k].cp.toNat)) Ej.row iX rfl (fun _=>rfl) ags AK (by unfold maxLen;omega) AK fun aQ n c mR JI O7=>?_;have atA:=Ej.row.box O7 (q7.obj dX) BN;have tw:=(sl.trans q7.mod).own O7 fun i U=>(Ej.row.lt i U).1;have aif:n1 m bK.heap.size (bs++[o0]) _ (.slice aQ n c) mR:=Ej.snoc AK (by subst ED;exact JI) O7 AK (fun p au e=>by have:=cA (BS.cx p au);omega) (by
   subst ED;rw[o.Vw];simp only[List.getElem?_eq_getElem cI,Option.map_some,Option.getD_some];exact fb.obj iW)
  clear dX Ej BS x9 iX;refine J ?_;intro vn yu ox;refine J ?_;exact⟨cI,aL,(aQ,n,c),trivial,⟨tw.trans (yu.mod rfl),ox⟩,bs++[o0],by simp[ED],aif.mod (yu.mod (A:=fun i=>i=fv) rfl) fun i e=>AK⟩
 have uQ:m.procs.length=k:=AK
 subst uQ;obtain⟨L0,QO,ta⟩:=v;have avH:=cA dX;have z78:=iZ.size;have wk:∀{W},Mod (fun i=>i∈bs) c4 W->Ext w W:=fun h=>h.ext iF fun i U e=>by have:=wj.low i e;have:=ai.size;omega
 have aik:¬fv∈bs:=fun h=>by have:=wj.low _ h;omega
 have YN:∀{W},Mod (fun i=>i∈bs) c4 W->W.heap[fv]? = _:=fun h=>h.obj aik dX;refine J ?_;refine L_ 120 (o.insts m).length [0,2,3,118,119] (fun _:Unit=>[]) () (fun k _ W=>Mod (fun i=>i∈bs) c4 W/\n1 m bK.heap.size bs (fun p=>o.kz m s p (m.procs[p]?.map (·.cp) |>.getD 0) k) (.slice L0 QO ta) W) bc bc ⟨Mod.refl _ _,wj⟩ ?_;clear wj dX bU ao;rintro k _ S c6 hk ⟨ng,x9⟩;have gk:=wk ng;have bU:=JZ gk;have ao:=Co gk;have dX:=YN ng;refine J ?_;apply I_<;>intro g1
 .have cI:k<(o.insts m).length:=AK
  have IZ:=aZ.ext Flat.ext gk;obtain⟨ij,rfl⟩:=aZ.addr;have nj:=o.rC _ (GR cI);obtain⟨e3,ar,Af,qo⟩:=o.Am nj;have Ca:(o.insts m)[k]?.map (·.proc)=some (e3:Int):=by rw[List.getElem?_eq_getElem cI,AG3,Af]
  obtain⟨d,Fk,ajC⟩:=ay.loc cI ar qo;obtain⟨kp,Fl⟩:=List.getElem?_eq_some_iff.1 Fk;obtain⟨eV,hP⟩:=o.rB cI;obtain⟨pH,rfl⟩:=ak.addr;obtain⟨a2,rfl⟩:=du.addr;have dh:=(aW.proc _ (GR ar)).cp;refine J ?_;intro wn MT XW fC ajq;refine J ?_;intro eO pe o4;have cr:Ext c6 eO:=pe.ext fC XW;replace o4:eO.heap[MT]? = some (.cells #[.I e3,.I (o.insts m)[k].elem] T.e):=by rw[<-Af];exact o4
  replace dX:=cr.obj dX;replace bU:=cr.obj bU;replace ao:=cr.obj ao;have BS:=x9.ext cr;have sl:Mod (fun i=>i∈bs) c4 eO:=ng.trans cr.mod;clear pe fC ajq IZ x9;refine J ?_;intro gy e6;replace dX:=e6.obj dX;replace ao:=e6.obj ao;replace bU:=e6.obj bU;replace o4:=e6.obj o4;have N8:=BS.ext e6;have Ch:Mod (fun i=>i∈bs) c4 gy:=sl.trans e6.mod;have Zl:=ak.ext Flat.ext ((gk.trans cr).trans e6);have avd:=du.ext Flat.ext ((gk.trans cr).trans e6);clear BS;have ajV:=o.yj (m:=m) (bs:=bs) AK;have ma:=aS.jD (enc:=o.zB) (sz:=1) (fun _=>rfl) N8.row;obtain⟨ny,rfl⟩:∃a,L0=some a:=ma.addr;have lO:=ma.len.1;obtain⟨atI,YD⟩:=List.getElem?_eq_some_iff.1 (o.ER (m:=m) (bs:=bs) (k:=e3) AK ar);have hK:d<m.procs[e3].cp.toNat:=AK
  have Xy:(o.qv m bs)[e3].1=bs[e3]:=by rw[YD]
  have Ob:(o.qv m bs)[e3].2=m.procs[e3].cp.toNat:=by rw[YD]
  have hblk:=N8.cx e3 AK;simp only[List.getElem?_eq_getElem ar,Option.map_some,Option.getD_some] at hblk;rw[<-Xy] at hblk;have ix:=o.vK m s e3 m.procs[e3].cp k;have PG:=o.DH (m:=m) (s:=s) (p:=e3) (k:=k) hK;have dY:=o.MR m s e3 d k;have at1:dw gy (.slice (some ⟨(o.qv m bs)[e3].1,0,none⟩) (o.qv m bs)[e3].2 (o.qv m bs)[e3].2) (o.kz m s e3 m.procs[e3].cp k):=QS hblk (by rw[Ob,ix]) (by rw[ix];unfold maxLen;omega);have EM:d<(o.kz m s e3 m.procs[e3].cp k).length:=AK
  obtain⟨_,PH⟩:=List.getElem?_eq_some_iff.1 PG;refine J ?_;refine K_ (o.dG m k) (by rw[hP]) (by rw[hlen];omega) ?_;refine J ?_;refine K_ d Fl (by rw[Ob];exact hK) ?_;refine J ?_;refine K_ d Fl (by rw[Ob];exact hK) ?_;refine J ?_;refine _E hblk (by rw[List.size_toArray,ZR];omega) rfl fun ji lP iX=>?_;rw[ZS (AG5 _),PH,<-o.Vv Ca Fk hK] at iX;rw[Xy] at lP iX;refine J ?_;refine⟨cI,aL,(),trivial,Ch.trans (lP.mod (GR _)),N8.step (q:=e3) AK lP (by simp only[List.getElem?_eq_getElem ar,Option.map_some,Option.getD_some];exact iX) fun p au JK=>?_⟩;have Za:p<m.procs.length:=AK
  simp only[List.getElem?_eq_getElem Za,Option.map_some,Option.getD_some];exact o.Vu (by rw[Ca];intro e;have:=Option.some.inj e;omega)
 have lL:(o.insts m).length=k:=AK
 subst lL;have YZ:Mod (fun i=>i=fv) bK c6:=iZ.comp ng (fun i _ e=>e) fun i U e=>by have:=x9.low i e;omega
 have Pp:Mod (fun i=>i=fv) bz c6:=iv.trans YZ;have akj:Mod (fun i=>i=fv) aD c6:=jZ.trans Pp;have qq:=Xs akj;have aix:ey bz (fun w=>dw w (.slice lV mf pK) (o.cR m s q).lens) c6:=Ep.move YZ (fun i _ e=>AK) fun i _ e=>e;have dg:∀{W},Mod (fun i=>i<bz.heap.size) c6 W->xI W (.slice L0 QO ta) (o.cR m s q).at_:=fun {W} eD=>(x9.mod eD fun i e=>AK).ant ED (o.RQ m s q) (fun p au=>by
   simp only[List.getElem?_eq_getElem au,Option.map_some,Option.getD_some];exact⟨o.vK _ _ _ _ _,by have:=(aW.proc _ (GR au)).cp;omega⟩) fun p au=>by
   simp only[List.getElem?_eq_getElem au,Option.map_some,Option.getD_some];exact o.acE au
 have z9:=Pp.size;clear Ep x9 Xs YN;have ar:=hIn.ar;have nL:=o.Qi ar;obtain⟨eV,hP⟩:=o.rB ar;obtain⟨a2,rfl⟩:=du.addr;have abz:=du.ext Flat.ext gk;obtain⟨ij,rfl⟩:=aZ.addr;have IZ:=aZ.ext Flat.ext gk;have nj:=o.rC _ (GR ar);obtain⟨gB,au,h7,qo⟩:=o.Am nj;have Je:(o.me m (o.insts m)[q]).length=1+m.procs[gB].vars.length:=by rw[qo,o.AG]
 obtain⟨a,rfl⟩:=ab.addr;obtain⟨mc,b2,dV,dP,e7,fy⟩:=ab.at gB au;obtain⟨aa1,We,rfl,aaC⟩:=e7.form;obtain⟨aaW,VR,rfl,aap⟩:=fy.form;refine J ?_;intro eO cr;replace dX:=cr.obj dX;replace ao:=cr.obj ao;replace bU:=cr.obj bU;replace qq:=cr.obj qq;have ao2:=abz.ext Flat.ext cr;have ain:=IZ.ext Flat.ext cr;clear abz IZ;refine J ?_;intro gy Vz aiQ e6 iW;refine⟨e6,?_⟩;refine J ?_;intro ji lP iX;have fb:Ext eO ji:=lP.ext e6 aiQ;replace iX:ji.heap[Vz]? = some (.cells #[.I gB,.I (o.insts m)[q].elem] T.e):=by rw[<-h7];exact iX
 replace dX:=fb.obj dX;replace bU:=fb.obj bU;replace ao:=fb.obj ao;replace qq:=fb.obj qq;have rr:Mod (fun i=>i=fv) c6 ji:=cr.mod.trans fb.mod;have avK:=rr.size;have qc:Ext w ji:=gk.trans (cr.trans fb);have ao3:=du.ext Flat.ext qc;clear iW lP ain ao2;refine J ?_;intro mR hL;replace dX:=hL.obj dX;replace bU:=hL.obj bU;replace ao:=hL.obj ao;replace qq:=hL.obj qq;replace iX:=hL.obj iX;have tw:Mod (fun i=>i=fv) c6 mR:=rr.trans hL.mod;have xC:Ext w mR:=qc.trans hL;have at2:=ak.ext Flat.ext xC;clear ao3;replace dP:=dP.ext xC;unfold o.dJ.enc at dP;refine J ?_;intro vn lr;replace dX:=lr.obj dX;replace bU:=lr.obj bU;replace ao:=lr.obj ao;replace qq:=lr.obj qq;replace iX:=lr.obj iX;have JD:Mod (fun i=>i=fv) c6 vn:=tw.trans lr.mod;have y0:Ext w vn:=xC.trans lr;have at3:=ak.ext Flat.ext y0;replace dP:=dP.ext lr;refine J ?_;refine _Y (k:=.i64) (k':=.i64) (o.dG m q+1) (o.dG m q+1+m.procs[gB].vars.length) ak (by simp[de,bN,hP]) (by simp[de,bN,hP]) AK AK fun ae c Fg=>?_;rw[show o.dG m q+1+m.procs[gB].vars.length - (o.dG m q+1)=m.procs[gB].vars.length from AK] at Fg ⊢;refine J ?_;intro L2 JT zQ;have n17:Vz≠fv:=by have:=cr.size;omega
 replace iX:=JT.obj iX n17;replace qq:=JT.obj qq AK;have aki:Mod (fun i=>i=fv) c6 L2:=JD.trans (JT.mod rfl);have y1:Ext w L2:=JT.ext y0 AK;refine J ?_;intro ac6 P4 o4;have YV:Mod (fun i=>i=fv) c6 ac6:=aki.trans (P4.mod rfl);have ady:Ext w ac6:=P4.ext y1 AK;replace qq:=P4.obj qq AK;refine J ?_;intro Sc P5 atu;have Mj:Ext w Sc:=P5.ext ady AK;have Y0:Mod (fun i=>i<bz.heap.size) c6 Sc:=(YV.AW fun i e=>AK).trans (P5.mod AK);have akk:Mod (fun i=>i<aD.heap.size) bz c6:=Pp.AW fun i e=>AK
 have akl:Mod (fun i=>i<aD.heap.size) c6 Sc:=(YV.AW fun i e=>AK).trans (P5.mod AK);refine J ?_;obtain⟨ei,bB⟩:=o.GF s ar (n:=m.procs[gB].vars.length) AK;refine⟨⟨_,rfl,_,_,_,_,by rw[bB];rfl,nb (akk.trans akl) Mj,aix _ Y0,?_,dg Y0⟩,Mj⟩;rw[ei];exact Fg.ext Flat.ext Mj
structure lE(w0 w:World)(cy c9 g c q base:Nat)(m:o.Model)(s:List Int):Prop where
 hD:Ext w0 w
 low:w0.heap.size<=base
 C4:pC w0 c9 m
 box:w.heap[cy]? = some (.cells #[.pointer (some ⟨c9,0,none⟩),.int .i64 q,.slice (some ⟨g,0,none⟩) s.length c] T.a3)
 own:iS base w (.slice (some ⟨g,0,none⟩) s.length c) s
theorem lE.ext{w0 w w':A_}{cy c9 g c q base:Nat}{m:o.Model}{s:C_ Int}(he:Ext w w')(h:lE w0 w cy c9 g c q base m s):lE w0 w' cy c9 g c q base m s :=
 ⟨h.hD.trans he,h.low,h.C4,he.obj h.box,h.own.ext he⟩
theorem lE.DL{w0 w:A_}{cy c9 g c q base:Nat}{m:o.Model}{s:C_ Int}(h:lE w0 w cy c9 g c q base m s):base<=g/\g<w.heap.size:=aS.lt h.own g rfl
theorem lE.ne{w0 w:A_}{cy c9 g c q base:Nat}{m:o.Model}{s:C_ Int}(h:lE w0 w cy c9 g c q base m s):cy≠g:=fun e=>by
 obtain⟨cur,h1⟩:=aS.cx h.own g rfl;have I:=h.box;rw[e,h1] at I;injection I with I
 injection I with _ I
 revert I;decide
theorem lE.mod{w0 w w':A_}{cy c9 g c q base:Nat}{m:o.Model}{s t:C_ Int}(h:lE w0 w cy c9 g c q base m s)(hm:Mod (fun i=>i=g) w w')(aO:iS base w' (.slice (some ⟨g,0,none⟩) s.length c) t)(aC:t.length=s.length):lE w0 w' cy c9 g c q base m t :=
 ⟨hm.ext h.hD fun i U e=>by have:=h.low;have:=h.DL;omega,h.low,h.C4,by rw[aC];exact hm.obj h.ne h.box,by rw[aC];exact aO⟩
theorem lE.AE{w0 w:A_}{cy c9 g c q base:Nat}{m:o.Model}{s:C_ Int}(h:lE w0 w cy c9 g c q base m s):dw w (.slice (some ⟨g,0,none⟩) s.length c) s:=kF h.own
def ky(base g:Nat)(v:B_)(ae:H_ (C_ Int))(u:B_)(w w':A_):Prop :=
 ((∃t,ae=some t/\u = .bool true/\iS base w' v t)\/(ae=none/\u = .bool false))/\Mod (fun i=>i=g) w w'
theorem ky.before{base g:Nat}{v:B_}{ae:H_ (C_ Int)}{u:B_}{w w1 w':A_}(h:ky base g v ae u w1 w')(he:Ext w w1):ky base g v ae u w w':=⟨h.1,he.mod.trans h.2⟩
theorem ky.none{base g:Nat}{v:B_}{ae:H_ (C_ Int)}{w w':A_}(aO:ae=Option.none)(he:Ext w w'):ky base g v ae (.bool false) w w':=⟨.inr ⟨aO,rfl⟩,he.mod⟩
theorem ky.Qn{base g:Nat}{v:B_}{ae:H_ (C_ Int)}{u:B_}{w w':A_}(h:ky base g v ae u w w'):∃t:Bool,u = .bool t:=by
 rcases h.1 with ⟨_,_,e,_⟩ | ⟨_,e⟩
 .exact⟨_,e⟩
 .exact⟨_,e⟩
theorem BQ{w0:A_}(cy c9 g c q p base:Nat)(m:o.Model)(s:C_ Int)(gZ:B_)(e:C_ o.Node)(w:A_)(bU:lE w0 w cy c9 g c q base m s)(gr:(o.check m).cN=0)(ay:o.Fits m s)(hIn:o.fY m q p)(he:o.eS w gZ e) :
  DD F.aJ #[.pointer (some ⟨cy,0,none⟩),gZ] w fun u w'=>u = .tuple #[.I (o.eval e (o.cR m s q)).1,.bool (decide ((o.eval e (o.cR m s q)).2=0))]/\Ext w w':=by
 obtain⟨Q1,dk,rfl,w8⟩:=he.form;refine br E.aJ ?_;refine J ?_;refine J_ (aho cy c9 q p _ m s w bU.box (bU.C4.ext bU.hD) gr bU.AE ay hIn) ?_;rintro _ w1 ⟨⟨es,rfl,dW⟩,ai⟩;refine J ?_;refine J_ (agI _ e _ (o.cR m s q) w1 (he.ext ai) (NH dW (o.NI (o.j3 gr) ay hIn.ar))) ?_;rintro _ aD ⟨rfl,aj⟩;refine J ?_;exact⟨aL,ai.trans aj⟩
theorem Ix{w0:A_}(cy c9 g c q base:Nat)(m:o.Model)(s:C_ Int)(k:Nat)(x n:Int)(w:A_)(bU:lE w0 w cy c9 g c q base m s)(aW:o.eX m)(aC:s.length=o.dN m)(ag:x=k)(hk:k<o.dN m) :
  DD F.t #[.pointer (some ⟨cy,0,none⟩),.I x,.I n] w fun u w'=>ky base g (.slice (some ⟨g,0,none⟩) s.length c) (o.putAt m s k n) u w w':=by
 subst ag;have yd:=bU;obtain⟨hold,z7,⟨zs,ao,iq⟩,sh,fO⟩:=bU;obtain⟨eK,d0,dM,d1,et,d2,eB,d3,eL,d4,b6,bx,bR,c1,bX,c2,bZ,bu,ca,bC,cn,ci,fA,gp,rfl,_,_,en,dU,du,eW,fQ,af,h1,I,ab,aZ,bH⟩:=iq.form;replace ao:=hold.obj ao;replace eW:=eW.ext Flat.ext hold;replace fQ:=fQ.ext Flat.ext hold;obtain⟨dY,qn⟩:=o.VD hk;have f2:=o.Kb m;have f3:=o.J9 m;have lx:(o.b1 m).length=o.dN m:=rfl;have er:(o.layout m).aR[k]' AK=(o.b1 m)[k].aR:=o.Ka _ dY;have eH:(o.layout m).U[k]' AK=(o.b1 m)[k].U:=o.J8 _ dY;have kA:o.dN m<=64:=o.jd aW;obtain⟨a3,rfl⟩:=eW.addr;obtain⟨a4,rfl⟩:=fQ.addr;clear en dU du af h1 I ab aZ bH iq;refine br E.t ?_;refine J ?_;apply I_<;>intro g1
 .refine J ?_;exact ky.none (by unfold o.putAt;rw[qn,if_pos (.inl (by simp only;omega))]) (Ext.refl _)
 refine J ?_;apply I_<;>intro g2
 .refine J ?_;exact ky.none (by unfold o.putAt;rw[qn,if_pos (.inr (by simp only;omega))]) (Ext.refl _)
 refine J ?_;refine _z (k:=k) fO AK fun w1 iy pb=>?_;refine J ?_;exact⟨.inl ⟨_,by unfold o.putAt;rw[qn,if_neg (by simp only;omega)],aL,pb⟩,iy.mod rfl⟩
theorem ahL{w0:A_}(cy c9 g c q p base:Nat)(m:o.Model)(s:C_ Int)(a:o.Act)(bL b2:B_)(w:A_)(bU:lE w0 w cy c9 g c q base m s)(gr:(o.check m).cN=0)(ay:o.Fits m s)(hIn:o.fY m q p)
  (aV:o.n0 (o.inner (m.procs[p]'(hIn.au)) (o.eR m)) a)(lL:a.kind=1)(U:o.eS w bL a.index)(aG:o.eS w b2 a.value) :
  DD F.ce #[.agg (a.enc bL b2).toArray,.pointer (some ⟨cy,0,none⟩)] w fun u w'=>ky base g (.slice (some ⟨g,0,none⟩) s.length c) (o.h4 m s q a) u w w':=by
 obtain⟨cn,ci,rfl,_⟩:=U.form;obtain⟨tT,tg,rfl,_⟩:=aG.form;have aW:=o.j3 gr;obtain⟨f6,f7,f8⟩:=o.tI m;have done:o.h4 m s q a=if (o.eval a.value (o.cR m s q)).2≠0 then none else o.putAt m s (o.hn m a.to.toNat) (o.eval a.value (o.cR m s q)).1:=by
  unfold o.h4;rw[if_neg AK,if_pos lL]
 rw[done];unfold o.Act.enc;refine br E.ce ?_;refine J ?_;intro w1 bS dm ai av;replace bU:=bU.ext ai;refine J ?_;refine J_ (BQ cy c9 g c q p base m s _ a.value w1 bU gr ay hIn (aG.ext ai)) ?_;rintro _ aD ⟨rfl,aj⟩;replace bU:=bU.ext aj;replace av:=aj.obj av;obtain⟨n,o9⟩:∃n,n=(o.eval a.value (o.cR m s q)).1:=⟨_,rfl⟩;obtain⟨e,oA⟩:∃e,e=(o.eval a.value (o.cR m s q)).2:=⟨_,rfl⟩;rw[<-o9,<-oA];have aJ:=ai.trans aj;refine J ?_;intro aN ah;replace bU:=bU.ext ah;replace av:=ah.obj av;have a7:=aJ.trans ah;have yd:=bU;obtain⟨hold,z7,⟨zs,ao,iq⟩,sh,fO⟩:=bU;obtain⟨eK,d0,dM,d1,et,d2,eB,d3,eL,d4,b6,bx,bR,c1,bX,c2,bZ,bu,ca,bC,yH,xW,fA,gp,rfl,_,_,en,dU,du,eW,fQ,af,h1,I,ab,aZ,bH⟩:=iq.form;replace ao:=hold.obj ao;obtain⟨gI,b0,e1,jb⟩:=aV.set lL;have hs:a.to.toNat<m.vars.length:=(List.getElem?_eq_some_iff.1 e1).1;obtain⟨eV,hP⟩:=o.xr hs;have PX:=o.rQ hs;have eU:=o.mZ m;have dY:=o.r7 m.vars[a.to.toNat] m.scalars;have Pm:=o.ss hs;have ajl:o.cells m.vars[a.to.toNat] m.scalars=1:=by
  have Fs:m.vars[a.to.toNat]=b0:=(List.getElem?_eq_some_iff.1 e1).2;rw[Fs];unfold o.cells;rw[if_pos jb]
 obtain⟨om,rfl⟩:=en.addr;replace en:=en.ext Flat.ext hold;clear dU du eW fQ af h1 I ab aZ bH iq;refine J ?_;refine I_ (fun cE=>?_) (fun cE=>?_);rotate_left
 .refine J ?_;exact ky.none (by rw[if_pos cE]) a7
 rw[if_neg AK];refine J ?_;refine K_ a.to.toNat AK AK ?_;refine J ?_;refine J_ (Ix cy c9 g c q base m s (o.hn m a.to.toNat) _ n aN yd aW ay.len (by rw[hP]) AK) ?_;rintro u aU wm;obtain⟨t,rfl⟩:=wm.Qn;refine J ?_;exact wm.before a7
theorem ahE{w0:A_}(cy c9 g c q p base:Nat)(m:o.Model)(s:C_ Int)(a:o.Act)(bL b2:B_)(w:A_)(bU:lE w0 w cy c9 g c q base m s)(gr:(o.check m).cN=0)(ay:o.Fits m s)(hIn:o.fY m q p)
  (aV:o.n0 (o.inner (m.procs[p]'(hIn.au)) (o.eR m)) a)(lL:a.kind=3)(U:o.eS w bL a.index)(aG:o.eS w b2 a.value) :
  DD F.fS #[.agg (a.enc bL b2).toArray,.pointer (some ⟨cy,0,none⟩)] w fun u w'=>ky base g (.slice (some ⟨g,0,none⟩) s.length c) (o.h4 m s q a) u w w':=by
 obtain⟨cn,ci,rfl,_⟩:=U.form;obtain⟨tT,tg,rfl,_⟩:=aG.form;have aW:=o.j3 gr;obtain⟨f6,f7,f8⟩:=o.tI m;have done:o.h4 m s q a=if (o.eval a.value (o.cR m s q)).2≠0 then none else o.putAt m s (o.dG m q+1+a.to.toNat) (o.eval a.value (o.cR m s q)).1:=by
  unfold o.h4;rw[if_neg (show ¬a.kind=5 by omega),if_neg (show ¬a.kind=1 by omega),if_neg (show ¬a.kind=2 by omega),if_pos lL]
 rw[done];unfold o.Act.enc;refine br E.fS ?_;refine J ?_;intro w1 bS dm ai av;replace bU:=bU.ext ai;refine J ?_;refine J_ (BQ cy c9 g c q p base m s _ a.value w1 bU gr ay hIn (aG.ext ai)) ?_;rintro _ aD ⟨rfl,aj⟩;replace bU:=bU.ext aj;replace av:=aj.obj av;obtain⟨n,o9⟩:∃n,n=(o.eval a.value (o.cR m s q)).1:=⟨_,rfl⟩;obtain⟨e,oA⟩:∃e,e=(o.eval a.value (o.cR m s q)).2:=⟨_,rfl⟩;rw[<-o9,<-oA];have aJ:=ai.trans aj;refine J ?_;intro aN ah;replace bU:=bU.ext ah;replace av:=ah.obj av;have a7:=aJ.trans ah;have yd:=bU;obtain⟨hold,z7,⟨zs,ao,iq⟩,sh,fO⟩:=bU;obtain⟨eK,d0,dM,d1,et,d2,eB,d3,eL,d4,b6,bx,bR,c1,bX,c2,bZ,bu,ca,bC,yH,xW,fA,gp,rfl,_,_,en,dU,du,eW,fQ,af,h1,I,ab,aZ,bH⟩:=iq.form;replace ao:=hold.obj ao;have ar:=hIn.ar;obtain⟨gI,E9⟩:=aV.loc lL;have E8:a.to.toNat<(m.procs[p]'(hIn.au)).vars.length:=E9;obtain⟨eV,hP⟩:=o.rB ar;have wM:=hIn.room;have kA:o.dN m<=64:=o.jd aW;have hlen:=ay.len;obtain⟨om,rfl⟩:=du.addr;replace du:=du.ext Flat.ext hold;clear en dU eW fQ af h1 I ab aZ bH iq;refine J ?_;refine I_ (fun cE=>?_) (fun cE=>?_);rotate_left
 .refine J ?_;exact ky.none (by rw[if_pos cE]) a7
 rw[if_neg AK];refine J ?_;refine J_ (Ix cy c9 g c q base m s (o.dG m q+1+a.to.toNat) _ n aN yd aW ay.len (by rw[hP];omega) AK) ?_;rintro u aU wm;obtain⟨t,rfl⟩:=wm.Qn;refine J ?_;exact wm.before a7
theorem ahv{w0:A_}(cy c9 g c q p base:Nat)(m:o.Model)(s:C_ Int)(a:o.Act)(bL b2:B_)(w:A_)(bU:lE w0 w cy c9 g c q base m s)(gr:(o.check m).cN=0)(ay:o.Fits m s)(hIn:o.fY m q p)
  (aV:o.n0 (o.inner (m.procs[p]'(hIn.au)) (o.eR m)) a)(lL:a.kind=2)(U:o.eS w bL a.index)(aG:o.eS w b2 a.value) :
  DD F.DW #[.agg (a.enc bL b2).toArray,.pointer (some ⟨cy,0,none⟩)] w fun u w'=>ky base g (.slice (some ⟨g,0,none⟩) s.length c) (o.h4 m s q a) u w w':=by
 obtain⟨cn,ci,rfl,_⟩:=U.form;obtain⟨tT,tg,rfl,_⟩:=aG.form;have aW:=o.j3 gr;obtain⟨f6,f7,f8⟩:=o.tI m;have done:o.h4 m s q a=if (o.eval a.value (o.cR m s q)).2≠0 then none else o.wV m s a (o.eval a.index (o.cR m s q)) (o.eval a.value (o.cR m s q)).1:=by
  unfold o.h4;rw[if_neg (show ¬a.kind=5 by omega),if_neg (show ¬a.kind=1 by omega),if_pos lL]
 rw[done];unfold o.Act.enc;refine br E.DW ?_;refine J ?_;intro w1 bS dm ai av;replace bU:=bU.ext ai;refine J ?_;refine J_ (BQ cy c9 g c q p base m s _ a.index w1 bU gr ay hIn (U.ext ai)) ?_;rintro _ aD ⟨rfl,aj⟩;replace bU:=bU.ext aj;replace av:=aj.obj av;have aJ:=ai.trans aj;refine J ?_;refine J_ (BQ cy c9 g c q p base m s _ a.value aD bU gr ay hIn (aG.ext aJ)) ?_;rintro _ aN ⟨rfl,ah⟩;replace bU:=bU.ext ah;replace av:=ah.obj av;have a7:=aJ.trans ah;obtain⟨n,o9⟩:∃n,n=(o.eval a.value (o.cR m s q)).1:=⟨_,rfl⟩;obtain⟨e,oA⟩:∃e,e=(o.eval a.value (o.cR m s q)).2:=⟨_,rfl⟩;obtain⟨k,E1⟩:∃k,k=(o.eval a.index (o.cR m s q)).1:=⟨_,rfl⟩;obtain⟨f,EU⟩:∃f,f=(o.eval a.index (o.cR m s q)).2:=⟨_,rfl⟩;have oC:o.wV m s a (o.eval a.index (o.cR m s q)) n=if f≠0\/k<1\/(o.ph m a.to.toNat:Int)<k then none else o.putAt m s (o.hn m a.to.toNat+k.toNat - 1) n:=by unfold o.wV;rw[<-E1,<-EU]
 rw[<-o9,<-oA,oC,<-E1,<-EU];clear oC done;have yd:=bU;obtain⟨hold,z7,⟨zs,ao,iq⟩,sh,fO⟩:=bU;obtain⟨eK,d0,dM,d1,et,d2,eB,d3,eL,d4,b6,bx,bR,c1,bX,c2,bZ,bu,ca,bC,yH,xW,fA,gp,rfl,_,_,en,dU,du,eW,fQ,af,h1,I,ab,aZ,bH⟩:=iq.form;replace ao:=hold.obj ao;obtain⟨gI,Fq,Pe⟩:=aV.item lL;have hs:a.to.toNat<m.vars.length:=Fq;obtain⟨eV,hP⟩:=o.xr hs;have PX:=o.rQ hs;have eU:=o.mZ m;have Pm:=o.ss hs;have dY:=o.r7 m.vars[a.to.toNat] m.scalars;have kA:o.dN m<=64:=o.jd aW;have hlen:=ay.len;obtain⟨om,rfl⟩:=en.addr;obtain⟨pH,rfl⟩:=h1.addr;replace en:=en.ext Flat.ext hold;replace af:=af.ext hold;have ej:=((h1.at a.to.toNat hs).cells).ext hold;clear dU du eW fQ h1 I ab aZ bH iq;refine J ?_;refine I_ (fun cE=>?_) (fun cE=>?_);rotate_left
 .refine J ?_;intro aU ax;refine ky.none ?_ (a7.trans ax);by_cases h:e≠0
  .rw[if_pos h]
  .rw[if_neg h,if_pos (.inl cE)]
 refine J ?_;refine I_ (fun cW=>?_) (fun cW=>?_);rotate_left
 .refine J ?_;intro aU ax;exact ky.none (by rw[if_pos cW]) (a7.trans ax)
 rw[if_neg (show ¬e≠0 by omega)];refine J ?_;refine I_ (fun fz=>?_) (fun fz=>?_)
 .refine J ?_;intro aU ax;exact ky.none (by rw[if_pos (.inr (.inl fz))]) (a7.trans ax)
 refine J ?_;refine K_ a.to.toNat AK AK ?_;refine J ?_;refine P_ (.I (o.cells m.vars[a.to.toNat] m.scalars)) (fun w' e'=>BC m.vars[a.to.toNat] _ m.scalars w' (af.ext e')) ?_;refine J ?_;intro aU ax;refine I_ (fun iA=>?_) (fun iA=>?_)
 .refine J ?_;exact ky.none (by rw[if_pos (.inr (.inr AK))]) (a7.trans ax)
 rw[if_neg AK];have zN:=yd.ext ax;replace av:=ax.obj av;replace ao:=ax.obj ao;replace sh:=ax.obj sh;have abv:=en.ext Flat.ext ax;clear en af ej;refine J ?_;intro bt aI;replace zN:=zN.ext aI;replace av:=aI.obj av;replace ao:=aI.obj ao;replace sh:=aI.obj sh;replace abv:=abv.ext Flat.ext aI;refine J ?_;refine K_ a.to.toNat AK AK ?_;refine J ?_;refine J_ (Ix cy c9 g c q base m s (o.hn m a.to.toNat+k.toNat - 1) _ n bt zN aW ay.len (by rw[hP];omega) AK) ?_;rintro u bz uL;obtain⟨t,rfl⟩:=uL.Qn;refine J ?_;exact uL.before ((a7.trans ax).trans aI)
end Go.Proofs.R
end
section
namespace o
theorem Na(m:Model)(s:C_ Int)(c:Nat):(s.drop (cm m c)).take (cm m c+(1+gE m c) - cm m c)=chanOf m s c:=by
 unfold chanOf;rw[show cm m c+(1+gE m c) - cm m c=1+gE m c from AK]
end o
namespace Go.Proofs.R
open Go Go.RowKit ba
theorem ahG{w0:A_}(cy c9 g c q p base:Nat)(m:o.Model)(s:C_ Int)(a:o.Act)(bL b2:B_)(w:A_)(bU:lE w0 w cy c9 g c q base m s)(gr:(o.check m).cN=0)(ay:o.Fits m s)(hIn:o.fY m q p)
  (aV:o.n0 (o.inner (m.procs[p]'(hIn.au)) (o.eR m)) a)(lL:a.kind=5)(U:o.eS w bL a.index)(aG:o.eS w b2 a.value) :
  DD F.DY #[.agg (a.enc bL b2).toArray,.pointer (some ⟨cy,0,none⟩)] w fun u w'=>ky base g (.slice (some ⟨g,0,none⟩) s.length c) (o.h4 m s q a) u w w':=by
 obtain⟨cn,ci,rfl,_⟩:=U.form;obtain⟨tT,tg,rfl,_⟩:=aG.form;have aW:=o.j3 gr;obtain⟨f6,f7,f8⟩:=o.tI m;have done:o.h4 m s q a=o.yM m s q a:=by unfold o.h4;rw[if_pos lL]
 rw[done];unfold o.yM;clear done;obtain⟨gI,e1⟩:=aV.chan (.inr lL);have fl:a.to.toNat<m.aw.length:=e1;have hq:a.to=(a.to.toNat:Nat):=AK
 have dY:(o.chanOf m s a.to.toNat).length=1+o.gE m a.to.toNat:=o.uz (by rw[ay.len];exact o.nA fl);have Zk:=o.nA fl;obtain⟨e2,E9⟩:=aV.recv lL;have E8:a.loc.toNat<(m.procs[p]'(hIn.au)).vars.length:=E9;have ak6:=hIn.room;have hlen:=ay.len;have kA:o.dN m<=64:=o.jd aW;have ar:=hIn.ar;obtain⟨eV,hP⟩:=o.rB ar;unfold o.Act.enc;rw[hq,AG9];have B8:=bU.DL;refine br E.DY ?_;refine J ?_;intro w1 bS dm ai av;replace bU:=bU.ext ai;have pS:=bU.box;refine J ?_;refine P_ (.tuple #[.I (o.cm m a.to.toNat),.I (o.cm m a.to.toNat+(1+o.gE m a.to.toNat):Nat)]) (fun w' e=>NQ c9 m a.to.toNat w' (bU.C4.ext (bU.hD.trans e)) aW fl) ?_;refine J ?_;intro aD aj;replace bU:=bU.ext aj;replace av:=aj.obj av;replace pS:=bU.box;have aJ:=ai.trans aj;refine J ?_;refine _c (k:=.i64) (k':=.i64) (o.cm m a.to.toNat) (o.cm m a.to.toNat+(1+o.gE m a.to.toNat)) bU.AE (by simp[de,bN]) (by simp[de,bN]) AK AK fun bR c1 _ yq=>?_;rw[o.Na] at yq;refine J ?_;refine J_ (afp _ _ aD yq AK) ?_;rintro _ aN ⟨aiK,ah⟩;replace bU:=bU.ext ah;replace av:=ah.obj av;replace pS:=bU.box;have a7:=aJ.trans ah;have aK:=bU.DL;rcases aiK with ⟨fD,rfl⟩ | ⟨r,x,ae,gp,ja,rfl,wJ⟩
 .rw[fD];refine J ?_;refine _c (k:=.i64) (k':=.i64) (o.cm m a.to.toNat) (o.cm m a.to.toNat+(1+o.gE m a.to.toNat)) bU.AE (by simp[de,bN]) (by simp[de,bN]) AK AK fun bX c2 hJ _=>?_;refine J ?_;refine _d (p:=o.cm m a.to.toNat) (xs:=[]) bU.own bn.nil (by simp only[de,bN];rfl) (by simp only[de,bN];rfl) hJ AK Ct Ct fun u aU dE dO=>?_;refine J ?_;intro bt aI;refine J ?_;have hm:Mod (fun i=>i=g) w bt:=((Ext.mod (A:=fun i=>i=g) a7).trans (dE.mod rfl)).trans aI.mod;exact⟨.inr ⟨rfl,aL⟩,hm⟩
 .rw[ja];have ix:=o.LN ja;rw[dY] at ix;refine J ?_;refine _c (k:=.i64) (k':=.i64) (o.cm m a.to.toNat) (o.cm m a.to.toNat+(1+o.gE m a.to.toNat)) bU.AE (by simp[de,bN]) (by simp[de,bN]) AK AK fun bX c2 hJ _=>?_;refine J ?_;refine _d (p:=o.cm m a.to.toNat) bU.own (kF wJ) (by simp only[de,bN];rfl) (by simp only[de,bN];rfl) hJ AK Ct Ct fun u aU dE dO=>?_;rw[LJ AK] at dO;have jX:(o.hR s (o.cm m a.to.toNat) r).length=s.length:=o.FA AK;replace bU:=bU.mod (dE.mod rfl) dO jX;have bp:=dE.obj av AK;have jY:Mod (fun i=>i=g) w aU:=a7.mod.trans (dE.mod rfl);clear pS yq av;refine J ?_;intro bt aI;replace bU:=bU.ext aI;replace bp:=aI.obj bp;have yd:=bU;obtain⟨hold,z7,⟨zs,ao,iq⟩,sh,fO⟩:=bU;obtain⟨eK,d0,dM,d1,et,d2,eB,d3,eL,d4,b6,bx,bR,c1,anz,aeR,bZ,bu,ca,bC,yH,xW,fA,ql,rfl,_,_,en,dU,du,eW,fQ,af,h1,I,ab,aZ,bH⟩:=iq.form;replace ao:=hold.obj ao;obtain⟨om,rfl⟩:=du.addr;replace du:=du.ext Flat.ext hold;rw[jX] at sh;clear en dU eW fQ af h1 I ab aZ bH iq;refine J ?_;rw[hP];refine J ?_;refine J_ (Ix cy c9 g c q base m _ (o.dG m q+1+a.loc.toNat) _ x bt yd aW AK AK AK) ?_;rintro u bz ⟨uL,jZ⟩;rw[jX] at uL;have hm:Mod (fun i=>i=g) w bz:=(jY.trans aI.mod).trans jZ;rcases uL with ⟨t,h1,rfl,I⟩ | ⟨h1,rfl⟩
  .refine J ?_;exact⟨.inl ⟨t,h1,aL,I⟩,hm⟩
  .refine J ?_;exact⟨.inr ⟨h1,aL⟩,hm⟩
theorem ahK{w0:A_}(cy c9 g c q p base:Nat)(m:o.Model)(s:C_ Int)(a:o.Act)(bL b2:B_)(w:A_)(bU:lE w0 w cy c9 g c q base m s)(gr:(o.check m).cN=0)(ay:o.Fits m s)(hIn:o.fY m q p)
  (aV:o.n0 (o.inner (m.procs[p]'(hIn.au)) (o.eR m)) a)(lL:a.kind=4)(U:o.eS w bL a.index)(aG:o.eS w b2 a.value) :
  DD F.uy #[.agg (a.enc bL b2).toArray,.pointer (some ⟨cy,0,none⟩)] w fun u w'=>ky base g (.slice (some ⟨g,0,none⟩) s.length c) (o.h4 m s q a) u w w':=by
 obtain⟨cn,ci,rfl,_⟩:=U.form;obtain⟨tT,tg,rfl,_⟩:=aG.form;have aW:=o.j3 gr;obtain⟨f6,f7,f8⟩:=o.tI m;have done:o.h4 m s q a=if (o.eval a.value (o.cR m s q)).2≠0 then none else o.vi m s a.to.toNat (o.eval a.value (o.cR m s q)).1:=by
  unfold o.h4;rw[if_neg (show ¬a.kind=5 by omega),if_neg (show ¬a.kind=1 by omega),if_neg (show ¬a.kind=2 by omega),if_neg (show ¬a.kind=3 by omega)]
 rw[done];clear done;obtain⟨gI,e1⟩:=aV.chan (.inl lL);have fl:a.to.toNat<m.aw.length:=e1;have hq:a.to=(a.to.toNat:Nat):=AK
 have dY:(o.chanOf m s a.to.toNat).length=1+o.gE m a.to.toNat:=o.uz (by rw[ay.len];exact o.nA fl);have Zk:=o.nA fl;have hlen:=ay.len;have kA:o.dN m<=64:=o.jd aW;unfold o.Act.enc;rw[hq,AG9];have B8:=bU.DL;refine br E.uy ?_;refine J ?_;intro w1 bS dm ai av;replace bU:=bU.ext ai;refine J ?_;refine J_ (BQ cy c9 g c q p base m s _ a.value w1 bU gr ay hIn (aG.ext ai)) ?_;rintro _ aD ⟨rfl,aj⟩;replace bU:=bU.ext aj;replace av:=aj.obj av;have aJ:=ai.trans aj;obtain⟨n,o9⟩:∃n,n=(o.eval a.value (o.cR m s q)).1:=⟨_,rfl⟩;obtain⟨e,oA⟩:∃e,e=(o.eval a.value (o.cR m s q)).2:=⟨_,rfl⟩;rw[<-o9,<-oA];refine J ?_;intro aN ah;replace bU:=bU.ext ah;replace av:=ah.obj av;have a7:=aJ.trans ah;obtain⟨zs,sg,iq⟩:=bU.C4;obtain⟨eK,d0,dM,d1,et,d2,eB,d3,eL,d4,b6,bx,bR,c1,anz,aeR,bZ,bu,ca,bC,yH,xW,fA,ql,rfl,_,_,en,dU,du,eW,fQ,af,h1,I,ab,aZ,bH⟩:=iq.form;obtain⟨pG,rfl⟩:=I.addr;have ao:=bU.hD.obj sg;have pS:=bU.box;have ej:=((I.at a.to.toNat fl).cells).ext bU.hD;have I5:=af.ext bU.hD;clear en dU du eW fQ af h1 I ab aZ bH sg iq;refine J ?_;intro aU hp ir ax ct;refine⟨ax,?_⟩;refine T_ ct rfl rfl (by simp[Value.oneCell',o.dB.enc]) fun bt fg b9=>?_;have aI:Ext aN bt:=fg.ext ax ir;replace bU:=bU.ext aI;replace ao:=aI.obj ao;replace pS:=bU.box;replace av:=aI.obj av;replace I5:=I5.ext aI;have bJ:=a7.trans aI;clear ct fg ej;obtain⟨aR,hN⟩:∃aR,aR=(o.eY m.aw[a.to.toNat].scalar m.aw[a.to.toNat].aR m.aw[a.to.toNat].U m.scalars).aR:=⟨_,rfl⟩;obtain⟨cH,tv⟩:∃U,U=(o.eY m.aw[a.to.toNat].scalar m.aw[a.to.toNat].aR m.aw[a.to.toNat].U m.scalars).U:=⟨_,rfl⟩;have wx:o.vi m s a.to.toNat n=if n<aR\/cH<n then none else (o.nr (o.chanOf m s a.to.toNat) n).map (o.hR s (o.cm m a.to.toNat)):=by
  unfold o.vi o.vS;rw[List.getElem?_eq_getElem fl,hN,tv]
 rw[wx];clear wx;refine J ?_;refine P_ (.tuple #[.I aR,.I cH]) (fun w' e'=>by
  rw[hN,tv,show o.eY m.aw[a.to.toNat].scalar m.aw[a.to.toNat].aR m.aw[a.to.toNat].U m.scalars=_ from o.zm ⟨⟨#[]⟩,m.aw[a.to.toNat].scalar,0,m.aw[a.to.toNat].aR,m.aw[a.to.toNat].U,0⟩ m.scalars];exact HL ⟨⟨#[]⟩,m.aw[a.to.toNat].scalar,0,m.aw[a.to.toNat].aR,m.aw[a.to.toNat].U,0⟩ _ m.scalars w' (I5.ext e')) ?_
 refine J ?_;intro bz aM;replace bU:=bU.ext aM;replace ao:=aM.obj ao;replace pS:=bU.box;replace av:=aM.obj av;have cv:=bJ.trans aM;clear b9 I5;refine J ?_;refine I_ (fun cE=>?_) (fun cE=>?_);rotate_left
 .refine J ?_;exact ky.none (by rw[if_pos cE]) cv
 rw[if_neg (show ¬e≠0 by omega)];refine J ?_;refine I_ (fun cW=>?_) (fun cW=>?_)
 .refine J ?_;exact ky.none (by rw[if_pos (.inl cW)]) cv
 refine J ?_;refine I_ (fun fz=>?_) (fun fz=>?_)
 .refine J ?_;exact ky.none (by rw[if_pos (.inr AK)]) cv
 rw[if_neg AK];refine J ?_;refine P_ (.tuple #[.I (o.cm m a.to.toNat),.I (o.cm m a.to.toNat+(1+o.gE m a.to.toNat):Nat)]) (fun w' e'=>NQ c9 m a.to.toNat w' (bU.C4.ext (bU.hD.trans e')) aW fl) ?_;refine J ?_;intro bK bq;replace bU:=bU.ext bq;replace pS:=bU.box;have dz:=cv.trans bq;clear ao av;refine J ?_;refine _c (k:=.i64) (k':=.i64) (o.cm m a.to.toNat) (o.cm m a.to.toNat+(1+o.gE m a.to.toNat)) bU.AE (by simp[de,bN]) (by simp[de,bN]) AK AK fun bR c1 _ yq=>?_;rw[o.Na] at yq;refine J ?_;refine J_ (afo _ _ n bK yq AK) ?_;rintro _ c4 ⟨aiA,bG⟩;replace bU:=bU.ext bG;replace pS:=bU.box;have fk:=dz.trans bG;rcases aiA with ⟨fD,rfl⟩ | ⟨r,ae,gp,ja,rfl,wJ⟩
 .rw[fD];refine J ?_;refine _c (k:=.i64) (k':=.i64) (o.cm m a.to.toNat) (o.cm m a.to.toNat+(1+o.gE m a.to.toNat)) bU.AE (by simp[de,bN]) (by simp[de,bN]) AK AK fun bX c2 hJ _=>?_;refine J ?_;refine _d (p:=o.cm m a.to.toNat) (xs:=[]) bU.own bn.nil (by simp only[de,bN];rfl) (by simp only[de,bN];rfl) hJ AK Ct Ct fun u c6 hQ gU=>?_;refine J ?_;exact⟨.inr ⟨rfl,aL⟩,(Ext.mod (A:=fun i=>i=g) fk).trans (hQ.mod rfl)⟩
 .rw[ja];have ix:=o.Ll ja;rw[dY] at ix;refine J ?_;refine _c (k:=.i64) (k':=.i64) (o.cm m a.to.toNat) (o.cm m a.to.toNat+(1+o.gE m a.to.toNat)) bU.AE (by simp[de,bN]) (by simp[de,bN]) AK AK fun bX c2 hJ _=>?_;refine J ?_;refine _d (p:=o.cm m a.to.toNat) bU.own (kF wJ) (by simp only[de,bN];rfl) (by simp only[de,bN];rfl) hJ AK Ct Ct fun u c6 hQ gU=>?_;rw[LJ AK] at gU;refine J ?_;exact⟨.inl ⟨_,rfl,aL,gU⟩,(Ext.mod (A:=fun i=>i=g) fk).trans (hQ.mod rfl)⟩
end Go.Proofs.R
end
section
namespace ba
open Go Go.RowKit
theorem _r{P:D_}{ty:F_}{v:B_}{m:String}{f:E_}{r:B_}{args:C_ B_}{w:A_}{R:B_->A_->Prop}{cT:B_->A_->Prop}{t}(ay:okF P f=true)(hm:∀w',(method (P.types.size+Made.depth) ty v m).run P w' = .ok (f,r) w')
  (h:aY P f (r :: args).toArray w R)(hk:∀v w',R v w'->cT v w'):xy P (.iface ty v) m args w cT t:=by unfold xy;exact aeY ay hm h hk
theorem aS.anD{α:Type}{enc:α->C_ B_}{e:F_}{sz base:Nat}{w:A_}{v:B_}{cq:C_ (fj sz)}{xs:C_ α}(h:pw e sz base w v cq)(aC:cq.length=xs.length)(he:∀i (h1:i<cq.length) (I:i<xs.length),cq[i].1=enc xs[i]):aS enc e sz base w v xs:=by
 have hm:cq.map kf=xs.map enc:=AK8 (by simp[aC]) fun i h1 I=>by
  rw[List.getElem_map,List.getElem_map];exact he i (by simpa using h1) (by simpa using I)
 have:cq.flatMap kf=xs.flatMap enc:=by rw[List.flatMap_def,List.flatMap_def,hm]
 unfold aS at *;rw[<-this,<-aC];exact h
end ba
namespace Go.Proofs.R
open Go Go.RowKit ba
theorem Qj(v:B_)(xs:C_ Int)(w:A_)(h:dw w v xs)(ao:o.ew xs.length 8) :
  DD F.IP #[v] w fun b0 w'=>iS w.heap.size w' b0 xs/\Ext w w' :=
 (VY lN E.IP Ct v xs w h (by unfold o.ew at ao;omega)).mono fun b0 w' ⟨⟨cq,aC,aO,an⟩,he⟩=>⟨aS.anD aO aC fun i h1 I=>an i h1 I,he⟩
def lj(k:Int):F_:=if k=1 then T.sY else if k=2 then T.am else if k=3 then T.s0 else if k=4 then T.s3 else T.ap
def G8(w:A_)(cs:C_ B_)(x:o.Act):Prop := ∃bL b2,cs=[.iface (lj x.kind) (.agg (x.enc bL b2).toArray)]/\o.eS w bL x.index/\o.eS w b2 x.value
theorem ahn{w0:A_}(v:B_)(xs:C_ o.Act)(w:A_)(h:o.lX w0 v xs)(dW:Ext w0 w)(hk:∀x∈xs,1<=x.kind/\x.kind<=5)(ao:xs.length<=100000) :
  DD F.a7 #[v] w fun u w'=>(∃cq:C_ (fj 1),cq.length=xs.length/\pw T.a4 1 w.heap.size w' u cq/\∀i (h1:i<cq.length) (I:i<xs.length),G8 w0 cq[i].1 xs[i])/\Ext w w':=by
 obtain⟨eF,fB,rfl,fm⟩:=h.form;refine br E.a7 ?_;refine J ?_;refine L_ 8 xs.length [6,7] (fun v:gA=>[(3,.slice v.1 v.2.1 v.2.2)]) (none,0,0) (fun k v W=>Ext w W/\∃cq:C_ (fj 1),cq.length=k/\pw T.a4 1 w.heap.size W (.slice v.1 v.2.1 v.2.2) cq/\∀i (h1:i<cq.length) (I:i<xs.length),G8 w0 cq[i].1 xs[i]) bc bc ⟨Ext.refl _,[],rfl,aS.nil _ _ _ _ _,fun i h=>absurd h (K8 _)⟩ ?_;rintro k C1 S aD nd ⟨aj,cq,lx,dA,im⟩;refine J ?_;apply I_<;>intro g1;rotate_left
 .have jL:xs.length=k:=AK
  refine J ?_;exact⟨⟨cq,AK,dA,im⟩,aj⟩
 have a1:k<xs.length:=AK
 obtain⟨a,rfl⟩:=h.addr;obtain⟨bL,b2,rh,pa,pV⟩:=h.at k a1;obtain⟨cE,u0⟩:=hk _ (GR a1);obtain⟨x,ag⟩:∃x,x=xs[k]:=⟨_,rfl⟩;rw[<-ag] at rh pa pV cE u0;obtain⟨cn,ci,rfl,_⟩:=pa.form;obtain⟨tT,tg,rfl,_⟩:=pV.form;replace rh:=rh.ext (dW.trans aj);unfold o.Act.enc at rh;refine J ?_;intro aN dR kT ah b9;have dT:=dA.ext ah;have a7:=aj.trans ah;clear rh;have step:∀(y:fj 1),G8 w0 y.1 xs[k]->∀i (h1:i<(cq++[y]).length) (I:i<xs.length),G8 w0 ((cq++[y])[i]).1 xs[i]:=fun y bV i h1 I=>by
  by_cases U:i<cq.length
  .rw[AI5 U];exact im i U I
  .have e:i=cq.length:=by simp at h1;omega
   subst e;subst lx;rw[AI6 (GA _)];simpa using bV
 have adu:=a7.size;refine J ?_;apply I_<;>intro g2
 .refine J ?_;intro aU cC ff ax bp;refine J ?_;have wy:lj x.kind=T.sY:=by unfold lj;rw[if_pos (show x.kind=1 by omega)]
  refine U_ (enc:=kf) (y:=(⟨[.iface T.sY (.agg (x.enc (.slice cn x.index.length ci) (.slice tT x.value.length tg)).toArray)],rfl,by simp[Value.oneCell']⟩:fj 1)) (dT.ext ax) bp rfl kg tj AK (by unfold maxLen;omega) (by have:=ax.size;omega) fun aQ n c bt dF hg=>?_;refine J ?_;exact⟨a1,aL,(aQ,n,c),⟨rfl,trivial⟩,(a7.trans ax).grown hg fun i U=>(dT.lt i U).1,_,by simp[lx],dF,step _ ⟨_,_,by rw[<-ag,wy],by rw[<-ag];exact pa,by rw[<-ag];exact pV⟩⟩
 refine J ?_;apply I_<;>intro g3
 .refine J ?_;intro aU cC ff ax bp;refine J ?_;have wy:lj x.kind=T.am:=by unfold lj;rw[if_neg (show ¬x.kind=1 by omega),if_pos (show x.kind=2 by omega)]
  refine U_ (enc:=kf) (y:=(⟨[.iface T.am (.agg (x.enc (.slice cn x.index.length ci) (.slice tT x.value.length tg)).toArray)],rfl,by simp[Value.oneCell']⟩:fj 1)) (dT.ext ax) bp rfl kg tj AK (by unfold maxLen;omega) (by have:=ax.size;omega) fun aQ n c bt dF hg=>?_;refine J ?_;exact⟨a1,aL,(aQ,n,c),⟨rfl,trivial⟩,(a7.trans ax).grown hg fun i U=>(dT.lt i U).1,_,by simp[lx],dF,step _ ⟨_,_,by rw[<-ag,wy],by rw[<-ag];exact pa,by rw[<-ag];exact pV⟩⟩
 refine J ?_;apply I_<;>intro g4
 .refine J ?_;intro aU cC ff ax bp;refine J ?_;have wy:lj x.kind=T.s0:=by unfold lj;rw[if_neg (show ¬x.kind=1 by omega),if_neg (show ¬x.kind=2 by omega),if_pos (show x.kind=3 by omega)]
  refine U_ (enc:=kf) (y:=(⟨[.iface T.s0 (.agg (x.enc (.slice cn x.index.length ci) (.slice tT x.value.length tg)).toArray)],rfl,by simp[Value.oneCell']⟩:fj 1)) (dT.ext ax) bp rfl kg tj AK (by unfold maxLen;omega) (by have:=ax.size;omega) fun aQ n c bt dF hg=>?_;refine J ?_;exact⟨a1,aL,(aQ,n,c),⟨rfl,trivial⟩,(a7.trans ax).grown hg fun i U=>(dT.lt i U).1,_,by simp[lx],dF,step _ ⟨_,_,by rw[<-ag,wy],by rw[<-ag];exact pa,by rw[<-ag];exact pV⟩⟩
 refine J ?_;apply I_<;>intro g5
 .refine J ?_;intro aU cC ff ax bp;refine J ?_;have wy:lj x.kind=T.s3:=by unfold lj;rw[if_neg (show ¬x.kind=1 by omega),if_neg (show ¬x.kind=2 by omega),if_neg (show ¬x.kind=3 by omega),if_pos (show x.kind=4 by omega)]
  refine U_ (enc:=kf) (y:=(⟨[.iface T.s3 (.agg (x.enc (.slice cn x.index.length ci) (.slice tT x.value.length tg)).toArray)],rfl,by simp[Value.oneCell']⟩:fj 1)) (dT.ext ax) bp rfl kg tj AK (by unfold maxLen;omega) (by have:=ax.size;omega) fun aQ n c bt dF hg=>?_;refine J ?_;exact⟨a1,aL,(aQ,n,c),⟨rfl,trivial⟩,(a7.trans ax).grown hg fun i U=>(dT.lt i U).1,_,by simp[lx],dF,step _ ⟨_,_,by rw[<-ag,wy],by rw[<-ag];exact pa,by rw[<-ag];exact pV⟩⟩
 refine J ?_;intro aU cC ff ax bp;refine J ?_;have wy:lj x.kind=T.ap:=by unfold lj;rw[if_neg (show ¬x.kind=1 by omega),if_neg (show ¬x.kind=2 by omega),if_neg (show ¬x.kind=3 by omega),if_neg (show ¬x.kind=4 by omega)]
 refine U_ (enc:=kf) (y:=(⟨[.iface T.ap (.agg (x.enc (.slice cn x.index.length ci) (.slice tT x.value.length tg)).toArray)],rfl,by simp[Value.oneCell']⟩:fj 1)) (dT.ext ax) bp rfl kg tj AK (by unfold maxLen;omega) (by have:=ax.size;omega) fun aQ n c bt dF hg=>?_;refine J ?_;exact⟨a1,aL,(aQ,n,c),⟨rfl,trivial⟩,(a7.trans ax).grown hg fun i U=>(dT.lt i U).1,_,by simp[lx],dF,step _ ⟨_,_,by rw[<-ag,wy],by rw[<-ag];exact pa,by rw[<-ag];exact pV⟩⟩
theorem ahm{w0:A_}(cy c9 g c q p base:Nat)(m:o.Model)(s:C_ Int)(a:o.Act)(bL b2:B_)(w:A_)(cV:B_->A_->Prop){t}(bU:lE w0 w cy c9 g c q base m s)(gr:(o.check m).cN=0)(ay:o.Fits m s)(hIn:o.fY m q p)
  (aV:o.n0 (o.inner (m.procs[p]'(hIn.au)) (o.eR m)) a)(U:o.eS w bL a.index)(aG:o.eS w b2 a.value)
  (jr:∀u w',ky base g (.slice (some ⟨g,0,none⟩) s.length c) (o.h4 m s q a) u w w'->cV u w') :
  xy Tryz.prog (.iface (lj a.kind) (.agg (a.enc bL b2).toArray)) "lariat/fire.do" [.pointer (some ⟨cy,0,none⟩)] w cV t:=by
 obtain⟨cE,u0⟩:=aV.kind;by_cases bB:a.kind=1
 .rw[show lj a.kind=T.sY from by unfold lj;rw[if_pos bB]];exact _r (f:=F.ce) Ct (fun w'=>Ct) (ahL cy c9 g c q p base m s a bL b2 w bU gr ay hIn aV bB U aG) jr
 by_cases aJ:a.kind=2
 .rw[show lj a.kind=T.am from by unfold lj;rw[if_neg bB,if_pos aJ]];exact _r (f:=F.DW) Ct (fun w'=>Ct) (ahv cy c9 g c q p base m s a bL b2 w bU gr ay hIn aV aJ U aG) jr
 by_cases a7:a.kind=3
 .rw[show lj a.kind=T.s0 from by unfold lj;rw[if_neg bB,if_neg aJ,if_pos a7]];exact _r (f:=F.fS) Ct (fun w'=>Ct) (ahE cy c9 g c q p base m s a bL b2 w bU gr ay hIn aV a7 U aG) jr
 by_cases bD:a.kind=4
 .rw[show lj a.kind=T.s3 from by unfold lj;rw[if_neg bB,if_neg aJ,if_neg a7,if_pos bD]];exact _r (f:=F.uy) Ct (fun w'=>Ct) (ahK cy c9 g c q p base m s a bL b2 w bU gr ay hIn aV bD U aG) jr
 .rw[show lj a.kind=T.ap from by unfold lj;rw[if_neg bB,if_neg aJ,if_neg a7,if_neg bD]];exact _r (f:=F.DY) Ct (fun w'=>Ct) (ahG cy c9 g c q p base m s a bL b2 w bU gr ay hIn aV AK U aG) jr
theorem ahl(b:Nat)(m:o.Model)(ref:Int)(q p k:Nat)(w:A_)(h:pC w b m)(bF:o.fr m ref q p k) :
  ∃gw fS aQ eZ,o.eS w (.slice gw (o.bT m p k).guard.length fS) (o.bT m p k).guard/\o.lX w (.slice aQ (o.bT m p k).bQ.length eZ) (o.bT m p k).bQ /\
   ∀W,Ext w W->DD F.h #[.pointer (some ⟨b,0,none⟩),.I ref] W fun u w'=>u = .agg ((o.bT m p k).enc (.slice gw (o.bT m p k).guard.length fS) (.slice aQ (o.bT m p k).bQ.length eZ)).toArray/\Ext W w':=by
 obtain⟨zs,ao,h⟩:=h;obtain⟨eK,d0,dM,d1,et,d2,eB,d3,eL,d4,b6,bx,bR,c1,bX,c2,bZ,bu,ca,bC,cn,ci,fA,gp,rfl,_,_,_,_,_,_,_,_,_,_,ab,aZ,bH⟩:=h.form;have ar:=bF.at_.U;have au:=bF.at_.au;have nd:=bF.at_.hk;have oB:=bF.at_.ip;obtain⟨r,rfl⟩:=QA bF.aR;have aP:r<(o.refs m).length:=bF.U;have gu:(o.refs m)[r].inst=(q:Int):=bF.at_.pk;have pd:(o.refs m)[r].cmd=(k:Int):=bF.at_.sC;obtain⟨jG,rfl⟩:=bH.addr;obtain⟨ij,rfl⟩:=aZ.addr;obtain⟨a3,rfl⟩:=ab.addr;obtain⟨mc,b2,dV,dP,e7,fy⟩:=ab.at p au;obtain⟨CB,BA,rfl,Cs⟩:=fy.form;obtain⟨ac,rfl⟩:=fy.addr;obtain⟨eU,fq,dH,gF,h6,gG⟩:=fy.at k nd;obtain⟨gw,fS,rfl,_⟩:=h6.form;obtain⟨sy,r6,rfl,_⟩:=gG.form;unfold o.dJ.enc at dP;unfold o.ea.enc at gF;have km:=o.xX au nd;refine⟨gw,fS,sy,r6,by rw[km];exact h6,by rw[km];exact gG,fun W ts=>?_⟩;replace ao:=ts.obj ao;replace bH:=bH.ext Flat.ext ts;replace aZ:=aZ.ext Flat.ext ts;replace dP:=dP.ext ts;replace gF:=gF.ext ts;refine br E.h ?_;refine J ?_;intro w1 bS dm ai av;replace ao:=ai.obj ao;have Oh:=bH.ext Flat.ext ai;refine J ?_;intro aD cC ff aj bp;have qm:(o.refs m)[r].enc=[.I q,.I k]:=by unfold o.Ref.enc;rw[gu,pd]
 rw[qm] at bp;have z4:=cA av;replace av:=aj.obj av;replace ao:=aj.obj ao;have aJ:=ai.trans aj;have zK:=aZ.ext Flat.ext aJ;have Cj:=dP.ext aJ;have EI:=gF.ext aJ;clear Oh;refine J ?_;intro aN ah;replace av:=ah.obj av;replace bp:=ah.obj bp;replace ao:=ah.obj ao;replace zK:=zK.ext Flat.ext ah;replace Cj:=Cj.ext ah;replace EI:=EI.ext ah;refine J ?_;refine K_ p (by rw[oB]) au ?_;refine J ?_;intro aU dE b9;refine J ?_;exact⟨by rw[km];rfl,dE.ext (aJ.trans ah) AK⟩
theorem ahk(c9:Nat)(v:B_)(m:o.Model)(s:C_ Int)(ref:Int)(q p k:Nat)(w:A_)(eD:pC w c9 m)(ak:dw w v s)(ay:o.Fits m s)(bF:o.fr m ref q p k) :
  DD F.d7 #[.pointer (some ⟨c9,0,none⟩),v,.I ref] w fun u w'=>((o.hF m s q (o.bT m p k)=none/\u = .tuple #[.slice none 0 0,.bool false])\/(∃t ae c,o.hF m s q (o.bT m p k)=some t/\u = .tuple #[.slice ae t.length c,.bool true]/\iS w.heap.size w' (.slice ae t.length c) t))/\Ext w w':=by
 have gr:=bF.ok;have aW:=o.j3 gr;have hIn:=bF.inst;have o6:=bF.cin;have sj:=o6.gM;have ar:=hIn.ar;have hlen:=ay.len;have kA:o.dN m<=64:=o.jd aW;have EX:=hIn.room;obtain⟨f6,f7,f8⟩:=o.tI m;obtain⟨EW,qB⟩:=o.rB ar;have ye:=eD;obtain⟨zs,ao,iq⟩:=eD;obtain⟨eK,d0,dM,d1,et,d2,eB,d3,eL,d4,b6,bx,bR,c1,bX,c2,bZ,bu,ca,bC,yH,xW,fA,gp,rfl,_,_,en,dU,du,eW,fQ,af,h1,I,ab,aZ,bH⟩:=iq.form;obtain⟨eF,fB,rfl,fm⟩:=ak.form;obtain⟨r,rfl⟩:=QA bF.aR;have aP:r<(o.refs m).length:=bF.U;have gu:(o.refs m)[r].inst=(q:Int):=bF.at_.pk;obtain⟨jG,rfl⟩:=bH.addr;obtain⟨a2,rfl⟩:=du.addr;obtain⟨MO,rfl⟩:=ak.addr;obtain⟨c,yh⟩:∃c,c=o.bT m p k:=⟨_,rfl⟩;obtain⟨gw,fS,aQ,eZ,h6,gG,km⟩:=ahl c9 m r q p k w ye bF;rw[<-yh] at o6 sj ⊢;simp only[<-yh] at km h6 gG;clear en dU eW fQ af h1 I ab aZ iq;have Co:∀{W},Ext w W->W.heap[c9]? = _:=fun e=>e.obj ao;refine br E.d7 ?_;simp -dsimp only[cB];refine eb ?_;refine S_ [0,1,2] (fun iI:Nat=>[(8,.pointer (some ⟨iI,0,none⟩)),(9,.I q)]) (fun iI W=>w.heap.size<=iI/\Ext w W/\W.heap[iI]? = some (.cells (c.enc (.slice gw c.guard.length fS) (.slice aQ c.bQ.length eZ)).toArray T.m)) ?_ ?_
 .refine J ?_;intro w1 ai;replace ao:=ai.obj ao;replace bH:=bH.ext Flat.ext ai;refine J ?_;refine⟨?_,?_⟩
  .refine J_ (km w1 ai) ?_;rintro _ aD ⟨rfl,aj⟩;refine⟨aj,?_⟩;refine J ?_;intro aN iI ov ah cG;refine⟨aj.trans ah,?_⟩;refine T_ cG rfl rfl (by simp[Value.oneCell',o.ea.enc]) fun aU dE bp=>?_;have ax:Ext aD aU:=dE.ext ah ov;refine⟨aj.trans ax,?_⟩;refine J ?_
   have:=ai.size
   have:=aj.size
   exact⟨iI,⟨rfl,by first | trivial | (rw[gu];trivial) | simp[gu,Has],trivial⟩,AK,ai.trans (aj.trans ax),bp⟩
  .refine J ?_;intro aD iI ov aj cG;refine⟨aj,?_⟩;refine J ?_;refine J_ (km aD (ai.trans aj)) ?_;rintro _ aN ⟨rfl,ah⟩;replace cG:=ah.obj cG;have Wv:=aj.trans ah;refine⟨Wv,?_⟩;refine J ?_;intro aU dE bp;have ax:Ext w1 aU:=dE.ext Wv ov;refine⟨ax,?_⟩;refine J ?_
   have:=ai.size
   exact⟨iI,⟨rfl,by first | trivial | (rw[gu];trivial) | simp[gu,Has],trivial⟩,AK,ai.trans ax,bp⟩
 clear km ao;rintro iI S w1 ⟨ov,ai,cG⟩;have avU:=cA cG;have ao:=Co ai;have fp:=ak.ext Flat.ext ai;have uR:s[o.dG m q]? = some (s[o.dG m q]' AK):=List.getElem?_eq_getElem AK;refine J ?_;refine J_ (Qj _ s w1 fp (by unfold o.ew;omega)) ?_;rintro u aD ⟨dA,aj⟩;replace ao:=aj.obj ao;replace cG:=aj.obj cG;have aJ:=ai.trans aj;obtain⟨anH,DX,rfl,_⟩:=(kF dA).form;obtain⟨g,rfl⟩:∃g,anH=some ⟨g,0,none⟩:=by
  rcases dA.2 with ⟨az,af⟩ | ⟨g,cap,cur,h1,_⟩
  .exfalso;injection az with _ I _;omega
  .injection h1 with h1 _ _;exact⟨g,h1⟩
 refine J ?_;intro aN r4 yf ah kk;have a7:=aJ.trans ah;have XP:lE w1 aN r4 c9 g DX q w1.heap.size m s:=⟨aj.trans ah,GA _,ye.ext ai,kk,dA.ext ah⟩;replace ao:=ah.obj ao;replace cG:=ah.obj cG;have gO:=ak.ext Flat.ext a7;have ao4:=du.ext Flat.ext a7;clear fp dA;refine eb ?_;refine AA0 ao (Ext.refl _) rfl ?_;refine eb ?_;simp -dsimp only[cB];refine eb ?_;refine K_ (o.dG m q) (by rw[qB]) AK ?_;refine eb ?_;intro aU ax;have zN:=XP.ext ax;replace cG:=ax.obj cG;replace ao:=ax.obj ao;have bD:=a7.trans ax;clear gO ao4 XP kk;refine eb ?_;apply I_<;>intro g1;rotate_left
 .refine J ?_;exact⟨.inl ⟨by unfold o.hF;rw[uR,if_pos (by simpa using g1)],aL⟩,bD⟩
 have rj:o.hF m s q c=if 0<c.guard.length/\((o.eval c.guard (o.cR m s q)).2≠0\/(o.eval c.guard (o.cR m s q)).1=0) then none else (o.k8 m q c.bQ s).map fun t=>t.set (o.dG m q) c.to:=by
  unfold o.hF;rw[uR,if_neg (by simpa using g1)]
 have X4:=cG;refine eb ?_;refine S_ [0,2,8,9,10,11] (fun _:Unit=>[]) (fun _ W=>Ext aU W/\¬(0<c.guard.length/\((o.eval c.guard (o.cR m s q)).2≠0\/(o.eval c.guard (o.cR m s q)).1=0))) ?_ ?_
 .refine J ?_;apply I_<;>intro g2;rotate_left
  .refine J ?_;exact⟨(),trivial,Ext.refl _,fun c3=>AK⟩
  refine J ?_;refine J_ (BQ r4 c9 g DX q p w1.heap.size m s _ c.guard aU zN gr ay hIn (h6.ext bD)) ?_;rintro _ bt ⟨rfl,aI⟩;obtain⟨n,o9⟩:∃n,n=(o.eval c.guard (o.cR m s q)).1:=⟨_,rfl⟩;obtain⟨e,oA⟩:∃e,e=(o.eval c.guard (o.cR m s q)).2:=⟨_,rfl⟩;rw[<-o9,<-oA];rw[<-o9,<-oA] at rj;refine J ?_;refine I_ (fun j2=>?_) (fun j2=>?_);rotate_left
  .refine J ?_;exact⟨.inl ⟨by rw[rj,if_pos ⟨AK,.inl j2⟩],aL⟩,bD.trans aI⟩
  refine J ?_;refine I_ (fun hS=>?_) (fun hS=>?_)
  .refine J ?_;exact⟨.inl ⟨by rw[rj,if_pos ⟨AK,.inr hS⟩],aL⟩,bD.trans aI⟩
  .refine J ?_;exact⟨(),trivial,aI,fun c3=>by rcases c3.2 with h | h;exact h j2;exact hS h⟩
 clear cG ao;rintro _ S bt ⟨aI,tu⟩;have hJ:o.hF m s q c=(o.k8 m q c.bQ s).map fun t=>t.set (o.dG m q) c.to:=by rw[rj,if_neg tu]
 rw[hJ];clear rj tu hJ;have cG:=aI.obj X4;have On:=zN.ext aI;have bJ:=bD.trans aI;refine J ?_;refine J_ (ahn _ c.bQ bt (gG.ext ai) (aj.trans (ah.trans (ax.trans aI))) (fun x ag=>(o.HG o6 x ag).kind) AK) ?_;rintro u bz ⟨⟨cq,lx,Py,im⟩,aM⟩;obtain⟨oJ,lb,rfl,_⟩:=(aS.jD kg Py).form;have aiI:=On.ext aM;have OF:=aM.obj cG;have cv:=bJ.trans aM;have Cb:=On.DL;have z5:=aM.size;clear cG X4 zN On;refine J ?_;refine L_ 69 cq.length [0,2,8,9,10,11,67,68] (fun _:C_ Int=>[]) s (fun n t W=>Mod (fun i=>i=g) bz W/\o.k8 m q (c.bQ.take n) s=some t/\o.Fits m t/\lE w1 W r4 c9 g DX q w1.heap.size m t) bc bc ⟨Mod.refl _ _,rfl,ay,aiI⟩ ?_;rintro n t a6 bK az ⟨iv,aB,rm,Ev⟩;have ajS:g≠iI:=AK
 have B2:=iv.obj (fun h=>ajS h.symm) OF;have akA:=aS.mod Py iv fun i U h=>by have:=(aS.lt Py i U).1;omega
 refine J ?_;apply I_<;>intro g2
 .have j0:n<cq.length:=AK
  have yp:n<c.bQ.length:=AK
  have XN:=aS.jD kg akA;obtain⟨ac,rfl⟩:=XN.addr;obtain⟨bL,b2,fx,pa,pV⟩:=im n j0 yp;have gq:bK.cell? (ac.add (n*1))=some (.iface (lj c.bQ[n].kind) (.agg (c.bQ[n].enc bL b2).toArray)):=by
   have:=XN.at n j0 0 _ (by show(cq[n].1)[0]? = _;rw[fx];rfl)
   rwa[add_zero] at this
  have zJ:Ext w1 bK:=iv.ext (aj.trans (ah.trans (ax.trans (aI.trans aM)))) fun i U h=>AK
  have sh:=Ev.box;refine J ?_;refine M_ gq ?_;refine J ?_;refine ahm r4 c9 g DX q p w1.heap.size m t c.bQ[n] bL b2 bK _ Ev gr rm hIn (o.HG o6 _ (GR yp)) (pa.ext zJ) (pV.ext zJ) fun u c4 bH=>?_;obtain⟨bH,iZ⟩:=bH;have YY:Mod (fun i=>i=g) bz c4:=iv.trans iZ;rcases bH with ⟨t2,h1,rfl,I⟩ | ⟨h1,rfl⟩
  .have YA:=o.Vg aW hIn (o.HG o6 _ (GR yp)) rm h1;refine J ?_;exact⟨j0,aL,t2,trivial,YY,by rw[o.MH m q c.bQ s yp,aB];exact h1,YA,Ev.mod iZ I (by rw[YA.len,rm.len])⟩
  .have fD:o.k8 m q c.bQ s=none:=o.MG m q c.bQ s (n+1) (by rw[o.MH m q c.bQ s yp,aB];exact h1);refine J ?_;exact⟨.inl ⟨by rw[fD];rfl,aL⟩,YY.ext cv fun i U h=>by have:=ai.size;omega⟩
 have pU:n=c.bQ.length:=AK
 rw[pU,AF3] at aB;rw[aB];have sh:=Ev.box;have cg:=rm.len;have gR:Ext w bK:=iv.ext cv fun i U h=>by have:=ai.size;omega
 have gz:=ai.size;refine J ?_;intro c4 bG;have Oo:=Ev.ext bG;have ats:=Oo.box;replace B2:=bG.obj B2;clear sh;refine J ?_;refine K_ (o.dG m q) (by rw[qB]) AK ?_;refine J ?_;refine _z (k:=o.dG m q) Oo.own AK fun c6 hQ gU=>?_;have aiJ:=Oo.mod (hQ.mod rfl) gU (AE9 ..);have aiV:=aiJ.box;rw[AE9] at aiV;refine J ?_;refine⟨.inr ⟨_,some ⟨g,0,none⟩,DX,rfl,by rw[AE9],by rw[AE9];exact aS.low gz gU⟩,hQ.ext (gR.trans bG) (by show w.heap.size<=g;omega)⟩
end Go.Proofs.R
end