/- Parts. -/
import Derived.Test.YtakmdjclehkglaaGreatDoorQawo
import Derived.Shelf.SlSortCmp.WholeK
import Derived.Shelf.SlSortCmp.NoneTotal
set_option linter.all false
set_option maxRecDepth 8000
set_option maxHeartbeats 16000000
section
namespace a7
open Go Go.RowKit
def nW(ae:C_ Bool):C_ B_:=ae.map Value.bool
theorem atc(n:Nat):rM (Value.bool false).cells (n*1)=(nW (List.replicate n false)).toArray:=by
 apply Array.ext_getElem?;intro i;by_cases h:i<n
 .simp[rM,nW,Value.cells,h,Nat.mod_one]
 .simp[rM,nW,h]
theorem AD4{cK:B_->A_->Prop}{w:A_}{e:F_}{n:Int}{t}(N:Nat)(ax:n=N)(an:N<=1000000)(hk:∀w1 b,w.heap.size<=b->Ext w w1->w1.heap[b]? = some (.cells (nW (List.replicate N false)).toArray e)->cK (.slice (some ⟨b,0,none⟩) N N) w1) :
  Dj e 1 1 (.bool false) (.I n) (.I n) w cK t:=by
 subst ax;refine _6 ⟨Aw,Aw,Aw,Aw⟩ ?_;have h:=hk (w.alloc (.cells (nW (List.replicate N false)).toArray e)) _ (Gf _) ((Ext.refl w).alloc _) (heap_alloc_new w _);rw[AF4,atc];exact h
theorem AD5{b c:Nat}{ae:C_ Bool}{w:A_}{e:F_}{KW:A_->Prop}{t}(h:w.heap[b]? = some (.cells (nW ae).toArray e))(ai:c<ae.length)
  (hk:∀w1,di b w w1->w1.heap[b]? = some (.cells (nW (ae.set c true)).toArray e)->KW w1):rS (.pointer (some (Addr.add ⟨b,0,none⟩ (c*1)))) (.bool true) w KW t:=by
 have ak:c<(nW ae).toArray.size:=by simp[nW];exact ai
 rw[AG8];refine _1 (fT h (Array.getElem?_eq_getElem ak)) (by rw[add_eq];simp[World.frozen?,h]) rfl (hk _ ?_ ?_)
 .have:=di.setCell w (Addr.add ⟨b,0,none⟩ c) (.bool true)
  rwa[Nr] at this
 .rw[Ge h ak];simp[nW,List.map_set]
end a7
namespace Go.Proofs.R
open Go Go.RowKit a7
structure mI(w:World)(bJ b N:Nat)(L:List Int):Prop where
 box:w.heap[bJ]? = some (.cells #[.slice (some ⟨b,0,none⟩) N N] T.h7)
 row:∃ae,w.heap[b]? = some (.cells (nW ae).toArray T.m)/\o.oL N L ae
theorem mI.ne{w:A_}{bJ b N:Nat}{L:C_ Int}(h:mI w bJ b N L):¬bJ=b:=fun e=>by
 obtain⟨ae,h1,_⟩:=h.row;subst e;have I:=h.box;rw[h1] at I;injection I with I
 injection I with _ I
 revert I;decide
theorem mI.ext{w w':A_}{bJ b N:Nat}{L:C_ Int}(h:mI w bJ b N L)(he:Ext w w'):mI w' bJ b N L:=by
 obtain⟨ae,h1,I⟩:=h.row;exact⟨he.obj h.box,ae,he.obj h1,I⟩
theorem mI.other{w:A_}{bJ b N k:Nat}{L:C_ Int}{cs:Array B_}{t:F_}(h:mI w bJ b N L)(hk:w.heap[k]? = some (.cells cs t))(aA:t≠T.m):¬k=b:=fun e=>by
 obtain⟨ae,h1,_⟩:=h.row;subst e;rw[h1] at hk;injection hk with hk
 injection hk with _ hk
 exact aA hk.symm
theorem mI.congr{w:A_}{bJ b N:Nat}{L nd:C_ Int}(h:mI w bJ b N L)(e:∀x,x∈L↔x∈nd):mI w bJ b N nd:=by
 obtain⟨ae,h1,I⟩:=h.row;exact⟨h.box,ae,h1,I.congr e⟩
theorem LN(c bJ b N:Nat)(L:C_ Int)(x:Int)(w:A_)(h:mI w bJ b N L)(af:x=c)(ai:c<N)(fI:N<=1000000) :
  Dz F.cZ #[.I x,.pointer (some ⟨bJ,0,none⟩)] w fun _ w'=>mI w' bJ b N (L++o.gB c 1)/\Mod (fun k=>k=b) w w':=by
 subst af;have b8:=h.ne;obtain⟨ae,h1,I⟩:=h.row;have n4:=h.box;have az:=I.len;refine bl E.cZ ?_;refine J ?_;refine AD5 h1 Aw fun w1 hh al=>?_;refine J ?_;refine⟨⟨hh.obj n4 b8,_,al,?_⟩,hh.mod rfl⟩;rw[o.CH];exact I.put ai
theorem ahn(x:o.Node)(cs ys:C_ B_)(bH:B_)(bJ b:Nat)(L:C_ Int)(m:o.Model)(w0 w:A_)(h:o.dU w0 cs m)(cM:o.ky w0 ys (o.layout m))(aX:kk w0 bH (o.insts m))(he:Ext w0 w)(sa:w0.heap.size<=b)
  (b3:mI w bJ b (o.c6 m) L)(aS:o.eD m)(af:o.A7 m x)(c5:x.ok) :
  Dz F.zn #[.agg cs.toArray,.agg ys.toArray,bH,.agg x.enc.toArray,.func (.func F.cZ) #[] #[.pointer (some ⟨bJ,0,none⟩)]] w fun _ w'=>mI w' bJ b (o.c6 m) (L++o.gA m 0 false x)/\Mod (fun k=>k=b) w w':=by
 have Q4:=c5.op;have Q3:=c5.n;unfold o.dP at Q4 Q3;obtain⟨eB,d0,dB,d1,ec,d2,er,d3,eN,d4,rfl,ad,h1,I,ab,aE,eU,eh,eo,dY,ew⟩:=h.form;obtain⟨bW,bu,bI,c1,bO,c2,bQ,bp,bZ,bB,rfl,dV,dH,df,eO,fM⟩:=cM.form;obtain⟨b9,ci,rfl,_⟩:=aX.form;obtain⟨f5,f6,f8⟩:=o.tC m;have q9:o.c6 m<=64:=o.iL aS;refine bl E.zn ?_;refine J ?_;intro w1 dE kI ah bY;refine J ?_;intro aB ee gf aj b1;replace bY:=aj.obj bY;refine J ?_;intro aK jJ nu ag cn;replace bY:=ag.obj bY;replace b1:=ag.obj b1;have fD:=(ah.trans aj).trans ag;have yV:=he.trans fD;have ya:=b3.ext fD;have n5:=ya.other bY BJ;have n6:=ya.other b1 BJ;have n8:=ya.other cn BJ;unfold o.Node.enc at cn;refine J ?_;apply I_<;>intro g2
 .obtain⟨ax,gv,az⟩:=af.var aS g2;obtain⟨a0,rfl⟩:=dV.addr;have av4:=dV.ext Flat.ext yV;obtain⟨eM,hG⟩:=o.xf ax;have aG:=o.adZ ax;have gZ:x.n=(x.n.toNat:Nat):=Aw
  rw[gZ] at cn;have e2:o.gA m 0 false x=o.gB (o.gp m x.n.toNat) 1:=by unfold o.gA;rw[if_pos g2]
  rw[e2];refine J ?_;refine V_ (first:=[]) (cap:=[.pointer (some ⟨bJ,0,none⟩)]) Cq (LN (o.gp m x.n.toNat) bJ b _ L _ aK ya (by rw[hG]) Aw Aw) ?_;rintro _ aR ⟨lb,jM⟩;refine J ?_;exact⟨lb,fD.mod.trans jM⟩
 refine J ?_;apply I_<;>intro g3
 .obtain⟨ax,gv,alK,oY,dd,auO⟩:=af.item aS g3;obtain⟨a0,rfl⟩:=dV.addr;obtain⟨atw,rfl⟩:=ad.addr;obtain⟨atx,rfl⟩:=h1.addr;obtain⟨eM,hG⟩:=o.xf ax;have aG:=o.adZ ax;have gZ:x.n=(x.n.toNat:Nat):=Aw
  have a1:o.gA m 0 false x=o.gB (o.gp m x.n.toNat) (o.o4 m x.n.toNat):=by
   unfold o.gA o.qB;rw[if_neg g2,if_pos g3,if_neg Bh]
  rw[gZ] at cn;rw[a1];refine J ?_;refine K_ _ Aw alK ?_;refine J ?_;intro aR aw;have dW:=yV.trans aw;have El:=ya.ext aw;have Px:=aw.obj b1;have Py:=aw.obj cn;clear b1 cn bY;refine J ?_;refine L_ 40 (o.o4 m x.n.toNat) [4,6,8,39] (fun _:Unit=>[]) () (fun k _ W=>mI W bJ b (o.c6 m) (L++o.gB (o.gp m x.n.toNat) k)/\Mod (fun k=>k=b) aR W) a8 a8 ⟨by rw[o.acY,AF2];exact El,Mod.refl _ _⟩ ?_;rintro k _ S bo hk ⟨pB,ly⟩;have b1:=ly.obj n6 Px;have cn:=ly.obj n8 Py;have R9:=dV.ext Flat.ext (ly.ext dW fun i U e=>Aw);refine J ?_;apply I_<;>intro g4
  .refine J ?_;refine V_ (first:=[]) (cap:=[.pointer (some ⟨bJ,0,none⟩)]) Cq (LN (o.gp m x.n.toNat+k) bJ b _ _ _ bo pB (by rw[hG];omega) Aw Aw) ?_;rintro _ bt ⟨Ci,jN⟩;refine J ?_;refine⟨Aw,aL,(),trivial,?_,ly.trans jN⟩;rw[o.CH] at Ci;rw[o.acm];exact Ci
  .have jw:k=o.o4 m x.n.toNat:=Aw
   rw[jw] at pB;refine J ?_;exact⟨pB,(fD.mod.trans aw.mod).trans ly⟩
 refine J ?_;apply I_<;>intro g6
 .obtain⟨gv,eT⟩:=af.node.len g6;have fa:x.n.toNat<m.ar.length:=eT;obtain⟨cZ,rfl⟩:=dH.addr;have av7:=dH.ext Flat.ext yV;obtain⟨j7,e0⟩:=o.s6 fa;have aG:=o.afX fa;have gZ:x.n=(x.n.toNat:Nat):=Aw
  rw[gZ] at cn;have cg:o.gA m 0 false x=o.gB (o.b6 m x.n.toNat) 1:=by
   unfold o.gA;rw[if_neg g2,if_neg g3,if_neg Aw,if_pos g6]
  rw[cg];refine J ?_;refine V_ (first:=[]) (cap:=[.pointer (some ⟨bJ,0,none⟩)]) Cq (LN (o.b6 m x.n.toNat) bJ b _ L _ aK ya (by rw[e0]) Aw Aw) ?_;rintro _ aR ⟨lb,jM⟩;refine J ?_;exact⟨lb,fD.mod.trans jM⟩
 refine J ?_;apply I_<;>intro g7;rotate_left
 .have eY:o.gA m 0 false x=[]:=by
   unfold o.gA;by_cases g4:x.op=4
   .have:=(af.node.loc g4).2
    have e:(o.eF m).locals=[]:=rfl;rw[e] at this;cases this
   rw[if_neg g2,if_neg g3,if_neg g4,if_neg g6,if_neg g7]
  rw[eY,AF2];refine J ?_;exact⟨ya,fD.mod⟩
 have c8:o.gA m 0 false x=o.ps m (x.n.tdiv 16) (o.insts m).length:=by unfold o.gA;rw[if_neg g2,if_neg g3,if_neg Aw,if_neg g6,if_pos g7]
 rw[c8];obtain⟨gv,Cf⟩:=af.node.at_ g7;have alM:(x.n.tdiv 16).toNat<m.procs.length:=Cf;have alX:=AK7 gv (show(0:Int)<=16 by omega);have alQ:=aS.procs;have alW : -9223372036854775808<=x.n.tdiv 16/\x.n.tdiv 16<=9223372036854775807:=Aw
 have gG:=o.Fs aS;have r8:∀{W},Mod (fun k=>k=b) aK W->Ext w0 W:=fun hm=>hm.ext yV fun k hk e=>Aw
 have Px:=b1;have Py:=cn;clear b1 cn bY;refine J ?_;refine L_ 68 (o.insts m).length [2,4,6,8,66,67] (fun _:Unit=>[]) () (fun k _ W=>Mod (fun i=>i=b) aK W/\mI W bJ b (o.c6 m) (L++o.ps m (x.n.tdiv 16) k)) a8 a8 ⟨Mod.refl _ _,by simpa[o.ps] using ya⟩ ?_;rintro k _ S aR hk ⟨jM,El⟩;have b1:=jM.obj n6 Px;have cn:=jM.obj n8 Py;have Yp:=aX.ext Flat.ext (r8 jM);refine J ?_;apply I_<;>intro g1
 .have cI:k<(o.insts m).length:=Aw
  obtain⟨h7,rfl⟩:=aX.addr;obtain⟨EM,qu⟩:=o.rq cI;have EN:=o.amK cI;obtain⟨a2,rfl⟩:=df.addr;have yJ:=df.ext Flat.ext (r8 jM);refine J ?_;intro wn Bi tj fr eE;refine J ?_;intro bo e4 iF;have aF:Ext aR bo:=e4.ext fr tj;replace b1:=aF.obj b1;replace cn:=aF.obj cn;replace yJ:=yJ.ext Flat.ext aF;have pB:=El.ext aF;have ly:=jM.trans aF.mod;clear El Yp;refine J ?_;refine _J Aw ?_;refine J ?_;apply I_<;>intro g2
  .refine J ?_;refine V_ (first:=[]) (cap:=[.pointer (some ⟨bJ,0,none⟩)]) Cq (LN (o.da m k) bJ b _ _ _ bo pB (by rw[qu]) Aw Aw) ?_;rintro _ bt ⟨Ci,jN⟩;refine J ?_;refine⟨cI,aL,(),trivial,ly.trans jN,?_⟩;rw[o.DB cI,if_pos g2,<-Wi];exact Ci
  .refine J ?_;refine⟨cI,aL,(),trivial,ly,?_⟩;rw[o.DB cI,if_neg g2,AF2];exact pB
 .have jw:(o.insts m).length=k:=Aw
  rw[jw];refine J ?_;exact⟨El,fD.mod.trans jM⟩
end Go.Proofs.R
end
section
namespace o
open Go
def nI(x y:Node):Prop:=x.op<y.op\/(x.op=y.op/\x.n<y.n)
def Cz(x y:Node):Int:=if x.op=y.op/\x.n=y.n then 0 else if x.op<y.op\/(x.op=y.op/\x.n<y.n) then -1 else 1
theorem abM{x y:Node}(h1:x.op=y.op)(I:x.n=y.n):x=y:=by cases x;cases y;simp_all
theorem aom(x:Node):¬nI x x:=by unfold nI;omega
theorem aon(x y z:Node)(h:nI x y)(k:nI y z):nI x z:=by unfold nI at *;omega
theorem Lo(x y:Node):Cz x y<0↔nI x y:=by
 unfold Cz nI;split
 .omega
 .split<;>omega
def tZ (op:Int):Bool:=decide (op=2\/op=3\/op=4\/op=6\/op=7)
structure Hd(e r:List Node):Prop where
 mZ:r.Pairwise nI
 mem:∀x,x∈r↔x∈e/\tZ x.op=true
def comp:C_ Node->C_ Node
 | []=>[]
 | [x]=>[x]
 | x :: y :: r=>if x.op=y.op/\x.n=y.n then comp (y :: r) else x :: comp (y :: r)
theorem N8:∀(l:C_ Node) (x:Node),x∈comp l↔x∈l
 | [],x=>Iff.rfl
 | [y],x=>Iff.rfl
 | y :: z :: r,x=>by
  unfold comp;have fb:=N8 (z :: r) x;split
  .rename_i h
   have:y=z:=abM h.1 h.2
   subst this;rw[fb];simp
  .rw[AJ5,fb,AJ5 (b:=y)]
theorem W2:∀(l:C_ Node),l.Pairwise (fun x y => ¬nI y x)->(comp l).Pairwise nI
 | [],_=>List.Pairwise.nil
 | [y],_=>by unfold comp;simp
 | y :: z :: r,h=>by
  unfold comp;rw[AJ1] at h;have fb:=W2 (z :: r) h.2;split
  .exact fb
  .rename_i b8;rw[AJ1];refine⟨fun x af=>?_,fb⟩;rw[N8] at af;have au7:=h.1 z (AG2 ..);have b4:nI y z:=by unfold nI at *;omega
   rcases List.mem_cons.1 af with e | e
   .rw[e];exact b4
   .have I:=h.2;rw[AJ1] at I
    have:=I.1 x e
    unfold nI at *;omega
structure atk(l:List Int)(n:Int)(r:List Int):Prop where
 mZ:r.Pairwise (· < ·)
 mem:∀x,x∈r↔x∈l\/x=n
 len:r.length<=l.length+1
structure atl(e:List Node)(op:Int)(l:List Int):Prop where
 mZ:l.Pairwise (· < ·)
 mem:∀n,n∈l↔∃x∈e,x.op=op/\x.n=n
 len:l.length<=e.length
def opsL:C_ Int:=[2,3,4,6,7]
structure att(e:List Node)(k:Nat)(r:List Node):Prop where
 mZ:r.Pairwise nI
 mem:∀x,x∈r↔x∈e/\x.op∈opsL.take k
 len:r.length<=k*e.length
theorem N9:∀(l:C_ Node) (x y:Node),comp (l++[x,y])=if x.op=y.op/\x.n=y.n then comp (l++[x]) else comp (l++[x])++[y]
 | [],x,y=>by
  by_cases h:x.op=y.op/\x.n=y.n
  .have:x=y:=abM h.1 h.2
   subst this;simp[comp]
  .simp[comp,h]
 | [a],x,y=>by
  have fb:=N9 [] x y;simp only[List.nil_append,List.cons_append] at fb ⊢;unfold comp;rw[fb];by_cases h:a.op=x.op/\a.n=x.n
  .simp only[if_pos h]
  .simp only[if_neg h];by_cases I:x.op=y.op/\x.n=y.n
   .simp[I,comp]
   .simp[I,comp]
 | a :: b :: l,x,y=>by
  have fb:=N9 (b :: l) x y;simp only[List.cons_append] at fb ⊢;unfold comp;rw[fb];by_cases h:a.op=b.op/\a.n=b.n
  .simp only[if_pos h]
  .simp only[if_neg h];by_cases I:x.op=y.op/\x.n=y.n
   .simp only[if_pos I]
   .simp only[if_neg I,List.cons_append]
theorem Oa{l:C_ Node}{n:Nat}(h1:1<=n)(I:n<l.length):comp (l.take (n+1))=if l[n - 1].op=l[n].op/\l[n - 1].n=l[n].n then comp (l.take n) else comp (l.take n)++[l[n]]:=by
 obtain⟨k,rfl⟩:∃k,n=k+1:=⟨n - 1,Aw⟩;have e1:l.take (k+1)=l.take k++[l[k]]:=L1 Aw;have e2:l.take (k+1+1)=l.take k++[l[k],l[k+1]]:=by rw[L1 I,e1,Wi];rfl
 rw[e2,N9,e1];rfl
theorem N7:∀l:C_ Node,(comp l).length<=l.length
 | []=>Gf _
 | [x]=>Gf _
 | x :: y :: r=>by
  have:=N7 (y :: r)
  unfold comp;split
  .simp only[List.length_cons] at this ⊢;omega
  .simp only[List.length_cons] at this ⊢;omega
theorem W1{l:C_ Node}(h:l.length<2):comp l=l:=by
 match l,h with
 | [],_=>rfl
 | [x],_=>rfl
 | x :: y :: r,h=>simp at h;omega
theorem agV{l:C_ Node}:comp (l.take 1)=l.take 1:=W1 (by rw[LQ];omega)
end o
namespace a7
open Go Go.RowKit
theorem Sy:∀(cs:C_ B_) (w:A_) (b ae i:Nat) (cur:Array B_) (e:F_),w.heap[b]? = some (.cells cur e)->ae+i+cs.length<=cur.size ->
  ∃lP,(ih w ⟨b,ae,none⟩ cs i).heap[b]? = some (.cells lP e)/\lP.size=cur.size/\(∀j,j<ae+i\/ae+i+cs.length<=j->lP[j]? = cur[j]?)/\∀j (h:j<cs.length),lP[ae+i+j]? = some cs[j]
 | [],w,b,ae,i,cur,e,an,_=>⟨cur,an,rfl,fun _ _=>rfl,fun j h=>absurd h (LC _)⟩
 | c :: cs,w,b,ae,i,cur,e,an,az=>by
  have aC:ae+i<cur.size:=by simp at az;omega
  have h1:=Ge an aC c;have kE:Addr.add ⟨b,0,none⟩ (ae+i)=Addr.add ⟨b,ae,none⟩ i:=by rw[add_eq,add_eq,AE9]
  rw[kE] at h1;obtain⟨lP,cq,cB,e5,hK⟩:=Sy cs _ b ae (i+1) _ e h1 (by simp at az ⊢;omega);refine⟨lP,cq,by simpa using cB,fun j mm=>?_,fun j h=>?_⟩
  .rw[e5 j (by simp at mm ⊢;omega),Array.getElem?_set_ne _ (by simp at mm;omega)]
  .cases j with
   | zero =>
    rw[AJ2,e5 (ae+i) Aw,Array.getElem?_set_self];rfl
   | succ j =>
    have:=hK j (by simpa using h)
    rw[show ae+i+(j+1)=ae+(i+1)+j from Aw,this];rfl
end a7
namespace Go.Proofs.R
open Go Go.RowKit a7
theorem DN{w:A_}{b j:Nat}{c:Array B_}{t:F_}{v:B_}(h:w.heap[b]? = some (.cells c t))(aC:c[j]? = some v):w.cell? ⟨b,j,none⟩=some v:=by
 simp[World.cell?,h,aC]
structure hs(w:World)(b:Nat)(l:List o.Node):Prop where
 ex:∃cur,w.heap[b]? = some (.cells cur T.e)/\2*l.length<=cur.size/\∀i (h:i<l.length),cur[2*i]? = some (.int .i64 l[i].op)/\cur[2*i+1]? = some (.int .i64 l[i].n)
theorem hs.mod{w w':A_}{b:Nat}{l:C_ o.Node}{A:Nat->Prop}(h:hs w b l)(hm:Mod A w w')(c4:¬A b):hs w' b l:=by
 obtain⟨cur,h1,I,ab⟩:=h.ex;exact⟨cur,hm.obj c4 h1,I,ab⟩
theorem hs.ext{w w':A_}{b:Nat}{l:C_ o.Node}(h:hs w b l)(he:Ext w w'):hs w' b l:=by
 obtain⟨cur,h1,I,ab⟩:=h.ex;exact⟨cur,he.obj h1,I,ab⟩
theorem hs.at_{w:A_}{b:Nat}{l:C_ o.Node}(h:hs w b l){i:Nat}(U:i<l.length):e7 w ⟨b,2*i,none⟩ l[i].enc:=by
 obtain⟨cur,h1,I,ab⟩:=h.ex;have e:(⟨b,2*i,none⟩:Addr)=Addr.add ⟨b,0,none⟩ (2*i):=by rw[add_eq,AE9]
 intro j v aC;obtain⟨cq,cB⟩:=ab i U;rw[e,add_eq,add_eq,AE9]
 match j,aC with
 | 0,aC =>
  have:v = .I l[i].op:=by simpa[o.Node.enc] using aC.symm
  subst this;exact DN h1 cq
 | 1,aC =>
  have:v = .I l[i].n:=by simpa[o.Node.enc] using aC.symm
  subst this;exact DN h1 cB
 | n+2,aC=>simp[o.Node.enc] at aC
theorem hs.take{w:A_}{b:Nat}{l:C_ o.Node}(h:hs w b l)(k:Nat):hs w b (l.take k):=by
 obtain⟨cur,h1,I,ab⟩:=h.ex;refine⟨cur,h1,by rw[LQ];omega,fun i U=>?_⟩;rw[LQ] at U
 have:=ab i Aw
 simpa using this
theorem hs.adu{w:A_}{b c:Nat}{l:C_ o.Node}(h:hs w b l)(ai:l.length<=c)(hm:c<=maxLen):bg 2 (Flat o.Node.enc) w (.slice (some ⟨b,0,none⟩) l.length c) l :=
 ⟨_,_,rfl,ai,hm,fun _=>rfl,fun a aU i U=>by
  injection aU with aU;subst aU
  have:=h.at_ U
  rw[show(⟨b,2*i,none⟩:Addr)=Addr.add ⟨b,0,none⟩ (i*2) from by rw[add_eq,AE9,AI2]] at this;exact this⟩
theorem hs.set{w:A_}{b i:Nat}{l:C_ o.Node}(h:hs w b l)(U:i<l.length)(x:o.Node):hs (ih w ⟨b,2*i,none⟩ x.enc 0) b (l.set i x):=by
 obtain⟨cur,h1,I,ab⟩:=h.ex;obtain⟨lP,cq,cB,e5,hK⟩:=Sy x.enc w b (2*i) 0 cur _ h1 (by simp[o.Node.enc];omega);refine⟨lP,cq,by rw[AE8,cB];exact I,fun j aC=>?_⟩;rw[AE8] at aC;have a0:=hK 0 (by simp[o.Node.enc]);have cZ:=hK 1 (by simp[o.Node.enc]);by_cases e:i=j
 .subst e;rw[AK2];simp only[Nat.add_zero,o.Node.enc] at a0 cZ;exact⟨a0,cZ⟩
 .rw[List.getElem_set_ne e,e5 _ (by simp[o.Node.enc];omega),e5 _ (by simp[o.Node.enc];omega)];exact ab j aC
theorem hs.cut{w:A_}{b k:Nat}{l:C_ o.Node}{zs:C_ B_}(h:hs w b l)(bw:2*k+zs.length<=2*l.length):hs (ih w ⟨b,2*k,none⟩ zs 0) b (l.take k):=by
 obtain⟨cur,h1,I,ab⟩:=h.ex;obtain⟨lP,cq,cB,e5,_⟩:=Sy zs w b (2*k) 0 cur _ h1 Aw;refine⟨lP,cq,by rw[LQ,cB];omega,fun j aC=>?_⟩;rw[LQ] at aC;rw[AI7,e5 _ Aw,e5 _ Aw];exact ab j Aw
theorem ata{P:D_}{ty:F_}{z:B_}(h:(P.info? ty).bind (·.zero)=some z)(w:A_):(zeroValue ty).run P w = .ok z w:=by
 cases U:P.info? ty with
 | none=>rw[U] at h;cases h
 | some i =>
  rw[U] at h;have I:i.zero=some z:=h;simp[zeroValue,tW U,I]
theorem aoh(x:o.Node):∀c∈x.enc.toArray.toList,c.oneCell'=true:=by simp[o.Node.enc,Value.oneCell']
theorem hs.free{w:A_}{b:Nat}{l:C_ o.Node}(h:hs w b l){j:Nat}(aC:j<2*l.length):(∃hz,w.cell? ⟨b,j,none⟩=some hz)/\w.frozen? ⟨b,j,none⟩=false:=by
 obtain⟨cur,h1,I,_⟩:=h.ex;exact⟨⟨cur[j]' Aw,DN h1 (Array.getElem?_eq_getElem Aw)⟩,by simp[World.frozen?,h1]⟩
theorem AD6{w:A_}{b i:Nat}{l:C_ o.Node}{x:o.Node}{a:Addr}{KW:A_->Prop}{t}(h:hs w b l)(aU:a=⟨b,2*i,none⟩)(U:i<l.length)(hk:∀w1,di b w w1->hs w1 b (l.set i x)->KW w1) :
  Ba 2 (.pointer (some a)) (.agg x.enc.toArray) w KW t:=by
 subst aU;refine _5 rfl (fun j aC=>?_) (aoh x) (hk _ (di.ih _ w ⟨b,2*i,none⟩ 0) (h.set U x));rw[add_eq];exact h.free Aw
theorem AD7{S:Fr}{w:A_}{b k n cap:Nat}{l:C_ o.Node}{x:G_}{aO:H_ Addr}{cK:B_->A_->Prop}{ty:F_}{t}(h:hs w b l)(af:bn S x = .slice aO n cap)(ax:k+n=l.length)(aU:0<n->aO=some ⟨b,2*k,none⟩)
  (hk:∀v w1,Mod (fun i=>i=b) w w1->hs w1 b (l.take k)->cK v w1):uh Tryz.prog (.call ⟨.builtin .clear,#[x],#[T.t]⟩) ty S w cK t:=by
 have bw:∀w:A_,(zeroValue T.e).run Tryz.prog w = .ok (.agg #[.I 0,.I 0]) w:=ata Cq;have hu:Tryz.prog.underlying T.t=some (.slice T.e):=Cq
 cases n with
 | zero =>
  refine _D (v:=.tuple #[]) (w':=w) ?_ (hk _ _ (Mod.refl _ _) (h.take k));cases aO<;>simp[execOp,resolve,invoke,builtin,af,Builtin.clear_,run_underlying hu]
 | succ n =>
  obtain rfl:=aU Aw;refine _D (v:=.tuple #[]) (w':=ih w ⟨b,2*k,none⟩ (Builtin.zeroCells #[.I 0,.I 0] (n+1)).toList 0) ?_ (hk _ _ ((di.ih _ w ⟨b,2*k,none⟩ 0).mod rfl) (h.cut ?_))
  .have ak:=Ga Tryz.prog ⟨b,2*k,none⟩ (Builtin.zeroCells #[.I 0,.I 0] (n+1)).toList 0 w (fun j aC=>?_) ?_
   .simp[execOp,resolve,invoke,builtin,af,Builtin.clear_,run_underlying hu,bw,Value.cells,ak]
   .rw[add_eq];exact h.free (by simp[Builtin.zeroCells] at aC;omega)
   .intro c ai;simp only[Builtin.zeroCells,Array.toList_map,List.mem_map] at ai;obtain⟨i,_,rfl⟩:=ai;show((#[Value.int .i64 0,.I 0]:Array B_)[i % 2]!).oneCell'=true;rcases AL3 i with e | e<;>rw[e]<;>rfl
  .simp[Builtin.zeroCells];omega
theorem HB(x y:Int):r1 [.i,.i] [.I x,.I y]:=⟨⟨_,rfl⟩,⟨_,rfl⟩,trivial⟩
theorem Xx{x y:o.Node}:x.enc=y.enc↔x.op=y.op/\x.n=y.n:=by simp[o.Node.enc]
theorem agX(b c:Nat)(l:C_ o.Node)(w:A_)(h:hs w b l)(ai:l.length<=c)(hm:c<=maxLen) :
  Dz F.ae #[.slice (some ⟨b,0,none⟩) l.length c] w fun v w'=>v = .slice (some ⟨b,0,none⟩) (o.comp l).length c/\hs w' b (o.comp l)/\Mod (fun i=>i=b) w w':=by
 have dv:=o.N7 l;unfold maxLen at hm;refine vr E.ae ?_;refine nV ?_;refine J ?_;apply I_<;>intro g1
 .have e:=o.W1 (l:=l) Aw;refine J ?_;exact⟨by rw[e],by rw[e];exact h,Mod.refl _ _⟩
 refine J ?_;refine _P [0] (fun k:Nat=>[(3,.I k)]) 1 (fun k W=>1<=k/\k<=l.length/\o.comp (l.take k)=l.take k/\Ext w W) (fun k=>l.length - k) a8 ⟨Aw,Aw,o.agV,Ext.refl _⟩ ?_;rintro k S w1 ⟨zN,cI,rh,ah⟩;have mU:=h.ext ah;have BQ:=mU.adu ai hm;refine J ?_;apply I_<;>intro g2;rotate_left
 .have jw:k=l.length:=Aw
  rw[jw,AF1] at rh;refine J ?_;exact⟨by rw[rh],by rw[rh];exact mU,ah.mod⟩
 have nB:k<l.length:=Aw
 refine J ?_;refine K_ (k - 1) Aw Aw ?_;refine J ?_;refine AB3 (sig:=[.i,.i]) Cq (HB _ _) (HB _ _) fun r aG=>?_;rw[Xx] at aG;refine J ?_;intro aB aj;have ka:=mU.ext aj;have e2:=ah.trans aj;cases r with
 | false =>
  have b8:¬(l[k - 1].op=l[k].op/\l[k - 1].n=l[k].n):=fun e=>by have:=aG.2 ⟨e.1.symm,e.2.symm⟩;cases this
  have ak8:o.comp (l.take (k+1))=l.take (k+1):=by rw[o.Oa zN nB,if_neg b8,rh,L1 nB]
  refine J ?_;exact⟨k+1,⟨aL,trivial⟩,⟨Aw,Aw,ak8,e2⟩,Aw⟩
 | true =>
  obtain⟨cO,de⟩:=aG.1 rfl;have zP:o.comp (l.take (k+1))=l.take k:=by rw[o.Oa zN nB,if_pos ⟨cO.symm,de.symm⟩,rh]
  have lU:¬c=k:=Aw
  clear BQ;refine J ?_;refine _B k l.length c (by simp[et,c0,bL]) (by simp[et]) (by simp[et]) ⟨Aw,ai,Gf _⟩ Bh ?_;rw[if_neg lU,AG6];refine J ?_;refine _P [0,4] (fun x:Nat×Nat×C_ o.Node=>[(3,.I x.1),(5,.I x.2.1)]) (k,1,l) (fun x W=>1<=x.2.1/\k+x.2.1<=l.length/\1<=x.1/\x.1+1<=k+x.2.1/\x.2.2.length=l.length/\hs W b x.2.2/\Mod (fun i=>i=b) w W/\x.2.2.take x.1=o.comp (l.take (k+x.2.1))/\∀j,x.1<=j->x.2.2[j]? = l[j]?) (fun x=>l.length - (k+x.2.1)) a8 ⟨Gf _,by simp only;omega,zN,Gf _,rfl,ka,e2.mod,zP.symm,fun _ _=>rfl⟩ ?_;rintro⟨kt,cB,R⟩ Hb aK ⟨jP,hJ,wJ,am3,Ad,uV,yx,ru,uW⟩;dsimp only at jP hJ wJ am3 Ad uV yx ru uW ⊢;refine J ?_;apply I_<;>intro g3
  .have fJ:k+cB<l.length:=Aw
   have ni:∀i,(Addr.add ⟨b,0,none⟩ (k*2)).add (i*2)=⟨b,2*(k+i),none⟩:=fun i=>by
    rw[add_eq,add_eq];congr 1;omega
   have jW:R[k+cB]' Aw=l[k+cB]:=by
    have:=uW (k+cB) Aw
    rw[List.getElem?_eq_getElem Aw,List.getElem?_eq_getElem Aw] at this;injection this
   have kQ:R[k+cB - 1]' Aw=l[k+cB - 1]:=by
    have:=uW (k+cB - 1) Aw
    rw[List.getElem?_eq_getElem Aw,List.getElem?_eq_getElem Aw] at this;injection this
   have d1:e7 aK ((Addr.add ⟨b,0,none⟩ (k*2)).add (cB*2)) l[k+cB].enc:=by
    rw[ni,<-jW];exact uV.at_ _
   have d2:e7 aK ((Addr.add ⟨b,0,none⟩ (k*2)).add ((cB - 1)*2)) l[k+cB - 1].enc:=by
    rw[ni,<-kQ,show k+(cB - 1)=k+cB - 1 from Aw];exact uV.at_ _
   have yf:=o.Oa (l:=l) (n:=k+cB) Aw fJ;refine J ?_;refine K_ (cB - 1) Aw Aw ?_;refine J ?_;refine _9 (sig:=[.i,.i]) Cq (HB _ _) (HB _ _) fun r aG=>?_;rw[ne_eq,Xx] at aG;refine J ?_;intro aR aw;have aaS:=uV.ext aw;have atU:=d1.ext aw;cases r with
   | false =>
    have heq:l[k+cB - 1].op=l[k+cB].op/\l[k+cB - 1].n=l[k+cB].n:=Classical.byContradiction fun e=>by have:=aG.2 (fun e2=>e ⟨e2.1.symm,e2.2.symm⟩);cases this
    rw[if_pos heq] at yf;refine J ?_;refine⟨(kt,cB+1,R),⟨aL,aL,trivial⟩,⟨by simp only;omega,by simp only;omega,wJ,by simp only;omega,Ad,aaS,yx.trans aw.mod,?_,uW⟩,by simp only;omega⟩;simp only;rw[<-AI4,yf,ru]
   | true =>
    have b8:¬(l[k+cB - 1].op=l[k+cB].op/\l[k+cB - 1].n=l[k+cB].n):=fun e=>(aG.1 rfl) ⟨e.1.symm,e.2.symm⟩;rw[if_neg b8] at yf;refine J ?_;refine AD6 (i:=kt) aaS (by rw[add_eq,AE9,AI2]) Aw fun bo e4 Qh=>?_;refine J ?_;refine⟨(kt+1,cB+1,R.set kt l[k+cB]),⟨aL,aL,trivial⟩,⟨by simp only;omega,by simp only;omega,by simp only;omega,by simp only;omega,by rw[AE8];exact Ad,Qh,(yx.trans aw.mod).trans (e4.mod rfl),?_,fun j aC=>?_⟩,by simp only;omega⟩
    .simp only;rw[<-AI4,yf,<-ru,L1 (by rw[AE8];omega),AK2,List.take_set_of_le (Gf _)]
    .simp only at aC;rw[List.getElem?_set_ne Aw];exact uW j Aw
  .have P8:k+cB=l.length:=Aw
   rw[P8,AF1] at ru;have oh:(o.comp l).length=kt:=by rw[<-ru,LQ];omega
   refine J ?_;refine _B kt l.length c (by simp[et,c0,bL]) (by simp[et]) (by simp[et]) ⟨Aw,ai,Gf _⟩ Bh ?_;rw[if_neg (show ¬c=kt by omega),AG6];refine J ?_;refine AD7 (k:=kt) uV (by simp only[c0,bL];rfl) Aw (fun _=>by rw[add_eq,AE9,AI2]) fun v aR jM nC=>?_;rw[ru] at nC;refine J ?_;refine _B 0 kt c (by simp[et]) (by simp[et,c0,bL]) (by simp[et]) ⟨Aw,Aw,Gf _⟩ Bh ?_;rw[if_neg (show ¬c=0 by omega),AG6];refine J ?_;exact⟨by rw[oh,add_eq];rfl,nC,yx.trans jM⟩
end Go.Proofs.R
end
section
namespace Go.Proofs
open Go.Shelf
def Tryz.arK:Go.Shelf.Ren:=⟨fun | 6=>193 | 15=>245 | 14=>244 | 28=>286 | 29=>287 | 20=>278 | 21=>279 | 22=>280 | 23=>281 | 24=>282 | 25=>283 | 26=>284 | 27=>285 | 46=>306 | 47=>307 | 48=>308 | 49=>309 | 50=>310 | 57=>316 | n=>n,fun | 22=>57 | 24=>72 | 25=>260 | 3=>3 | 39=>169 | 0=>0 | 53=>337 | 55=>52 | 4=>4 | 46=>331 | 45=>330 | 50=>249 | 5=>5 | 9=>9 | 66=>346 | 70=>350 | 76=>355 | 77=>89 | n=>n,fun | n=>n⟩
theorem Tryz.adv:Go.Proofs.SlLaysF0.n6 Tryz.prog Tryz.arK:={
 mixed:=Cq
 f6:=⟨Tryz.f193.name,BJ,Tryz.func193.trans (congrArg some Cq)⟩
 f14:=⟨Tryz.f244.name,BJ,Tryz.func244.trans (congrArg some Cq)⟩
 f15:=Tryz.func245.trans (congrArg some Cq)
 f20:=⟨Tryz.f278.name,BJ,Tryz.func278.trans (congrArg some Cq)⟩
 f21:=⟨Tryz.f279.name,BJ,Tryz.func279.trans (congrArg some Cq)⟩
 f22:=⟨Tryz.f280.name,BJ,Tryz.func280.trans (congrArg some Cq)⟩
 f23:=⟨Tryz.f281.name,BJ,Tryz.func281.trans (congrArg some Cq)⟩
 f24:=⟨Tryz.f282.name,BJ,Tryz.func282.trans (congrArg some Cq)⟩
 f25:=⟨Tryz.f283.name,BJ,Tryz.func283.trans (congrArg some Cq)⟩
 f26:=⟨Tryz.f284.name,BJ,Tryz.func284.trans (congrArg some Cq)⟩
 f27:=⟨Tryz.f285.name,BJ,Tryz.func285.trans (congrArg some Cq)⟩
 f28:=Tryz.func286.trans (congrArg some Cq)
 f29:=Tryz.func287.trans (congrArg some Cq)
 f46:=⟨Tryz.f306.name,BJ,Tryz.func306.trans (congrArg some Cq)⟩
 f47:=Tryz.func307.trans (congrArg some Cq)
 f48:=Tryz.func308.trans (congrArg some Cq)
 f49:=⟨Tryz.f309.name,BJ,Tryz.func309.trans (congrArg some Cq)⟩
 f50:=⟨Tryz.f310.name,BJ,Tryz.func310.trans (congrArg some Cq)⟩
 f57:=⟨Tryz.f316.name,BJ,Tryz.func316.trans (congrArg some Cq)⟩
 t0:=Tryz.underlying0
 a0:=Tryz.isAgg0
 z0:=Tryz.sizeOf0
 v0:=Tryz.zeroValue0
 t3:=Tryz.underlying3
 a3:=Tryz.isAgg3
 z3:=Tryz.sizeOf3
 v3:=Tryz.zeroValue3
 t4:=Tryz.underlying4
 a4:=Tryz.isAgg4
 z4:=Tryz.sizeOf4
 v4:=Tryz.zeroValue4
 t5:=Tryz.underlying5
 a5:=Tryz.isAgg5
 z5:=Tryz.sizeOf5
 v5:=Tryz.zeroValue5
 t9:=Tryz.underlying9
 a9:=Tryz.isAgg9
 z9:=Tryz.sizeOf9
 v9:=Tryz.zeroValue9
 t22:=Tryz.underlying57
 a22:=Tryz.isAgg57
 z22:=Tryz.sizeOf57
 v22:=Tryz.zeroValue57
 t25:=Tryz.underlying260
 a25:=Tryz.isAgg260
 z25:=Tryz.sizeOf260
 v25:=Tryz.zeroValue260
 t39:=Tryz.underlying169
 a39:=Tryz.isAgg169
 z39:=Tryz.sizeOf169
 v39:=Tryz.zeroValue169
 t45:=Tryz.underlying330
 a45:=Tryz.isAgg330
 z45:=Tryz.sizeOf330
 v45:=Tryz.zeroValue330
 t46:=Tryz.underlying331
 a46:=Tryz.isAgg331
 z46:=Tryz.sizeOf331
 v46:=Tryz.zeroValue331
 t50:=Tryz.underlying249
 a50:=Tryz.isAgg249
 z50:=Tryz.sizeOf249
 v50:=Tryz.zeroValue249
 t53:=Tryz.underlying337
 a53:=Tryz.isAgg337
 z53:=Tryz.sizeOf337
 v53:=Tryz.zeroValue337
 t55:=Tryz.underlying52
 a55:=Tryz.isAgg52
 z55:=Tryz.sizeOf52
 v55:=Tryz.zeroValue52
 t66:=Tryz.underlying346
 a66:=Tryz.isAgg346
 z66:=Tryz.sizeOf346
 v66:=Tryz.zeroValue346
 t70:=Tryz.underlying350
 a70:=Tryz.isAgg350
 z70:=Tryz.sizeOf350
 v70:=Tryz.zeroValue350
 t76:=Tryz.underlying355
 a76:=Tryz.isAgg355
 z76:=Tryz.sizeOf355
 v76:=Tryz.zeroValue355
 t77:=Tryz.underlying89
 a77:=Tryz.isAgg89
 z77:=Tryz.sizeOf89
 v77:=Tryz.zeroValue89 }
end Go.Proofs
end
section
namespace Go.Proofs.R
open Go Go.RowKit Go.Sort Go.Shelf Go.Lib
theorem asA(x y:o.Node)(W:A_):Calls Tryz.prog 194 #[.agg #[.I x.op,.I x.n],.agg #[.I y.op,.I y.n]] W fun e w'=>e = .returned (.I (o.Cz x y))/\∃q ao3,w'=grow (W.drewN q) ao3:=by
 go_enter Tryz.func194,Tryz.ntmps194
 go_wp2
 all_goals go_ret
 all_goals refine⟨?_,0,_,by rw[alloc_eq_grow,alloc_eq_grow,grow_grow];rfl⟩
 all_goals (congr 2;unfold o.Cz;repeat' split)
 all_goals first | omega | rfl
theorem aor:SWO (ltOf o.Cz) where
 irrefl x:=by
  have:=o.aom x
  rw[<-o.Lo] at this;simpa[ltOf] using this
 trans x y z h1 I:=by
  simp only[ltOf,decide_eq_true_eq] at h1 I ⊢;rw[o.Lo] at *;exact o.aon x y z h1 I
 ntrans x y z h1 I:=by
  simp only[ltOf,decide_eq_false_iff_not] at h1 I ⊢;rw[o.Lo] at *;unfold o.nI at *;omega
instance:Inhabited o.Node:=⟨⟨0,0⟩⟩
theorem apM{w:A_}{b:Nat}{cur:Array B_}{e:F_}{d:Array B_}(h:w.heap[b]? = some (.cells cur e)):(putRow id w b 0 d).heap[b]? = some (.cells (putCells id 0 d cur) e):=by
 unfold putRow mapBlock;simp only[Array.getElem?_modify,if_true,h,Option.map_some,onCells]
theorem apN{w:A_}{b k:Nat}{d:Array B_}(h:k≠b):(putRow id w b 0 d).heap[k]? = w.heap[k]? := by
 unfold putRow mapBlock;simp only[Array.getElem?_modify];rw[if_neg (fun e=>h e.symm)]
theorem ack{w:A_}{b:Nat}{d:Array B_}:(putRow id w b 0 d).heap.size=w.heap.size:=by
 unfold putRow mapBlock;simp
theorem X0{d:Array o.Node}{i:Nat}(h:i<d.size):(flatK o.Node.enc 2 d)[2*i]! = .I d[i].op/\(flatK o.Node.enc 2 d)[2*i+1]! = .I d[i].n:=by
 constructor
 .rw[get_flatK _ _ _ _ Aw,show 2*i / 2=i from Aw,show 2*i % 2=0 from Aw,getElem!_pos _ i h];rfl
 .rw[get_flatK _ _ _ _ Aw,show(2*i+1) / 2=i from Aw,show(2*i+1) % 2=1 from Aw,getElem!_pos _ i h];rfl
theorem arL{w:A_}{b n:Nat}{l:C_ o.Node}{d:Array o.Node}{os:Array Obj}(h:hs w b l)(a6:d.size=l.length):hs (sortWorldK o.Node.enc 2 w b 0 n d os) b d.toList/\a7.Mod (fun i=>i=b) w (sortWorldK o.Node.enc 2 w b 0 n d os):=by
 obtain⟨cur,h1,I,ab⟩:=h.ex;have b4:=a7.cr h1;have q5:(Sort.ahead w n).heap[b]? = some (.cells cur T.e):=h1;have aH:∀k,k<w.heap.size->(sortWorldK o.Node.enc 2 w b 0 n d os).heap[k]? = (putRow id (Sort.ahead w n) b 0 (flatK o.Node.enc 2 d)).heap[k]? := fun k hk=>by
  unfold sortWorldK grow putRowK;exact Array.getElem?_append_left (by rw[ack];exact hk)
 constructor
 .refine⟨_,(aH b b4).trans (apM q5),by simp[putCells];omega,fun i U=>?_⟩;have cw:i<d.size:=by simpa using U
  obtain⟨f1,f2⟩:=X0 cw;simp only[putCells,Array.getElem?_mapIdx,size_flatK,Array.getElem_toList];constructor
  .rw[Array.getElem?_eq_getElem (show 2*i<cur.size by omega),AG6,if_pos Aw,Nat.sub_zero,f1];rfl
  .rw[Array.getElem?_eq_getElem (show 2*i+1<cur.size by omega),AG6,if_pos Aw,Nat.sub_zero,f2];rfl
 .refine⟨rfl,rfl,rfl,?_,fun k hk ax=>(aH k hk).trans (apN ax)⟩;unfold sortWorldK grow putRowK;rw[Array.size_append,ack];exact Nat.le_add_right _ _
theorem arz{P:D_}{t:F_}{k:Nat}(h:(P.info? t).map (·.size)=some k)(w:A_):(Go.sizeOf t).run P w = .ok k w:=by
 cases U:P.info? t with
 | none=>rw[U] at h;cases h
 | some i =>
  rw[U] at h;have I:i.size=k:=by simpa using h
  simp[Go.sizeOf,a7.tW U,I]
theorem arJ(b c:Nat)(l:C_ o.Node)(w:A_)(h:hs w b l)(az:l.length<=1000000) :
  a7.aW Tryz.prog F.gs #[.slice (some ⟨b,0,none⟩) l.length c,.func (.func F.gt) #[] #[]] w fun _ w' => ∃r:C_ o.Node,r.Perm l/\r.Pairwise (fun x y => ¬o.nI y x)/\hs w' b r/\a7.Mod (fun i=>i=b) w w':=by
 obtain⟨cur,h1,I,ab⟩:=h.ex;have PF:=AnyQ.slices_SortFunc Tryz.adv 2 (fun w=>a7.yM (t:=T.e) (b:=true) Cq w) (fun w=>arz (t:=T.e) Cq w) o.Node.enc (fun _=>rfl) (fun x v aD=>by simp[o.Node.enc] at aD;rcases aD with rfl | rfl<;>rfl) o.Cz aor F.gt #[] b 0 c l.toArray w
  (enters_of Tryz.func194 Cq rfl) (fun _ _ _ _ x y=>asA x y _) ?_ (a7.cr h1) (by simp;omega)
 .change Calls Tryz.prog F.gs _ _ _ at PF;simp only[List.size_toArray] at PF;refine Calls.mono PF ?_;rintro e w' ⟨rfl,vN,n,os,aq,ak,rfl⟩;have dd:vN.size=l.length:=by simpa using aq.1
  obtain⟨cq,cB⟩:=arL (n:=n) (os:=os) h dd;refine⟨_,rfl,vN.toList,?_,?_,cq,cB⟩
  .have:=aq.2.2
   rw[show vN.extract 0 l.length=vN from by rw[<-dd];simp,show l.toArray.extract 0 l.length=l.toArray from Bh] at this;simpa using this
  .rw[List.pairwise_iff_getElem];intro i j U aC B9;have cw:i<vN.size:=by simpa using U
   have en:j<vN.size:=by simpa using aC
   have:=ak i j (AG0 _) B9 Aw
   rw[getElem!_pos _ i cw,getElem!_pos _ j en] at this;simp only[ltOf,decide_eq_false_iff_not] at this;rw[o.Lo] at this;simpa using this
 .unfold HoldsK Holds;intro j aC;rw[size_flatK] at aC;have mm:j<2*l.length:=by simp at aC;omega
  have U:j / 2<l.length:=Aw
  obtain⟨f1,f2⟩:=X0 (d:=l.toArray) (i:=j / 2) (by simpa using U);obtain⟨g1,g2⟩:=ab (j / 2) U;have qs:w.frozen? ⟨b,0+j,none⟩=false:=by simp[World.frozen?,h1]
  refine⟨?_,qs⟩;rw[AE9];rcases AL3 j with e | e
  .have r4:2*(j / 2)=j:=Aw
   rw[r4] at f1 g1;rw[f1];exact DN h1 (by simpa using g1)
  .have r4:2*(j / 2)+1=j:=Aw
   rw[r4] at f2 g2;rw[f2];exact DN h1 (by simpa using g2)
end Go.Proofs.R
end
section
namespace o
open Go
def yR(e:C_ Node):C_ Node:=e.filter fun x=>tZ x.op
theorem arV{e:C_ Node}{k:Nat}(h:k<e.length):yR (e.take (k+1))=yR (e.take k)++if tZ e[k].op then [e[k]] else []:=by
 unfold yR;rw[L1 h,AK5];cases ak:tZ e[k].op<;>simp[ak]
theorem adA(e:C_ Node):(yR e).length<=e.length:=AK6 _ _
theorem adY{e s:C_ Node}(aq:s.Perm (yR e))(ak:s.Pairwise fun x y => ¬nI y x):Hd e (comp s):=by
 refine⟨W2 s ak,fun x=>?_⟩;rw[N8,aq.mem_iff];unfold yR;rw[AL0]
end o
namespace Go.Proofs.R
open Go Go.RowKit a7
theorem aop(x:o.Node):∀u∈x.enc,u.oneCell'=true:=by simp[o.Node.enc,Value.oneCell']
theorem XY:∀(l:C_ o.Node) (i:Nat) (h:i<l.length),(l.flatMap o.Node.enc)[2*i]? = some (.I l[i].op)/\(l.flatMap o.Node.enc)[2*i+1]? = some (.I l[i].n)
 | x :: l,0,_=>⟨rfl,rfl⟩
 | x :: l,i+1,h=>by
  have fb:=XY l i (by simpa using h);rw[show 2*(i+1)=2*i+2 from Aw,show 2*i+2+1=(2*i+1)+2 from Aw];exact fb
theorem aot{w:A_}{base:Nat}{v:B_}{l:C_ o.Node}(h:aP o.Node.enc T.e 2 base w v l)(az:l≠[]):∃b c,v = .slice (some ⟨b,0,none⟩) l.length c/\base<=b/\hs w b l/\l.length<=c/\c<=maxLen:=by
 rcases h.2 with ⟨_,ad⟩ | ⟨g,cap,cur,h1,I,ab,aE,aY,bz,b0⟩
 .exact absurd (AG1 ad) az
 .refine⟨g,cap,h1,I,⟨cur,ab,Aw,fun i U=>?_⟩,aE,aY⟩;have get:∀j,j<2*l.length->cur[j]? = (l.flatMap o.Node.enc)[j]? := fun j aC=>by
   rw[<-b0,List.getElem?_take_of_lt Aw,Array.getElem?_toList]
  rw[get _ Aw,get _ Aw];exact XY l i U
structure Nh(w:World)(base:Nat)(v:Value)(l:List o.Node):Prop where
 ex:(l=[]/\∃p c,v = .slice p 0 c/\c<=maxLen)\/∃b c,v = .slice (some ⟨b,0,none⟩) l.length c/\base<=b/\hs w b l/\l.length<=c/\c<=maxLen
theorem arI(p:H_ Addr)(c:Nat)(w:A_):Dz F.gs #[.slice p 0 c,.func (.func F.gt) #[] #[]] w fun _ w'=>Ext w w':=by
 have h:=AnyF.slices_SortFunc_none Tryz.adv p c (.func (.func F.gt) #[] #[]) w;change Calls Tryz.prog F.gs _ _ _ at h;refine Calls.mono h ?_;rintro e w' ⟨rfl,rfl⟩;exact⟨_,rfl,Ext.refl _⟩
theorem agW(p:H_ Addr)(c:Nat)(w:A_):Dz F.ae #[.slice p 0 c] w fun v w'=>v = .slice p 0 c/\Ext w w':=by
 refine vr E.ae ?_;refine nV ?_;refine J ?_;exact⟨aL,Ext.refl _⟩
theorem asD(v:B_)(e:C_ o.Node)(w:A_)(h:o.eL w v e)(az:e.length<=1000000) :
  Dz F.HY #[v] w fun u w'=>(∃r,o.Hd e r/\Nh w' w.heap.size u r)/\Ext w w':=by
 obtain⟨aO,fz,rfl,_⟩:=h.form;refine bl E.HY ?_;refine J ?_;refine L_ 8 e.length [2,6,7] (fun u:B_=>[(3,u)]) (.slice none 0 0) (fun k u W=>aP o.Node.enc T.e 2 w.heap.size W u (o.yR (e.take k))/\Ext w W) a8 a8 ⟨aP.nil _ _ _ _ _,Ext.refl _⟩ ?_;rintro k u S w1 hk ⟨hu,ah⟩;refine J ?_;apply I_<;>intro g1
 .have cI:k<e.length:=Aw
  obtain⟨a,rfl⟩:=h.addr;have af:=(h.at k cI).cells.ext ah;obtain⟨u6,tc,rfl,_⟩:=hu.form;have kb:=o.adA (e.take k);have fS:=o.arV cI;unfold o.Node.enc at af;rw[LQ] at kb;refine dO ?_;simp -dsimp only[cu];refine dO ?_;simp -dsimp only[cu];refine dO ?_;intro aB dE kI aj bY;have QL:=hu.ext aj;have e2:=ah.trans aj;simp -dsimp only[cu];refine dO ?_;refine S_ [2,3,5,6,7,8] (fun t:Bool=>[(14,.bool t)]) (fun t W=>t=o.tZ e[k].op/\W=aB) ?_ ?_
  .have sp:∀b,(b=true↔(e[k].op=2\/e[k].op=3\/e[k].op=4\/e[k].op=6\/e[k].op=7))->b=o.tZ e[k].op:=fun b an=>by
    unfold o.tZ;cases b with
    | true=>exact(decide_eq_true (an.1 rfl)).symm
    | false=>exact(decide_eq_false fun q=>by have:=an.2 q;cases this).symm
   refine J ?_;apply I_<;>intro g2
   .refine J ?_;exact⟨_,⟨aL,trivial⟩,sp _ (by simp[g2]),aL⟩
   refine J ?_;apply I_<;>intro g3
   .refine J ?_;exact⟨_,⟨aL,trivial⟩,sp _ (by simp[g3]),aL⟩
   refine J ?_;apply I_<;>intro g4
   .refine J ?_;exact⟨_,⟨aL,trivial⟩,sp _ (by simp[g4]),aL⟩
   refine J ?_;apply I_<;>intro g5
   .refine J ?_;exact⟨_,⟨aL,trivial⟩,sp _ (by simp[g5]),aL⟩
   refine J ?_;exact⟨_,⟨aL,trivial⟩,sp _ (by simp[g2,g3,g4,g5]),aL⟩
  rintro t kU aK ⟨rfl,rfl⟩;refine J ?_;cases yq:o.tZ e[k].op with
  | true =>
   rw[yq,if_pos rfl] at fS;refine J ?_;intro aR atB aug aw zG;refine J ?_;refine U_ (y:=e[k]) (QL.ext aw) zG rfl (fun _=>rfl) aop Aw (by unfold maxLen;omega) (by have:=aw.size;have:=e2.size;omega) fun aO n c bo dt gT=>?_;have aF:=aP.k2 (QL.ext aw) (e2.trans aw) gT (Gf _);refine J ?_;refine⟨cI,aL,_,⟨rfl,trivial⟩,?_,aF⟩;rw[fS];exact dt
  | false =>
   rw[yq,if_neg Bh,AF2] at fS;refine J ?_;refine⟨cI,aL,_,⟨aL,trivial⟩,?_,e2⟩;rw[fS];exact QL
 .have jw:k=e.length:=Aw
  rw[jw,AF1] at hu;have kb:=o.adA e;by_cases ax:o.yR e=[]
  .rw[ax] at hu;obtain⟨u6,tc,rfl,_⟩:=hu.form;have akw:tc<=maxLen:=by
    obtain⟨kN,cap,h1,_,ab,_⟩:=(aP.jg (enc:=o.Node.enc) (fun _=>rfl) hu).ex;injection h1 with _ _ h1
    omega
   have aml:o.Hd e (o.comp []):=o.adY (s:=[]) (by rw[ax]) List.Pairwise.nil;refine J ?_;refine J_ (arI u6 tc w1) ?_;rintro _ aB aj;refine J ?_;refine J_ (agW u6 tc aB) ?_;rintro _ aK ⟨rfl,ag⟩;refine J ?_;exact⟨⟨_,aml,⟨.inl ⟨rfl,u6,tc,rfl,akw⟩⟩⟩,(ah.trans aj).trans ag⟩
  .obtain⟨b,c,rfl,an,aG,ai,hm⟩:=aot hu ax;refine J ?_;refine J_ (arJ b c _ w1 aG Aw) ?_;rintro _ aB ⟨s,aq,ak,ka,fJ⟩;have amf:=aq.length_eq;have dv:=o.N7 s;rw[<-amf];refine J ?_;refine J_ (agX b c s aB ka Aw hm) ?_;rintro _ aK ⟨rfl,al1,iY⟩;refine J ?_;exact⟨⟨_,o.adY aq ak,⟨.inr ⟨b,c,rfl,an,al1,Aw,hm⟩⟩⟩,(fJ.trans iY).ext ah fun i U e=>Aw⟩
end Go.Proofs.R
end
section
namespace o
open Go
theorem asy{m:Model}{x:Node}(h:tZ x.op=false):gA m 0 false x=[]:=by
 unfold tZ at h;have h:=of_decide_eq_false h;unfold gA;rw[if_neg Aw,if_neg Aw,if_neg Aw,if_neg Aw,if_neg Aw]
theorem asC{m:Model}{e r:C_ Node}(h:Hd e r)(z:Int):z∈r.flatMap (gA m 0 false)↔z∈FX m e:=by
 unfold FX;simp only[List.mem_flatMap];constructor
 .rintro⟨x,af,bw⟩;exact⟨x,((h.mem x).1 af).1,bw⟩
 .rintro⟨x,af,bw⟩;cases ak:tZ x.op with
  | false=>rw[asy ak] at bw;cases bw
  | true=>exact⟨x,(h.mem x).2 ⟨af,ak⟩,bw⟩
def yN(m:Model)(k:Nat):C_ Int:=(m.props.take k).flatMap fun p=>FX m p.expr
theorem arl{m:Model}{k:Nat}(h:k<m.props.length):yN m (k+1)=yN m k++FX m m.props[k].expr:=by
 unfold yN;rw[L1 h,AH1];simp
theorem ark(m:Model):yN m m.props.length=vb m:=by unfold yN vb;rw[AF1]
end o
namespace Go.Proofs.R
open Go Go.RowKit a7
theorem Nh.form{w:A_}{base:Nat}{v:B_}{r:C_ o.Node}(h:Nh w base v r):∃aO c,v = .slice aO r.length c/\(0<r.length->∃b,aO=some ⟨b,0,none⟩/\base<=b/\hs w b r/\r.length<=c/\c<=maxLen):=by
 rcases h.ex with ⟨rfl,p,c,rfl,_⟩ | ⟨b,c,rfl,an,aG,ai,hm⟩
 .exact⟨p,c,rfl,fun h=>absurd h (Nat.lt_irrefl _)⟩
 .exact⟨_,c,rfl,fun _=>⟨b,rfl,an,aG,ai,hm⟩⟩
theorem Rs{a b c d e:H_ Addr}{jy ke o5 tJ n5 c1 c2 bp bB zf:Nat}{n:Int}:∀x∈(#[.slice a jy c1,.slice b ke c2,.slice c o5 bp,.I n,.slice d tJ bB,.slice e n5 zf]:Array B_).toList,x.oneCell'=true:=by simp[Value.oneCell']
theorem ars(cs:C_ B_)(m:o.Model)(w:A_)(h:o.dU w cs m)(aH:m.cA)(aJ:gF w) :
  Dz F.n1 #[.agg cs.toArray] w fun u w'=>(∃b n,((o.oy m=[]/\n=0/\u = .slice none 0 0)\/u = .slice (some ⟨b,0,none⟩) n n/\n=(o.oy m).length/\w.heap.size<=b/\w'.heap[b]? = some (.cells (nW (o.oy m)).toArray T.m)))/\Ext w w':=by
 have cX:=h;obtain⟨bW,bu,bI,c1,bO,c2,bQ,bp,bZ,bB,rfl,ad,h1,I,ab,aE,eU,eh,eo,dY,ew⟩:=h.form;refine bl E.n1 ?_;refine J ?_;intro w1 br cF ah al;refine J ?_;refine J_ (yy _ m w1 (cX.ext ah) aH (aJ.ext ah)) ?_;rintro _ aB ⟨rfl,aj⟩;replace al:=aj.obj al;have e2:=ah.trans aj;refine J ?_;refine _K (v:=.I (o.check m).cC) rfl ?_;refine J ?_;apply I_<;>intro g1;rotate_left
 .have e:o.oy m=[]:=by unfold o.oy;rw[if_neg g1]
  refine J ?_;exact⟨⟨0,0,.inl ⟨e,rfl,aL⟩⟩,e2⟩
 have lu:=o.iu g1;have P9:o.lay m=o.layout m:=by unfold o.lay;rw[if_pos g1]
 refine dO ?_;refine S_ [1] (fun x:Nat×B_=>[(3,.pointer (some ⟨x.1,0,none⟩)),(4,x.2)]) (fun x W => ∃ys:C_ B_,W.heap[x.1]? = some (.cells ys.toArray T.h)/\o.ky W ys (o.layout m)/\kk W x.2 (o.insts m)/\Ext aB W) ?_ ?_
 .have EY:∀{W},Ext aB W->Dz F.l #[.agg #[.slice bW m.scalars.length bu,.slice bI m.vars.length c1,.slice bO m.ar.length c2,.slice bQ m.procs.length bp,.slice bZ m.props.length bB]] W fun v w'=>(∃eB d0 dB d1 ec d2 er d3 eN d4,v = .agg #[.slice eB (o.layout m).vars.length d0,.slice dB (o.layout m).ar.length d1,.slice ec (o.layout m).insts.length d2,.I (o.layout m).cells,.slice er (o.layout m).aQ.length d3,.slice eN (o.layout m).U.length d4]/\ed W (fun w=>o.ky w [.slice eB (o.layout m).vars.length d0,.slice dB (o.layout m).ar.length d1,.slice ec (o.layout m).insts.length d2,.I (o.layout m).cells,.slice er (o.layout m).aQ.length d3,.slice eN (o.layout m).U.length d4] (o.layout m)) w')/\Ext W w':=fun {W} he=>(FA _ m W (cX.ext (e2.trans he)) aH (aJ.ext (e2.trans he))).mono fun v w' ⟨⟨xs,aD,ax⟩,iG⟩=>by
   rw[P9] at ax;obtain⟨eB,d0,dB,d1,ec,d2,er,d3,eN,d4,rfl,_⟩:=ax.here.form;exact⟨⟨eB,d0,dB,d1,ec,d2,er,d3,eN,d4,aD,ax⟩,iG⟩
  have wo:∀{W},Ext aB W->Dz F.c #[.agg #[.slice bW m.scalars.length bu,.slice bI m.vars.length c1,.slice bO m.ar.length c2,.slice bQ m.procs.length bp,.slice bZ m.props.length bB]] W fun v w'=>(∃b9 ci,v = .slice b9 (o.insts m).length ci/\aP o.cR.enc T.d 2 W.heap.size w' v (o.insts m))/\Ext W w':=fun {W} he=>(wI _ m W (cX.ext (e2.trans he)) aH).mono fun v w' ⟨aD,iG⟩=>by
   obtain⟨b9,ci,rfl,_⟩:=aD.form;exact⟨⟨b9,ci,rfl,aD⟩,iG⟩
  refine dO ?_;intro aK ag;replace al:=ag.obj al;refine J ?_;refine⟨?_,?_⟩
  .refine J_ (EY ag) ?_;rintro _ aR ⟨⟨eB,d0,dB,d1,ec,d2,er,d3,eN,d4,rfl,cM⟩,aw⟩;have bC:=ag.trans aw;refine⟨aw,?_⟩;refine J ?_;refine⟨?_,?_⟩
   .refine J_ (wo bC) ?_;rintro _ bo ⟨⟨b9,ci,rfl,aX⟩,aF⟩;have bF:=bC.trans aF;refine J ?_;intro bt bR e9 aI bh;refine⟨(aw.trans aF).trans aI,?_⟩;refine T_ bh rfl rfl Rs fun bG dy cf=>?_;have c8:=dy.ext aI e9;refine J ?_;exact⟨(bR,_),⟨aL,aL,trivial⟩,_,cf,cM.here.ext (aF.trans c8),(aP.hA (enc:=o.cR.enc) (fun _=>rfl) aX).ext Flat.ext c8,bF.trans c8⟩
   .refine O_ ?_;intro bo bR e9 aF bh;have bF:=bC.trans aF;have b4:=cr bh;refine⟨aw.trans aF,?_⟩;refine J ?_;refine J_ (wo bF) ?_;rintro _ bt ⟨⟨b9,ci,rfl,aX⟩,aI⟩;refine J ?_;refine T_ (aI.obj bh) rfl rfl Rs fun bG dy cf=>?_;have c8:=dy.ext (aF.trans aI) e9;refine J ?_;exact⟨(bR,_),⟨aL,aL,trivial⟩,_,cf,cM.here.ext c8,aP.hA (enc:=o.cR.enc) (fun _=>rfl) (aP.wr dy b4 aX),bC.trans c8⟩
  .refine O_ ?_;intro aR bR e9 aw bh;have bC:=ag.trans aw;have b4:=cr bh;refine⟨aw,?_⟩;refine J ?_;refine J_ (EY bC) ?_;rintro _ bo ⟨⟨eB,d0,dB,d1,ec,d2,er,d3,eN,d4,rfl,cM⟩,aF⟩;have bF:=bC.trans aF;have z5:=aF.size;refine⟨aw.trans aF,?_⟩;refine J ?_;refine J_ (wo bF) ?_;rintro _ bt ⟨⟨b9,ci,rfl,aX⟩,aI⟩;refine J ?_;refine T_ ((aF.trans aI).obj bh) rfl rfl Rs fun bG dy cf=>?_;have c8:=dy.ext ((aw.trans aF).trans aI) e9;refine J ?_;exact⟨(bR,_),⟨aL,aL,trivial⟩,_,cf,((cM.ext aI z5).wr dy b4).here,aP.hA (enc:=o.cR.enc) (fun _=>rfl) (aP.wr dy Aw aX),ag.trans c8⟩
 rintro⟨bR,bH⟩ S aK ⟨ys,bh,cM,aX,ag⟩;dsimp only at bh cM aX ⊢;replace al:=ag.obj al;have a1:=e2.trans ag;have r9:=cM;obtain⟨eB,d0,dB,d1,ec,d2,er,d3,eN,d4,rfl,_⟩:=cM.form;have dv:(o.layout m).cells=(o.c6 m:Nat):=rfl;have q9:o.c6 m<=64:=o.iL lu;have sd:=o.apF g1;refine J ?_;refine AD4 (o.c6 m) dv Aw fun aR b an aw bf=>?_;refine J ?_;intro wn bJ n4 fr eE;refine J ?_;intro bo e4 k6;have aF:Ext aR bo:=e4.ext fr n4;clear eE;have ix:=aw.trans aF;have pB:mI bo bJ b (o.c6 m) (o.yN m 0):=⟨k6,_,aF.obj bf,o.oL.start _⟩;have kI:=cr (aF.obj bf);have r8:∀{W},Mod (fun i=>i=b) bo W->Ext aK W:=fun hm=>hm.ext ix fun k hk e=>Aw
 have akn:=ix.obj al;have Jb:=ix.obj bh;clear bf k6;refine J ?_;refine L_ 24 m.props.length [1,3,4,5,22,23] (fun _:Unit=>[]) () (fun k _ W=>mI W bJ b (o.c6 m) (o.yN m k)/\Mod (fun i=>i=b) bo W) a8 a8 ⟨pB,Mod.refl _ _⟩ ?_;rintro k _ kU bt hk ⟨IU,jN⟩;have x8:=r8 jN;have cg:=a1.trans x8;have aj1:=IU.box;have oR:=x8.obj al;have akd:=x8.obj bh;clear akn Jb;refine J ?_;apply I_<;>intro g2;rotate_left
 .have jw:k=m.props.length:=Aw
  rw[jw,o.ark] at IU;obtain⟨ae,aJ,ak⟩:=IU.row;have hW:=ak.arp g1;subst hW;have az:=ak.len;refine J ?_;exact⟨⟨b,o.c6 m,.inr ⟨rfl,az.symm,by have:=a1.size;omega,aJ⟩⟩,cg⟩
 have cI:k<m.props.length:=Aw
 obtain⟨a4,rfl⟩:=aE.addr;obtain⟨lZ,gQ,dA,hU⟩:=aE.at k cI;obtain⟨RO,ce,rfl,_⟩:=hU.form;have fs:=o.acg g1 cI;have hle:=fs.len;unfold o.lL.enc at dA;have alP:=dA.ext cg;refine J ?_;intro bG iC ia bm cf;have c8:=cg.trans bm;refine J ?_;refine J_ (asD _ m.props[k].expr bG (hU.ext c8) Aw) ?_;rintro _ cQ ⟨⟨r,aG,ajk⟩,bA⟩;obtain⟨aO,c,rfl,lX⟩:=ajk.form;have wk:=bm.trans bA;have zB:=IU.ext wk;have hT:=jN.trans wk.mod;have nu:=bm.size;have gf:b<bt.heap.size:=by have:=jN.size;omega
 clear cf alP aj1 oR akd;refine J ?_;refine L_ 32 r.length [1,3,4,5,22,23,24,30,31] (fun _:Unit=>[]) () (fun i _ W=>mI W bJ b (o.c6 m) (o.yN m k++(r.take i).flatMap (o.gA m 0 false))/\Mod (fun i=>i=b) cQ W) a8 a8 ⟨by simpa using zB,Mod.refl _ _⟩ ?_;rintro i _ Hb cS U ⟨IV,mQ⟩;have ZO:=hT.trans mQ;have IN:=r8 ZO;have jq:=a1.trans IN;have YP:=IV.box;have Ew:=IN.obj al;have YR:=IN.obj bh;refine J ?_;apply I_<;>intro g3;rotate_left
 .have ak4:i=r.length:=Aw
  rw[ak4,AF1] at IV;refine J ?_;refine⟨cI,aL,(),trivial,IV.congr fun z=>?_,ZO⟩;rw[o.arl cI,AI1,AI1,o.asC aG]
 have qt:i<r.length:=Aw
 obtain⟨vD,rfl,Pn,alC,JD,E8⟩:=lX Aw;have BQ:=(alC.mod mQ Aw).adu JD E8;obtain⟨Q2,_⟩:=(aG.mem r[i]).1 (Gy qt);have auV:r.length<=9223372036854775807:=by unfold maxLen at E8;omega
 have c5:(r[i]).ok:=by
  have Z4:=List.length_pos_of_mem Q2;obtain⟨rX,rfl⟩:=hU.addr Z4;obtain⟨j,aC,r4⟩:=List.mem_iff_getElem.1 Q2;rw[<-r4];exact(hU.at j aC).ok
 have amd:=o.apH g1 cI Q2;refine J ?_;intro eG j0 lT ch dp;replace YP:=ch.obj YP;replace Ew:=ch.obj Ew;replace YR:=ch.obj YR;refine J ?_;refine J_ (ahn r[i] _ _ _ bJ b _ m aK eG (cX.ext a1) r9 aX (IN.trans ch) an (IV.ext ch) lu amd c5) ?_;rintro _ fN ⟨ajI,Ce⟩;refine J ?_;refine⟨qt,aL,(),trivial,?_,(mQ.trans ch.mod).trans Ce⟩;rw[L1 qt,AH1,<-Wi];simpa using ajI
theorem Xe(cs:C_ B_)(bH:B_)(m:o.Model)(ref:Int)(q p k:Nat)(w:A_)(h:o.dU w cs m)(aX:kk w bH (o.insts m))(bq:o.ez m ref q p k)(x:o.Ref)(oj:x.inst=q)(ft:x.cmd=k) :
  Dz F.s #[.agg cs.toArray,bH,.agg x.enc.toArray] w fun u w'=>(∃e6 dn,u = .agg ((o.bx m p k).enc e6 dn).toArray/\o.eL w e6 (o.bx m p k).guard/\o.lK w dn (o.bx m p k).bE)/\Ext w w':=by
 obtain⟨bW,bu,bI,c1,bO,c2,bQ,bp,bZ,bB,rfl,ad,h1,I,ab,aE,eU,eh,eo,dY,ew⟩:=h.form;obtain⟨b9,ci,rfl,_⟩:=aX.form;have ao:=bq.at_.U;have aq:=bq.at_.aq;have mP:=bq.at_.hk;have oe:=bq.at_.ip;obtain⟨h7,rfl⟩:=aX.addr;obtain⟨a3,rfl⟩:=ab.addr;obtain⟨lZ,bV,dL,dA,eW,fl⟩:=ab.at p aq;obtain⟨CA,Bs,rfl,Cp⟩:=fl.form;obtain⟨ac,rfl⟩:=fl.addr;obtain⟨eE,e6,dn,fR,hv,fW⟩:=fl.at k mP;obtain⟨gn,gz,rfl,_⟩:=hv.form;obtain⟨sw,rZ,rfl,_⟩:=fW.form;have j8:=o.vK aq mP;have qd:x.enc=[.I q,.I k]:=by unfold o.Ref.enc;rw[oj,ft]
 rw[qd];unfold o.dw.enc at dA;unfold o.dr.enc at fR;refine bl E.s ?_;refine J ?_;intro w1 bR e9 ah bh;refine J ?_;intro aB dE kI aj bY;replace bh:=aj.obj bh;refine J ?_;intro aK ee gf ag b1;replace bh:=ag.obj bh;replace bY:=ag.obj bY;have a1:=(ah.trans aj).trans ag;have jX:=ah.size;have rK:=aj.size;intro aR aw;replace bh:=aw.obj bh;replace bY:=aw.obj bY;replace b1:=aw.obj b1;have bC:=a1.trans aw;have Yp:=aX.ext Flat.ext bC;have auT:=dA.ext bC;have auz:=fR.ext bC;refine J ?_;refine K_ p (by rw[oe]) aq ?_;refine J ?_;intro bo e4 akg;refine J ?_;exact⟨⟨.slice gn (o.bx m p k).guard.length gz,.slice sw (o.bx m p k).bE.length rZ,by rw[j8];rfl,by rw[j8];exact hv,by rw[j8];exact fW⟩,e4.ext bC Aw⟩
structure xI(w:World)(bJ b:Nat)(ae:List Bool):Prop where
 box:w.heap[bJ]? = some (.cells #[.slice (some ⟨b,0,none⟩) ae.length ae.length] T.h7)
 row:w.heap[b]? = some (.cells (nW ae).toArray T.m)
theorem xI.ext{w w':A_}{bJ b:Nat}{ae:C_ Bool}(h:xI w bJ b ae)(he:Ext w w'):xI w' bJ b ae:=⟨he.obj h.box,he.obj h.row⟩
def sC(ae:C_ Bool)(x:Int):Bool:=(ae[x.toNat]?).getD false
theorem ar6(x:Int)(bJ b:Nat)(ae:C_ Bool)(w:A_)(h:xI w bJ b ae)(ad:0<=x)(h1:x.toNat<ae.length) :
  Dz F.m #[.I x,.pointer (some ⟨bJ,0,none⟩)] w fun v w'=>v = .bool (sC ae x)/\Ext w w':=by
 have n4:=h.box;have ai:w.cell? (Addr.add ⟨b,0,none⟩ (x.toNat*1))=some (.bool (sC ae x)):=fT h.row (by rw[AG8];simp[nW,sC,h1]);refine bl E.m ?_;refine J ?_;refine K_ x.toNat Aw h1 ?_;refine J ?_;refine M_ ai ?_;refine J ?_;exact⟨aL,Ext.refl _⟩
theorem ary(v:B_)(l:C_ Int)(bJ b:Nat)(ae:C_ Bool)(w:A_)(h:dc w v l)(b3:0<l.length->xI w bJ b ae)(az:∀x∈l,0<=x/\x.toNat<ae.length) :
  Dz F.j #[v,.func (.func F.m) #[] #[.pointer (some ⟨bJ,0,none⟩)]] w fun bS w'=>bS = .I (lR (sC ae) l 0)/\Ext w w':=by
 obtain⟨bI,c1,rfl,br⟩:=h.form;refine vr E.j ?_;refine nV ?_;refine J ?_;refine L_ 8 l.length [0,1,7] (fun _:Unit=>[]) () (fun k _ w'=>Ext w w'/\lR (sC ae) l 0=lR (sC ae) (l.drop k) k) a8 a8 ⟨Ext.refl _,Bh⟩ ?_;rintro k _ S aB hk ⟨aj,aX⟩;have I:=h.ext Flat.ext aj;refine J ?_;apply I_<;>intro g1
 .have aV:k<l.length:=Aw
  obtain⟨a,rfl⟩:=h.addr;obtain⟨o6,cO⟩:=az _ (Gy aV);rw[OH aV] at aX;refine J ?_;refine V_ (first:=[]) (cap:=[.pointer (some ⟨bJ,0,none⟩)]) Cq (ar6 l[k] bJ b ae aB ((b3 Aw).ext aj) o6 cO) ?_;rintro _ aK ⟨rfl,ag⟩;cases ak:sC ae l[k] with
  | true =>
   rw[ak,if_pos rfl] at aX;refine J ?_;exact⟨by rw[aX],aj.trans ag⟩
  | false =>
   rw[ak,if_neg Bh] at aX;refine J ?_;exact⟨aV,aL,(),trivial,aj.trans ag,aX⟩
 .refine J ?_;exact⟨by rw[aX,AF0 Aw];rfl,aj⟩
theorem arj(v:B_)(l:C_ Int)(bJ b:Nat)(ae:C_ Bool)(w:A_)(h:dc w v l)(b3:0<l.length->xI w bJ b ae)(az:∀x∈l,0<=x/\x.toNat<ae.length) :
  Dz F.h #[v,.func (.func F.m) #[] #[.pointer (some ⟨bJ,0,none⟩)]] w fun bS w'=>bS = .bool (l.any (sC ae))/\Ext w w':=by
 refine vr E.h ?_;refine nV ?_;refine J ?_;refine J_ (ary v l bJ b ae w h b3 az) ?_;rintro _ aB ⟨rfl,aj⟩;refine J ?_;refine⟨?_,aj⟩;congr 1;exact Bool.eq_iff_iff.2 (by rw[decide_eq_true_eq];exact Ii)
structure atq(w:World)(b N:Nat)(L:List Int):Prop where
 row:∃ae,w.heap[b]? = some (.cells (nW ae).toArray T.m)/\o.oL N L ae
end Go.Proofs.R
end
section
namespace o
structure aeG(m:Model):Prop where
 s:m.scalars.length<=8
 v:m.vars.length<=20
 c:m.ar.length<=8
 p:m.procs.length<=10
 q:m.props.length<=16
 i:∀(j:Nat) (h:j<m.procs.length),m.procs[j].vars.length<=10/\m.procs[j].cy.length<=16
end o
end
section
namespace o
open Go
structure rT(m:Model)(ref:Int)(t:Bool):Prop where
 none:¬Told m ref->t=false
 there:∀q p k a b,ez m ref q p k->kz m ref a b->(t=true↔(bx m p k).to<=(bx m p k).from_\/∃x∈b,x∈vb m)
theorem rT.no{m:Model}{ref:Int}(h:¬Told m ref):rT m ref false:=⟨fun _=>rfl,fun _ _ _ _ _ bq=>absurd bq.told h⟩
theorem rT.of{m:Model}{ref:Int}{q p k:Nat}{a b:C_ Int}{t:Bool}(bq:ez m ref q p k)(bD:kz m ref a b)(h:t=true↔(bx m p k).to<=(bx m p k).from_\/∃x∈b,x∈vb m):rT m ref t :=
 ⟨fun ax=>absurd bq.told ax,fun ei eX k' cp fG q6 O6=>by
  obtain⟨rfl,rfl,rfl⟩:=bq.one q6;obtain⟨rfl,rfl⟩:=bD.eq O6;exact h⟩
theorem as8{m:Model}{ref:Int}{q p k:Nat}{a b:C_ Int}(bq:ez m ref q p k)(bD:kz m ref a b):∀x∈b,0<=x/\x<c6 m:=fun x af=>aei bq x (((bD.there q p k bq).2.mem x).1 af)
end o
namespace Go.Proofs.R
open Go Go.RowKit a7
theorem arb{m:o.Model}{b:C_ Int}(hk:(o.check m).cC=0)(an:∀x∈b,0<=x/\x<o.c6 m):b.any (sC (o.oy m))=true↔∃x∈b,x∈o.vb m:=by
 rw[List.any_eq_true];have key:∀x∈b,(sC (o.oy m) x=true↔x∈o.vb m):=fun x af=>by
  obtain⟨ad,h1⟩:=an x af;unfold sC o.oy;rw[if_pos hk,List.getElem?_map,List.getElem?_range Aw];simp only[Option.map_some,Option.getD_some,decide_eq_true_eq];rw[show((x.toNat:Nat):Int)=x from Aw]
 constructor
 .rintro⟨x,af,h⟩;exact⟨x,af,(key x af).1 h⟩
 .rintro⟨x,af,h⟩;exact⟨x,af,(key x af).2 h⟩
theorem arq{m:o.Model}(hk:(o.check m).cC=0):(o.oy m).length=o.c6 m:=by unfold o.oy;rw[if_pos hk];simp
theorem N2{s:ByteArray}{f t:Int}{a b:H_ Addr}{jy ke c1 c2:Nat}{y:Bool}:∀x∈(#[.string s,.I f,.I t,.slice a jy c1,.slice b ke c2,.bool y]:Array B_).toList,x.oneCell'=true:=by simp[Value.oneCell']
theorem ag9(cs:C_ B_)(m:o.Model)(ref:Int)(w:A_)(h:o.dU w cs m)(aH:m.cA)(aJ:gF w) :
  Dz F.bJ #[.agg cs.toArray,.I ref] w fun u w'=>(∃t,u = .bool t/\o.rT m ref t)/\Ext w w':=by
 have cX:=h;obtain⟨bW,bu,bI,c1,bO,c2,bQ,bp,bZ,bB,rfl,_⟩:=h.form;refine bl E.bJ ?_;refine J ?_;intro w1 bP db ah au;refine J ?_;refine J_ (yy _ m w1 (cX.ext ah) aH (aJ.ext ah)) ?_;rintro _ aB ⟨rfl,aj⟩;replace au:=aj.obj au;have e2:=ah.trans aj;refine J ?_;refine _K (v:=.I (o.check m).cC) rfl ?_;refine J ?_;apply I_<;>intro g1;rotate_left
 .refine J ?_;exact⟨⟨false,aL,o.rT.no fun h=>g1 h.1⟩,e2⟩
 have lu:=o.iu g1;have iI:=o.tU lu.lim;refine J ?_;refine J_ (yL _ m aB (cX.ext e2) lu.lim) ?_;rintro ho aK ⟨iZ,ag⟩;obtain⟨fm,qb,rfl,_⟩:=iZ.form;have j6:bg 2 (Flat o.Ref.enc) aK _ _:=aP.hA (enc:=o.Ref.enc) (fun _=>rfl) iZ;replace au:=ag.obj au;have a1:=e2.trans ag;clear iZ;refine J ?_;apply I_<;>intro g2
 .refine J ?_;exact⟨⟨false,aL,o.rT.no fun h=>by have:=h.2.1;omega⟩,a1⟩
 refine J ?_;apply I_<;>intro g3
 .refine J ?_;exact⟨⟨false,aL,o.rT.no fun h=>by have:=h.2.2;omega⟩,a1⟩
 obtain⟨q,p,k,bq⟩:=o.oO (m:=m) (ref:=ref) ⟨g1,Aw,Aw⟩;obtain⟨r,rfl⟩:=Rt (show 0<=ref by omega);have aG:r<(o.refs m).length:=Aw
 have gm:(o.refs m)[r].inst=(q:Int):=bq.at_.ox;have o0:(o.refs m)[r].cmd=(k:Int):=bq.at_.sA;obtain⟨jI,rfl⟩:=j6.addr;refine dO ?_;refine S_ [1,2] (fun ee:Nat=>[(6,.pointer (some ⟨ee,0,none⟩))]) (fun ee W=>(∃gn gz aO fz,W.heap[ee]? = some (.cells #[.string (o.bx m p k).name,.I (o.bx m p k).from_,.I (o.bx m p k).to,.slice gn (o.bx m p k).guard.length gz,.slice aO (o.bx m p k).bE.length fz,.bool (o.bx m p k).fair] T.s))/\Ext aK W) ?_ ?_
 .have wo:∀{W},Ext aK W->Dz F.c #[.agg #[.slice bW m.scalars.length bu,.slice bI m.vars.length c1,.slice bO m.ar.length c2,.slice bQ m.procs.length bp,.slice bZ m.props.length bB]] W fun v w'=>(∃b9 ci,v = .slice b9 (o.insts m).length ci/\kk w' v (o.insts m))/\Ext W w':=fun {W} he=>(wI _ m W (cX.ext (a1.trans he)) aH).mono fun v w' ⟨aD,iG⟩=>by
   obtain⟨b9,ci,rfl,_⟩:=aD.form;exact⟨⟨b9,ci,rfl,aP.hA (enc:=o.cR.enc) (fun _=>rfl) aD⟩,iG⟩
  have dT:∀{W} {bH},Ext aK W->kk W bH (o.insts m)->Dz F.s #[.agg #[.slice bW m.scalars.length bu,.slice bI m.vars.length c1,.slice bO m.ar.length c2,.slice bQ m.procs.length bp,.slice bZ m.props.length bB],bH,.agg ((o.refs m)[r]).enc.toArray] W fun u w'=>(∃gn gz aO fz,u = .agg #[.string (o.bx m p k).name,.I (o.bx m p k).from_,.I (o.bx m p k).to,.slice gn (o.bx m p k).guard.length gz,.slice aO (o.bx m p k).bE.length fz,.bool (o.bx m p k).fair])/\Ext W w':=fun {W bH} he U=>(Xe _ bH m r q p k W (cX.ext (a1.trans he)) U bq _ gm o0).mono fun u w' ⟨⟨e6,dn,hu,ax,aU⟩,iG⟩=>by
   obtain⟨gn,gz,rfl,_⟩:=ax.form;obtain⟨aO,fz,rfl,_⟩:=aU.form;exact⟨⟨gn,gz,aO,fz,hu⟩,iG⟩
  refine J ?_;intro aR aw;replace au:=aw.obj au;have YC:=j6.ext Flat.ext aw;refine J ?_;refine⟨?_,?_⟩
  .refine J_ (wo aw) ?_;rintro _ bo ⟨⟨b9,ci,rfl,aX⟩,aF⟩;have bF:=aw.trans aF;refine⟨aF,?_⟩;refine J ?_;refine⟨?_,?_⟩
   .refine J_ (dT bF aX) ?_;rintro _ bt ⟨⟨gn,gz,aO,fz,rfl⟩,aI⟩;have cg:=bF.trans aI;refine J ?_;intro bG ee gf bm b1;refine⟨(aF.trans aI).trans bm,?_⟩;refine T_ b1 rfl rfl N2 fun cQ iK cn=>?_;have eY:=iK.ext bm gf;refine J ?_;exact⟨ee,⟨aL,trivial⟩,⟨_,_,_,_,cn⟩,cg.trans eY⟩
   .refine O_ ?_;intro bt ee gf aI b1;have cg:=bF.trans aI;refine⟨aF.trans aI,?_⟩;refine J ?_;refine J_ (dT cg (aX.ext Flat.ext aI)) ?_;rintro _ bG ⟨⟨gn,gz,aO,fz,rfl⟩,bm⟩;refine J ?_;refine T_ (bm.obj b1) rfl rfl N2 fun cQ iK cn=>?_;have eY:=iK.ext (aI.trans bm) gf;refine J ?_;exact⟨ee,⟨aL,trivial⟩,⟨_,_,_,_,cn⟩,bF.trans eY⟩
  .refine O_ ?_;intro bo ee gf aF b1;have bF:=aw.trans aF;refine⟨aF,?_⟩;refine J ?_;refine J_ (wo bF) ?_;rintro _ bt ⟨⟨b9,ci,rfl,aX⟩,aI⟩;have cg:=bF.trans aI;refine⟨aF.trans aI,?_⟩;refine J ?_;refine J_ (dT cg aX) ?_;rintro _ bG ⟨⟨gn,gz,aO,fz,rfl⟩,bm⟩;refine J ?_;refine T_ ((aI.trans bm).obj b1) rfl rfl N2 fun cQ iK cn=>?_;have eY:=iK.ext ((aF.trans aI).trans bm) gf;refine J ?_;exact⟨ee,⟨aL,trivial⟩,⟨_,_,_,_,cn⟩,aw.trans eY⟩
 rintro ee S aR ⟨⟨gn,gz,aO,fz,b1⟩,aw⟩;replace au:=aw.obj au;have bC:=a1.trans aw;refine J ?_;refine J_ (aeM _ m (r:Int) aR (cX.ext bC) aH (aJ.ext bC)) ?_;rintro _ bo ⟨⟨fw,kR,a,b,rfl,c4,j5,bD⟩,aF⟩;have bF:=bC.trans aF;replace au:=aF.obj au;replace b1:=aF.obj b1;have fs:=o.as8 bq bD;have hlen:=arq g1;refine J ?_;refine J_ (ars _ m bo (cX.ext bF) aH (aJ.ext bF)) ?_;rintro asS bt ⟨⟨j0,n,aD⟩,aI⟩;have cg:=bF.trans aI;replace b1:=aI.obj b1;have fin:∀(W:A_) (bJ:Nat),Ext bt W->(0<b.length->xI W bJ j0 (o.oy m))->Dz F.h #[kR,.func (.func F.m) #[] #[.pointer (some ⟨bJ,0,none⟩)]] W fun bS w'=>bS = .bool (b.any (sC (o.oy m)))/\Ext W w':=fun W bJ he b3 =>
  arj kR b bJ j0 _ W (j5.ext Flat.ext (aI.trans he)) b3 fun x af=>⟨(fs x af).1,by have:=fs x af;omega⟩
 have kb:∃p,asS = .slice p n n/\(0<b.length->p=some ⟨j0,0,none⟩/\n=(o.oy m).length/\bt.heap[j0]? = some (.cells (nW (o.oy m)).toArray T.m)):=by
  rcases aD with ⟨ak,rfl,rfl⟩ | ⟨rfl,ax,_,lX⟩
  .refine⟨none,rfl,fun an=>?_⟩;have h1:=fs _ (Gy an);rw[ak] at hlen;simp at hlen;omega
  .exact⟨_,rfl,fun _=>⟨rfl,ax,lX⟩⟩
 obtain⟨avY,rfl,alN⟩:=kb;refine J ?_;intro wn bJ n4 fr eE;refine J ?_;intro bG dy k6;have bm:Ext bt bG:=dy.ext fr n4;clear eE;have c8:=cg.trans bm;replace b1:=bm.obj b1;have ajJ:0<b.length->xI bG bJ j0 (o.oy m):=fun an=>by
  obtain⟨rfl,rfl,lX⟩:=alN an;exact⟨k6,bm.obj lX⟩
 refine J ?_;apply I_<;>intro g5
 .refine J ?_;exact⟨⟨true,aL,o.rT.of bq bD ⟨fun _=>.inl g5,fun _=>rfl⟩⟩,c8⟩
 refine J ?_;refine J_ (fin bG bJ bm ajJ) ?_;rintro _ cQ ⟨rfl,bA⟩;refine J ?_;refine⟨⟨_,aL,o.rT.of bq bD ?_⟩,c8.trans bA⟩;rw[arb g1 fs];exact⟨.inr,fun h=>h.resolve_left Aw⟩
end Go.Proofs.R
end
section
namespace o
open Go
def nP(m:Model)(q l:Int)(i:Nat):Prop := ∃(ei p k:Nat),ez m i ei p k/\(ei:Int)=q/\(bx m p k).from_=l
def pg(m:Model)(q l:Int):Prop:=(check m).cC=0/\∃(ei p:Nat) (h:fo m ei p),(ei:Int)=q/\0<=l/\l<(m.procs[p]'(h.aq)).b2
def AW(m:Model)(L:C_ (C_ Int×C_ Int))(q l:Int):Prop :=
 ∀i,nP m q l i->∀j (aC:j<(refs m).length),(refs m)[j].inst≠q->∀x y,L[i]? = some x->L[j]? = some y->¬rQ x.1 x.2 y.1 y.2
structure oK(m:Model)(q l:Int)(t:Bool):Prop where
 off:¬pg m q l->t=false
 there:pg m q l->∀L,ng m (refs m).length L->(t=true↔AW m L q l)
theorem oK.no{m:Model}{q l:Int}(h:¬pg m q l):oK m q l false:=⟨fun _=>rfl,fun k=>absurd k h⟩
theorem oK.of{m:Model}{q l:Int}{t:Bool}{L:C_ (C_ Int×C_ Int)}(c4:pg m q l)(ju:ng m (refs m).length L)(h:t=true↔AW m L q l):oK m q l t :=
 ⟨fun k=>absurd c4 k,fun _ nd Pd=>by rw[<-ju.eq Pd];exact h⟩
theorem FC{m:Model}{q p:Nat}{l:Int}(hk:(check m).cC=0)(aX:fo m q p)(ad:0<=l)(h1:l<(m.procs[p]'aX.aq).b2):pg m q l:=⟨hk,q,p,aX,rfl,ad,h1⟩
theorem fo.one{m:Model}{q p eX:Nat}(h:fo m q p)(bk:fo m q eX):p=eX:=by
 have a:=h.eq;have b:=bk.eq;omega
theorem pg.lt{m:Model}{q p:Nat}{l:Int}(h:pg m q l)(aX:fo m q p):0<=l/\l<(m.procs[p]'aX.aq).b2:=by
 obtain⟨_,ei,eX,ajp,e,ad,h1⟩:=h
 have:ei=q:=Aw
 subst this
 have:=aX.one ajp
 subst this;exact⟨ad,h1⟩
theorem pg.aQ{m:Model}{q l:Int}(h:pg m q l):0<=q/\q<(insts m).length/\0<=l:=by
 obtain⟨_,ei,eX,aX,e,ad,h1⟩:=h
 have:=aX.ao
 omega
theorem X5{m:Model}{q l:Int}{i ei p k:Nat}(bq:ez m i ei p k):nP m q l i↔((ei:Int)=q/\(bx m p k).from_=l):=by
 constructor
 .rintro⟨a,b,c,h,h1,I⟩;obtain⟨rfl,rfl,rfl⟩:=bq.one h;exact⟨h1,I⟩
 .rintro⟨h1,I⟩;exact⟨ei,p,k,bq,h1,I⟩
theorem nP.lt{m:Model}{q l:Int}{i:Nat}(h:nP m q l i):i<(refs m).length:=by
 obtain⟨_,_,_,bq,_⟩:=h
 have:=bq.told.2.2
 omega
theorem Sm:∀l:C_ Int,∃r,qU l r
 | []=>⟨[],List.Pairwise.nil,fun _=>Iff.rfl⟩
 | x :: l=>by
  obtain⟨r,aG⟩:=Sm l;by_cases af:x∈r
  .exact⟨r,aG.mZ,fun y=>by
    rw[aG.mem,AJ5];exact⟨.inr,fun h=>h.elim (fun e=>e ▸ (aG.mem x).1 af) id⟩⟩
  .refine⟨r.filter (· < x)++x :: r.filter (x < ·),?_,fun y=>?_⟩
   .refine List.pairwise_append.2 ⟨aG.mZ.sublist List.filter_sublist,List.pairwise_cons.2 ⟨fun y bK=>?_,aG.mZ.sublist List.filter_sublist⟩,fun y bK z bw=>?_⟩
    .simpa using(List.mem_filter.1 bK).2
    .have h1:y<x:=by simpa using(List.mem_filter.1 bK).2
     rcases List.mem_cons.1 bw with e | e
     .omega
     .have I:x<z:=by simpa using(List.mem_filter.1 e).2
      omega
   .rw[AI1,AJ5,AL0,AL0,AJ5,<-aG.mem y];simp only[decide_eq_true_eq];constructor
    .rintro(h | h | h)
     .exact .inr h.1
     .exact .inl h
     .exact .inr h.1
    .rintro(h | h)
     .exact .inr (.inl h)
     .have:y≠x:=fun e=>af (e ▸ h)
      rcases Int.lt_or_lt_of_ne this with k | k
      .exact .inl ⟨h,k⟩
      .exact .inr (.inr ⟨h,k⟩)
theorem acI(m:Model)(ref:Int):∃a b,kz m ref a b:=by
 by_cases aA:Told m ref
 .obtain⟨q,p,k,bq⟩:=oO aA;obtain⟨a,aU⟩:=Sm (ow m q (bx m p k) (bx m p k).bE.length);obtain⟨b,an⟩:=Sm (l6 m q (bx m p k) (bx m p k).bE.length);exact⟨a,b,kz.of bq aU an⟩
 .exact⟨[],[],kz.nil aA⟩
theorem S2(m:Model):∀n,∃L,ng m n L
 | 0=>⟨[],ng.nil m⟩
 | n+1=>by
  obtain⟨L,h⟩:=S2 m n;obtain⟨a,b,bD⟩:=acI m n;exact⟨_,h.snoc bD⟩
noncomputable def Ct(m:Model)(q l:Int):Bool := @decide (pg m q l/\∀L,ng m (refs m).length L->AW m L q l) (Classical.propDecidable _)
theorem oK.is{m:Model}{q l:Int}{t:Bool}(h:oK m q l t):t=Ct m q l:=by
 unfold Ct;by_cases c4:pg m q l
 .obtain⟨L,ju⟩:=S2 m (refs m).length;have h1:=h.there c4 L ju;refine Bool.eq_iff_iff.2 (h1.trans ?_);rw[@decide_eq_true_iff _ (Classical.propDecidable _)];exact⟨fun k=>⟨c4,fun nd Pd=>ju.eq Pd ▸ k⟩,fun k=>k.2 L ju⟩
 .rw[h.off c4];exact(@decide_eq_false _ (Classical.propDecidable _) fun k=>c4 k.1).symm
noncomputable def xc(m:Model)(ref:Int):Bool := @decide (∃q p k a b,ez m ref q p k/\kz m ref a b/\((bx m p k).to<=(bx m p k).from_\/∃x∈b,x∈vb m)) (Classical.propDecidable _)
theorem rT.is{m:Model}{ref:Int}{t:Bool}(h:rT m ref t):t=xc m ref:=by
 unfold xc;refine Bool.eq_iff_iff.2 ?_;rw[@decide_eq_true_iff _ (Classical.propDecidable _)];constructor
 .intro e;have aA:Told m ref:=Classical.byContradiction fun ax=>by rw[h.none ax] at e;cases e
  obtain⟨q,p,k,bq⟩:=oO aA;obtain⟨a,b,bD⟩:=acI m ref;exact⟨q,p,k,a,b,bq,bD,(h.there q p k a b bq bD).1 e⟩
 .rintro⟨q,p,k,a,b,bq,bD,hk⟩;exact(h.there q p k a b bq bD).2 hk
structure jk where
 cmd:Int
 way:Int
 to:List Int
def yH(m:Model)(q:Nat):Nat:=match (insts m)[q]? with
 | some i=>i.proc.toNat
 | none=>0
def lC(m:Model)(s:C_ Int)(r:Nat):C_ jk:=match (refs m)[r]? with
 | none=>[]
 | some x=>match fA m s x.inst.toNat (bx m (yH m x.inst.toNat) x.cmd.toNat) with
  | none=>[]
  | some t=>⟨r,0,t⟩ :: if ways (bx m (yH m x.inst.toNat) x.cmd.toNat) m.ar=2 then [⟨r,1,lost m s t (bx m (yH m x.inst.toNat) x.cmd.toNat)⟩] else []
def jQ(m:Model)(s:C_ Int)(n:Nat):C_ jk:=(List.range n).flatMap (lC m s)
def gh(m:Model)(s:C_ Int):C_ jk:=match jQ m s (refs m).length with
 | []=>[⟨-1,0,s⟩]
 | l=>l
theorem FM(m:Model)(s:C_ Int)(n:Nat):jQ m s (n+1)=jQ m s n++lC m s n:=by
 unfold jQ;rw[AH9,AH1];simp
theorem aoe(m:Model)(s:C_ Int)(r:Nat):(lC m s r).length<=2:=by
 unfold lC;split
 .simp
 .split
  .simp
  .split<;>simp
theorem RB(m:Model)(s:C_ Int):∀n,(jQ m s n).length<=2*n
 | 0=>by simp[jQ]
 | n+1=>by
  rw[FM,Lk]
  have:=RB m s n
  have:=aoe m s n
  omega
theorem ez.lC{m:Model}{r q p k:Nat}(h:ez m r q p k)(s:C_ Int):lC m s r=match fA m s q (bx m p k) with
  | none=>[]
  | some t=>⟨r,0,t⟩ :: if ways (bx m p k) m.ar=2 then [⟨r,1,lost m s t (bx m p k)⟩] else []:=by
 have h1:=h.U;have c4:=h.at_;simp only[Int.toNat_natCast] at h1 c4;have e1:(refs m)[r].inst.toNat=q:=by have:=c4.ox;omega
 have e2:(refs m)[r].cmd.toNat=k:=by have:=c4.sA;omega
 have a1:yH m q=p:=by
  unfold yH;rw[List.getElem?_eq_getElem c4.U]
  have:=c4.ip
  simp only;omega
 unfold o.lC;rw[List.getElem?_eq_getElem h1];simp only[e1,e2,a1]
theorem ez.off{m:Model}{r q p k:Nat}(h:ez m r q p k){s:C_ Int}(bk:fA m s q (bx m p k)=none):o.lC m s r=[]:=by rw[h.lC,bk]
theorem ez.RQ{m:Model}{r q p k:Nat}(h:ez m r q p k){s t:C_ Int}(bk:fA m s q (bx m p k)=some t)(hw:¬ways (bx m p k) m.ar=2):o.lC m s r=[⟨r,0,t⟩]:=by
 rw[h.lC,bk];simp only[if_neg hw]
theorem ez.abY{m:Model}{r q p k:Nat}(h:ez m r q p k){s t:C_ Int}(bk:fA m s q (bx m p k)=some t)(hw:ways (bx m p k) m.ar=2):o.lC m s r=[⟨r,0,t⟩,⟨r,1,lost m s t (bx m p k)⟩]:=by
 rw[h.lC,bk];simp only[if_pos hw]
structure M4(m:Model)(s:List Int)(x:jk)(q p k:Nat)(u:List Int):Prop where
 at_:ez m x.cmd q p k
 ahc:fA m s q (bx m p k)=some u
 asj:x.way=0/\x.to=u\/x.way=1/\ways (bx m p k) m.ar=2/\x.to=lost m s u (bx m p k)
theorem aod{m:Model}{s:C_ Int}{r:Nat}(hk:(check m).cC=0)(aG:r<(refs m).length){x:jk}(af:x∈lC m s r):∃q p k u,M4 m s x q p k u/\x.cmd=r:=by
 obtain⟨q,p,k,bq⟩:=oO (m:=m) (ref:=r) ⟨hk,Aw,Aw⟩;cases h:fA m s q (bx m p k) with
 | none=>rw[bq.off h] at af;cases af
 | some u =>
  by_cases hw:ways (bx m p k) m.ar=2
  .rw[bq.abY h hw] at af;simp only[List.mem_cons,List.not_mem_nil,or_false] at af;rcases af with rfl | rfl
   .exact⟨q,p,k,u,⟨bq,h,.inl ⟨rfl,rfl⟩⟩,rfl⟩
   .exact⟨q,p,k,u,⟨bq,h,.inr ⟨rfl,hw,rfl⟩⟩,rfl⟩
  .rw[bq.RQ h hw] at af;simp only[List.mem_cons,List.not_mem_nil,or_false] at af;subst af;exact⟨q,p,k,u,⟨bq,h,.inl ⟨rfl,rfl⟩⟩,rfl⟩
theorem abz{m:Model}{s:C_ Int}(hk:(check m).cC=0){x:jk}(af:x∈gh m s):(x.cmd = -1/\x.way=0/\x.to=s)\/∃q p k u,M4 m s x q p k u:=by
 have key:x∈jQ m s (refs m).length->∃q p k u,M4 m s x q p k u:=fun h=>by
  unfold jQ at h;obtain⟨r,aG,af⟩:=List.mem_flatMap.1 h;obtain⟨q,p,k,u,h,_⟩:=aod hk (List.mem_range.1 aG) af;exact⟨q,p,k,u,h⟩
 unfold gh at af;split at af
 .simp only[List.mem_cons,List.not_mem_nil,or_false] at af;subst af;exact .inl ⟨rfl,rfl,rfl⟩
 .exact .inr (key af)
theorem Gx{m:Model}{c:dr}(h:ways c m.ar=2):∃j:Nat,(comm c.bE).2=j/\j<m.ar.length:=by
 obtain⟨j,h1,I,_⟩:=ad7 (c:=c) (l:=m.ar) Aw;exact⟨j,h1,I⟩
theorem anU{m:Model}{s t:C_ Int}{c:dr}{l:C_ Int}(av:s.length=c6 m)(h:eH s t l)(hw:ways c m.ar=2):eH s (lost m s t c) l:=by
 obtain⟨j,aC,kK⟩:=Gx hw;have sj:=kX kK;unfold lost;rw[aC,AF4];have dv:(chanOf m s j).length=1+fH m j:=n0 Aw;have U:b6 m j+(chanOf m s j).length<=t.length:=by rw[dv,h.1];omega
 refine⟨(uT U).trans h.1,fun c ai=>?_⟩;rw[sl U] at ai;split at ai
 .rename_i aG;refine absurd ?_ ai;rw[dv] at aG;unfold chanOf;rw[List.getElem?_take_of_lt Aw,List.getElem?_drop];congr 1;omega
 .exact h.2 c ai
theorem Mm(c:dr)(l:C_ dg):ways c l<=2:=by
 unfold ways;split
 .split
  .split<;>omega
  .omega
 .omega
theorem akL{c:dr}{b2:Int}(h:head c b2=0):0<=c.from_/\c.from_<b2/\0<=c.to/\c.to<b2:=by
 unfold head at h;by_cases cO:isName c.name=false
 .rw[if_pos cO] at h;exact absurd h BJ
 rw[if_neg cO] at h;by_cases de:c.from_<0\/b2<=c.from_\/c.to<0\/b2<=c.to
 .rw[if_pos de] at h;exact absurd h BJ
 omega
theorem agP{m:Model}(h:(check m).cC=0){p k:Nat}(aq:p<m.procs.length)(hk:k<m.procs[p].cy.length):0<=m.procs[p].cy[k].from_/\m.procs[p].cy[k].from_<m.procs[p].b2/\0<=m.procs[p].cy[k].to/\m.procs[p].cy[k].to<m.procs[p].b2:=by
 obtain⟨dB,_,_⟩:=Lv (NX h);obtain⟨_,cq,_,_⟩:=BC aq (dB p aq);obtain⟨_,_,hK⟩:=R2 cq;have aY:=(Hw _ _ hK k hk).1;unfold jn at aY;by_cases h1:head m.procs[p].cy[k] m.procs[p].b2≠0
 .rw[if_pos h1] at aY;exact absurd aY h1
 .exact akL (Classical.byContradiction h1)
theorem ez.b2{m:Model}{ref:Int}{q p k:Nat}(h:ez m ref q p k):0<=(bx m p k).to/\(bx m p k).to<(m.procs[p]'(h.at_.aq)).b2:=by
 have:=agP h.ok h.at_.aq h.at_.hk
 rw[vK h.at_.aq h.at_.hk];omega
theorem Bw{m:Model}{ref:Int}{q p k:Nat}(bq:ez m ref q p k){s t:C_ Int}(av:Fits m s)(h:fA m s q (bx m p k)=some t):Fits m t:=by
 have aS:=iu bq.ok;unfold fA at h;split at h
 .cases h
 split at h
 .cases h
 cases h1:h6 m q (bx m p k).bE s with
 | none=>rw[h1] at h;cases h
 | some u =>
  rw[h1] at h;have e:u.set (da m q) (bx m p k).to=t:=by injection h
  subst e;have hu:=We aS bq.inst _ s u (fun a aU=>by
   obtain⟨j,aC,rfl⟩:=List.mem_iff_getElem.1 aU;exact bq.cin.act j aC) av h1
  refine XX hu (.inr (by have:=Ry (m:=m) (q:=q) 0;omega)) fun ai=>?_;obtain⟨_,I,ab⟩:=abh bq.inst.ao bq.inst.aq bq.inst.Wu
  have:=bq.b2
  omega
theorem anV{m:Model}(aS:eD m){s t:C_ Int}{c:dr}(av:Fits m s)(aA:Fits m t)(hw:ways c m.ar=2):Fits m (lost m s t c):=by
 obtain⟨j,aC,kK⟩:=Gx hw;have sj:=kX kK;have hS:=(aS.chan _ (Gy kK)).cap;have eE:=oN kK;unfold lost;rw[aC,AF4];have dv:(chanOf m s j).length=1+fH m j:=n0 (by rw[av.len];omega);refine OK aA kK Aw dv ?_
 have:=av.queue j kK
 unfold mM at this;unfold chanOf;rw[eE];exact this
def lk(m:Model)(s t:C_ Int)(c:dr)(way:Int):C_ Int:=if way=1 then lost m s t c else t
theorem Mk{m:Model}{s t:C_ Int}{c:dr}{l:C_ Int}{way:Int}(av:s.length=c6 m)(h:eH s t l)(hw:way<ways c m.ar):eH s (lk m s t c way) l:=by
 unfold lk;split
 .have:=Mm c m.ar
  exact anU av h Aw
 .exact h
theorem Ml{m:Model}(aS:eD m){s t:C_ Int}{c:dr}{way:Int}(av:Fits m s)(aA:Fits m t)(hw:way<ways c m.ar):Fits m (lk m s t c way):=by
 unfold lk;split
 .have:=Mm c m.ar
  exact anV aS av aA Aw
 .exact aA
theorem ad6{m:Model}{s two ae t:C_ Int}{c:dr}{way:Int}{b:C_ Int}(ak:s.length=c6 m)(I:two.length=c6 m)(aJ:ae.length=c6 m)(aA:t.length=c6 m)(hw:way<ways c m.ar)
  (aU:∀x:Nat,(x:Int)∈b->t[x]? = ae[x]?)(fS:∀x:Nat,(x:Int)∈b->two[x]? = s[x]?):∀x:Nat,(x:Int)∈b->(lk m two t c way)[x]? = (lk m s ae c way)[x]? := by
 intro x af;unfold lk;split
 .have QX:=Mm c m.ar;obtain⟨j,aC,kK⟩:=Gx (m:=m) (c:=c) Aw;have sj:=kX kK;unfold lost;rw[aC,AF4];have eh:(chanOf m two j).length=1+fH m j:=n0 Aw;have eo:(chanOf m s j).length=1+fH m j:=n0 Aw;rw[sl Aw,sl Aw,eh,eo];split
  .rename_i aG;unfold chanOf;rw[List.getElem?_take_of_lt Aw,List.getElem?_drop,List.getElem?_take_of_lt Aw,List.getElem?_drop,show b6 m j+(x - b6 m j)=x from Aw];exact fS x af
  .exact aU x af
 .exact aU x af
theorem asa{m:Model}{x y:Int}{q p k ei eX k':Nat}(af:ez m x q p k)(bK:ez m y ei eX k'){s bI bO a b cp fG:C_ Int}{v w:Int}(av:Fits m s)
  (bD:kz m x a b)(O6:kz m y cp fG)(ax:¬rQ a b cp fG)(h1:fA m s q (bx m p k)=some bI)(I:fA m s ei (bx m eX k')=some bO)(aD:v<ways (bx m p k) m.ar)(hw:w<ways (bx m eX k') m.ar) :
  ∃t1 t2,fA m (lk m s bO (bx m eX k') w) q (bx m p k)=some t1/\fA m (lk m s bI (bx m p k) v) ei (bx m eX k')=some t2 /\
   lk m (lk m s bO (bx m eX k') w) t1 (bx m p k) v=lk m (lk m s bI (bx m p k) v) t2 (bx m eX k') w:=by
 have aS:=iu af.ok;obtain⟨aU,an⟩:=bD.there q p k af;obtain⟨YJ,qf⟩:=O6.there ei eX k' bK;have c1:=Mk av.len (DQ af.inst.ao rfl af.cin av.len h1) aD;have c2:=Mk av.len (DQ bK.inst.ao rfl bK.cin av.len I) hw;have f1:=Bw af av h1;have f2:=Bw bK av I;have uI:=Ml aS av f1 aD;have j9:=Ml aS av f2 hw;have jy:∀z,z∈b->z∈fG->False:=fun z cq cB=>ax (.inl ⟨z,cq,cB⟩);have ke:∀z,z∈b->z∈cp->False:=fun z cq cB=>ax (.inr (.inl ⟨z,cq,cB⟩));have o5:∀z,z∈a->z∈fG->False:=fun z cq cB=>ax (.inr (.inr ⟨z,cq,cB⟩));have pos:∀{r q p k} (_:ez m r q p k) {a b:C_ Int},qU (ow m q (bx m p k) (bx m p k).bE.length) a->qU (l6 m q (bx m p k) (bx m p k).bE.length) b->∀z∈a++b,0<=z:=fun {r q p k} bq {a b} am5 am6 z bw=>by
  rcases List.mem_append.1 bw with bw | bw
  .exact((Sg aS bq.inst bq.cin _ (Gf _)).aQ z ((am5.mem z).1 bw)).1
  .exact(aei bq z ((am6.mem z).1 bw)).1
 generalize ts:lk m s bI (bx m p k) v=one at *;generalize Fg:lk m s bO (bx m eX k') w=two at *;have g1:jD s one (cp++fG):=fun z bw=>Classical.byContradiction fun b8=>by
  have ad:=pos bK YJ qf z bw
  have:=c1.2 z.toNat (fun e=>b8 e.symm)
  rw[show((z.toNat:Nat):Int)=z from Aw] at this;have wG:=(an.mem z).2 this;rcases List.mem_append.1 bw with bw | bw
  .exact ke z wG bw
  .exact jy z wG bw
 have g2:jD s two (a++b):=fun z bw=>Classical.byContradiction fun b8=>by
  have ad:=pos af aU an z bw
  have:=c2.2 z.toNat (fun e=>b8 e.symm)
  rw[show((z.toNat:Nat):Int)=z from Aw] at this;have wG:=(qf.mem z).2 this;rcases List.mem_append.1 bw with bw | bw
  .exact o5 z bw wG
  .exact jy z bw wG
 have xl:=acH bK av uI (l:=cp++fG) (fun z bw=>AG3 _ ((YJ.mem z).2 bw)) (fun z bw=>AF5 _ ((qf.mem z).2 bw)) g1;have xm:=acH af av j9 (l:=a++b) (fun z bw=>AG3 _ ((aU.mem z).2 bw)) (fun z bw=>AF5 _ ((an.mem z).2 bw)) g2;rw[I] at xl;rw[h1] at xm;cases e2:fA m one ei (bx m eX k') with
 | none=>rw[e2] at xl;exact xl.elim
 | some t2 =>
  cases e1:fA m two q (bx m p k) with
  | none=>rw[e1] at xm;exact xm.elim
  | some t1 =>
   rw[e2] at xl;rw[e1] at xm;have aiP:=Bw bK uI e2;have aiO:=Bw af j9 e1;have d2:=Mk uI.len (DQ bK.inst.ao rfl bK.cin uI.len e2) hw;have d1:=Mk j9.len (DQ af.inst.ao rfl af.cin j9.len e1) aD;have s2:∀x:Nat,(x:Int)∈b->two[x]? = s[x]? := fun x ft=>Classical.byContradiction fun b8=>jy _ ft ((qf.mem _).2 (c2.2 x b8));have s1:∀x:Nat,(x:Int)∈fG->one[x]? = s[x]? := fun x ft=>Classical.byContradiction fun b8=>jy _ ((an.mem _).2 (c1.2 x b8)) ft;have w1:=ad6 (way:=v) (b:=b) av.len j9.len f1.len aiO.len aD (fun x ft=>by
    have:=xm.1 (x:Int) (AF5 _ ft)
    rw[AF4] at this;exact this.symm) s2
   have aB:=ad6 (way:=w) (b:=fG) av.len uI.len f2.len aiP.len hw (fun x ft=>by
    have:=xl.1 (x:Int) (AF5 _ ft)
    rw[AF4] at this;exact this.symm) s1
   rw[ts] at w1;rw[Fg] at aB;refine⟨t1,t2,rfl,rfl,List.ext_getElem? fun c=>?_⟩;by_cases JY:(c:Int)∈b
   .have m1:(lk m one t2 (bx m eX k') w)[c]? = one[c]? := Classical.byContradiction fun b8=>jy _ JY ((qf.mem _).2 (d2.2 c b8));rw[m1,w1 c JY]
   .have m1:(lk m two t1 (bx m p k) v)[c]? = two[c]? := Classical.byContradiction fun b8=>JY ((an.mem _).2 (d1.2 c b8));by_cases Ro:(c:Int)∈fG
    .rw[m1,aB c Ro]
    .have m2:(lk m one t2 (bx m eX k') w)[c]? = one[c]? := Classical.byContradiction fun b8=>Ro ((qf.mem _).2 (d2.2 c b8));have m3:one[c]? = s[c]? := Classical.byContradiction fun b8=>JY ((an.mem _).2 (c1.2 c b8));have m4:two[c]? = s[c]? := Classical.byContradiction fun b8=>Ro ((qf.mem _).2 (c2.2 c b8));rw[m1,m2,m3,m4]
def xx(m:Model)(s:C_ Int)(r:Nat):Prop := ∃q p k,ez m r q p k/\fA m s q (bx m p k)≠none
def u2(m:Model)(s:C_ Int)(j:Nat):Int:=(s[da m j]?).getD 0
structure qL(m:Model)(s:List Int)(j:Nat):Prop where
 loc:Ct m j (u2 m s j)=true
 HU:∀r,nP m j (u2 m s j) r->xc m r=false
 on:∃r,nP m j (u2 m s j) r/\xx m s r
structure sM(m:Model)(s:List Int)(i:Int):Prop where
 bad:¬hB m s->i = -1
 none:hB m s->i<0->i = -1/\∀j,j<(insts m).length->¬qL m s j
 some:hB m s->0<=i->i.toNat<(insts m).length/\qL m s i.toNat/\∀j,j<i.toNat->¬qL m s j
theorem sM.eq{m:Model}{s:C_ Int}{i qA:Int}(h:sM m s i)(k:sM m s qA):i=qA:=by
 by_cases bD:hB m s
 .by_cases h1:i<0
  .obtain⟨e1,jy⟩:=h.none bD h1;by_cases I:qA<0
   .rw[e1,(k.none bD I).1]
   .obtain⟨a,b,_⟩:=k.some bD Aw;exact absurd b (jy _ a)
  .obtain⟨a,b,c⟩:=h.some bD Aw;by_cases I:qA<0
   .exact absurd b ((k.none bD I).2 _ a)
   .obtain⟨cp,fG,kC⟩:=k.some bD Aw;rcases Nat.lt_trichotomy i.toNat qA.toNat with q | q | q
    .exact absurd b (kC _ q)
    .omega
    .exact absurd fG (c _ q)
 .rw[h.bad bD,k.bad bD]
theorem xx.from_{m:Model}{s:C_ Int}{r q p k:Nat}(bq:ez m r q p k)(av:Fits m s)(h:fA m s q (bx m p k)≠none):(bx m p k).from_=u2 m s q:=by
 unfold fA at h;split at h
 .exact absurd rfl h
 .rename_i ao;unfold u2
  have:s[da m q]? = some (bx m p k).from_:=Classical.not_not.1 ao
  rw[this];rfl
theorem abB{m:Model}{s:C_ Int}{x:jk}(bD:hB m s)(af:x∈gh m s)(ad:0<=x.cmd):∃q p k u,ez m x.cmd q p k/\fA m s q (bx m p k)=some u/\0<=x.way/\x.way<ways (bx m p k) m.ar/\x.to=lk m s u (bx m p k) x.way:=by
 rcases abz bD.1 af with ⟨ax,_⟩ | ⟨q,p,k,u,h⟩
 .omega
 .refine⟨q,p,k,u,h.at_,h.ahc,?_⟩;have aq:=asU (bx m p k) m.ar;rcases h.asj with ⟨hw,aA⟩ | ⟨hw,I,aA⟩
  .rw[hw];exact⟨Aw,Aw,by rw[aA];unfold lk;rw[if_neg Aw]⟩
  .rw[hw];exact⟨Aw,Aw,by rw[aA];unfold lk;rw[if_pos rfl]⟩
theorem apv{m:Model}{s:C_ Int}{i:Nat}(bD:hB m s)(dI:qL m s i){x y:jk}(af:x∈gh m s)(bK:y∈gh m s)(z6:0<=x.cmd)(amC:0<=y.cmd)
  {r r':Nat}(aG:x.cmd=r)(pI:y.cmd=r')(tA:r<(refs m).length)(Q6:r'<(refs m).length)(au6:(refs m)[r].inst=(i:Int))(amF:(refs m)[r'].inst≠(i:Int)){t1 t2:C_ Int}{e1 e2:Int}
  (d1:mE m y.to x.cmd x.way t1 e1)(d2:mE m x.to y.cmd y.way t2 e2):e1=0/\e2=0/\t1=t2:=by
 obtain⟨q,p,k,u,bq,a6,Cl,hh,aA⟩:=abB bD af z6;obtain⟨ei,eX,k',kg,q6,Zh,amt,QT,sk⟩:=abB bD bK amC;rw[aG] at bq d1;rw[pI] at q6 d2;have aS:=iu bD.1;have ao:q=i:=by have:=bq.at_.ox;simp only[Int.toNat_natCast] at this;omega
 subst ao;have sf:nP m q (u2 m s q) r:=⟨q,p,k,bq,rfl,xx.from_ bq bD.2 (by rw[a6];simp)⟩;obtain⟨L,ju⟩:=S2 m (refs m).length;have az:=dI.loc;unfold Ct at az;have hf:=(@of_decide_eq_true _ (Classical.propDecidable _) az).2 L ju;have aac:r<L.length:=by rw[ju.len];exact tA
 have aad:r'<L.length:=by rw[ju.len];exact Q6
 have ax:=hf r sf r' Q6 amF _ _ (List.getElem?_eq_getElem aac) (List.getElem?_eq_getElem aad);obtain⟨cZ,a2,br,bP,bR⟩:=asa bq q6 bD.2 (ju.is r aac) (ju.is r' aad) ax a6 Zh hh QT;have f1:=Ml aS bD.2 (Bw bq bD.2 a6) hh;have f2:=Ml aS bD.2 (Bw q6 bD.2 Zh) QT;obtain⟨g1,g2⟩:=d1.f3 q p k cZ ⟨bD.1,by rw[sk];exact f2⟩ bq ⟨Cl,hh⟩ (by rw[sk];exact br);obtain⟨g3,g4⟩:=d2.f3 ei eX k' a2 ⟨bD.1,by rw[aA];exact f1⟩ q6 ⟨amt,QT⟩ (by rw[aA];exact bP);refine⟨g2,g4,?_⟩;rw[g1,g3];unfold lk at bR;rw[aA,sk];unfold lk;exact bR
def BL(m:Model)(r:Nat):Int:=match (refs m)[r]? with
 | some x=>(bx m (yH m x.inst.toNat) x.cmd.toNat).from_
 | none=>0
def Aa(m:Model)(r:Nat):Int:=match (refs m)[r]? with
 | some x=>x.inst
 | none => -1
def pA(m:Model)(q l:Int)(r:Nat):Bool:=decide (Aa m r=q)&&decide (BL m r=l)
theorem ez.rel{m:Model}{r q p k:Nat}(h:ez m r q p k):Aa m r=q/\BL m r=(bx m p k).from_:=by
 have h1:=h.U;have c4:=h.at_;simp only[Int.toNat_natCast] at h1 c4;have e1:(refs m)[r].inst.toNat=q:=by have:=c4.ox;omega
 have e2:(refs m)[r].cmd.toNat=k:=by have:=c4.sA;omega
 have a1:yH m q=p:=by
  unfold yH;rw[List.getElem?_eq_getElem c4.U]
  have:=c4.ip
  simp only;omega
 unfold Aa BL;rw[List.getElem?_eq_getElem h1];simp only[e1,e2,a1,and_true];exact c4.ox
theorem It{m:Model}{q l:Int}{r:Nat}(hk:(check m).cC=0)(aG:r<(refs m).length):pA m q l r=true↔nP m q l r:=by
 obtain⟨ei,p,k,bq⟩:=oO (m:=m) (ref:=r) ⟨hk,Aw,Aw⟩;obtain⟨h1,I⟩:=bq.rel;rw[X5 bq];unfold pA;rw[h1,I,Bool.and_eq_true,decide_eq_true_eq,decide_eq_true_eq]
structure aeB(m:Model)(s:List Int)(q l:Int):Prop where
 loc:Ct m q l=true
 HU:∀r,nP m q l r->xc m r=false
 on:∃r,nP m q l r/\xx m s r
theorem ahz{m:Model}{s:C_ Int}{j:Nat}:qL m s j↔aeB m s j (u2 m s j):=⟨fun h=>⟨h.loc,h.HU,h.on⟩,fun h=>⟨h.loc,h.HU,h.on⟩⟩
def sy(m:Model)(i:Int)(x:jk):Bool:=decide (0<=x.cmd)&&decide (Aa m x.cmd.toNat=i)
def lf(m:Model)(s:C_ Int)(i:Int):C_ jk:=if i<0 then gh m s else (gh m s).filter (sy m i)
theorem aof{m:Model}{s:C_ Int}(hk:(check m).cC=0){x:jk}(af:x∈gh m s):x.cmd = -1\/(0<=x.cmd/\x.cmd.toNat<(refs m).length):=by
 rcases abz hk af with ⟨h,_⟩ | ⟨q,p,k,u,h⟩
 .exact .inl h
 .exact .inr ⟨h.at_.aQ,h.at_.U⟩
end o
end