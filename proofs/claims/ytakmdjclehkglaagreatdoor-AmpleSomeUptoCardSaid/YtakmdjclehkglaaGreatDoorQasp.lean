/- Parts. -/
import Derived.Test.YtakmdjclehkglaaGreatDoorQaso
import Derived.Shelf.SlSortCmp.WholeK
import Derived.Shelf.SlSortCmp.NoneTotal
set_option linter.all false
set_option maxRecDepth 8000
set_option maxHeartbeats 16000000
section
namespace ba
open Go Go.RowKit
def oo(ae:C_ Bool):C_ B_:=ae.map Value.bool
theorem asd(n:Nat):rT (Value.bool false).cells (n*1)=(oo (List.replicate n false)).toArray:=by
 apply Array.ext_getElem?;intro i;by_cases h:i<n
 .simp[rT,oo,Value.cells,h,Nat.mod_one]
 .simp[rT,oo,h]
theorem AD4{cT:B_->A_->Prop}{w:A_}{e:F_}{n:Int}{t}(N:Nat)(az:n=N)(ao:N<=1000000)(hk:∀w1 b,w.heap.size<=b->Ext w w1->w1.heap[b]? = some (.cells (oo (List.replicate N false)).toArray e)->cT (.slice (some ⟨b,0,none⟩) N N) w1) :
  Bd e 1 1 (.bool false) (.I n) (.I n) w cT t:=by
 subst az;refine _6 ⟨AK,AK,AK,AK⟩ ?_;have h:=hk (w.alloc (.cells (oo (List.replicate N false)).toArray e)) _ (GA _) ((Ext.refl w).alloc _) (heap_alloc_new w _);rw[AG9,asd];exact h
theorem AD5{b c:Nat}{ae:C_ Bool}{w:A_}{e:F_}{KW:A_->Prop}{t}(h:w.heap[b]? = some (.cells (oo ae).toArray e))(an:c<ae.length)
  (hk:∀w1,dy b w w1->w1.heap[b]? = some (.cells (oo (ae.set c true)).toArray e)->KW w1):qZ (.pointer (some (Addr.add ⟨b,0,none⟩ (c*1)))) (.bool true) w KW t:=by
 have ak:c<(oo ae).toArray.size:=by simp[oo];exact an
 rw[AG5];refine _1 (fW h (Array.getElem?_eq_getElem ak)) (by rw[add_eq];simp[World.frozen?,h]) rfl (hk _ ?_ ?_)
 .have:=dy.setCell w (Addr.add ⟨b,0,none⟩ c) (.bool true)
  rwa[MJ] at this
 .rw[Gz h ak];simp[oo,List.map_set]
end ba
namespace Go.Proofs.R
open Go Go.RowKit ba
structure mY(w:World)(bM b N:Nat)(L:List Int):Prop where
 box:w.heap[bM]? = some (.cells #[.slice (some ⟨b,0,none⟩) N N] T.q1)
 row:∃ae,w.heap[b]? = some (.cells (oo ae).toArray T.ae)/\o.oZ N L ae
theorem mY.ne{w:A_}{bM b N:Nat}{L:C_ Int}(h:mY w bM b N L):¬bM=b:=fun e=>by
 obtain⟨ae,h1,_⟩:=h.row;subst e;have I:=h.box;rw[h1] at I;injection I with I
 injection I with _ I
 revert I;decide
theorem mY.ext{w w':A_}{bM b N:Nat}{L:C_ Int}(h:mY w bM b N L)(he:Ext w w'):mY w' bM b N L:=by
 obtain⟨ae,h1,I⟩:=h.row;exact⟨he.obj h.box,ae,he.obj h1,I⟩
theorem mY.other{w:A_}{bM b N k:Nat}{L:C_ Int}{cs:Array B_}{t:F_}(h:mY w bM b N L)(hk:w.heap[k]? = some (.cells cs t))(aB:t≠T.ae):¬k=b:=fun e=>by
 obtain⟨ae,h1,_⟩:=h.row;subst e;rw[h1] at hk;injection hk with hk
 injection hk with _ hk
 exact aB hk.symm
theorem mY.congr{w:A_}{bM b N:Nat}{L nv:C_ Int}(h:mY w bM b N L)(e:∀x,x∈L↔x∈nv):mY w bM b N nv:=by
 obtain⟨ae,h1,I⟩:=h.row;exact⟨h.box,ae,h1,I.congr e⟩
theorem Lv(c bM b N:Nat)(L:C_ Int)(x:Int)(w:A_)(h:mY w bM b N L)(ag:x=c)(an:c<N)(fM:N<=1000000) :
  DD F.DR #[.I x,.pointer (some ⟨bM,0,none⟩)] w fun _ w'=>mY w' bM b N (L++o.gQ c 1)/\Mod (fun k=>k=b) w w':=by
 subst ag;have cz:=h.ne;obtain⟨ae,h1,I⟩:=h.row;have ow:=h.box;have aC:=I.len;refine br E.DR ?_;refine J ?_;refine AD5 h1 AK fun w1 iy al=>?_;refine J ?_;refine⟨⟨iy.obj ow cz,_,al,?_⟩,iy.mod rfl⟩;rw[o.Gu];exact I.put an
theorem agk(x:o.Node)(cs ys:C_ B_)(bL:B_)(bM b:Nat)(L:C_ Int)(m:o.Model)(w0 w:A_)(h:o.eh w0 cs m)(cY:o.kK w0 ys (o.layout m))(aZ:ku w0 bL (o.insts m))(he:Ext w0 w)(sg:w0.heap.size<=b)
  (cc:mY w bM b (o.dN m) L)(aW:o.eX m)(ag:o.Bk m x)(dh:x.ok) :
  DD F.d5 #[.agg cs.toArray,.agg ys.toArray,bL,.agg x.enc.toArray,.func (.func F.DR) #[] #[.pointer (some ⟨bM,0,none⟩)]] w fun _ w'=>mY w' bM b (o.dN m) (L++o.hW m 0 false x)/\Mod (fun k=>k=b) w w':=by
 have Qe:=dh.op;have Qd:=dh.n;unfold o.ee at Qe Qd;obtain⟨eK,d0,dM,d1,et,d2,eB,d3,eL,d4,rfl,af,h1,I,ab,aH,e2,eE,eJ,er,eH⟩:=h.form;obtain⟨b6,bx,bR,c1,bX,c2,bZ,bu,ca,bC,rfl,en,dU,du,eW,fQ⟩:=cY.form;obtain⟨cn,ci,rfl,_⟩:=aZ.form;obtain⟨f5,f6,f8⟩:=o.tI m;have ri:o.dN m<=64:=o.jd aW;refine br E.d5 ?_;refine J ?_;intro w1 dR kT ai b9;refine J ?_;intro aD ez gm aj cb;replace b9:=aj.obj b9;refine J ?_;intro aN iI ov ah cG;replace b9:=ah.obj b9;replace cb:=ah.obj cb;have fJ:=(ai.trans aj).trans ah;have yZ:=he.trans fJ;have yc:=cc.ext fJ;have n5:=yc.other b9 BN;have n6:=yc.other cb BN;have n8:=yc.other cG BN;unfold o.Node.enc at cG;refine J ?_;apply I_<;>intro g2
 .obtain⟨az,gI,aC⟩:=ag.var aW g2;obtain⟨a0,rfl⟩:=en.addr;have au8:=en.ext Flat.ext yZ;obtain⟨eV,hP⟩:=o.xr az;have aP:=o.ac2 az;have hq:x.n=(x.n.toNat:Nat):=AK
  rw[hq] at cG;have aJ:o.hW m 0 false x=o.gQ (o.hn m x.n.toNat) 1:=by unfold o.hW;rw[if_pos g2]
  rw[aJ];refine J ?_;refine V_ (first:=[]) (cap:=[.pointer (some ⟨bM,0,none⟩)]) Ct (Lv (o.hn m x.n.toNat) bM b _ L _ aN yc (by rw[hP]) AK AK) ?_;rintro _ aU ⟨ly,jY⟩;refine J ?_;exact⟨ly,fJ.mod.trans jY⟩
 refine J ?_;apply I_<;>intro g3
 .obtain⟨az,gI,akG,pb,dr,atQ⟩:=ag.item aW g3;obtain⟨a0,rfl⟩:=en.addr;obtain⟨asy,rfl⟩:=af.addr;obtain⟨asz,rfl⟩:=h1.addr;obtain⟨eV,hP⟩:=o.xr az;have aP:=o.ac2 az;have hq:x.n=(x.n.toNat:Nat):=AK
  have a7:o.hW m 0 false x=o.gQ (o.hn m x.n.toNat) (o.ph m x.n.toNat):=by
   unfold o.hW o.rD;rw[if_neg g2,if_pos g3,if_neg Bs]
  rw[hq] at cG;rw[a7];refine J ?_;refine K_ _ AK akG ?_;refine J ?_;intro aU ax;have eo:=yZ.trans ax;have Eu:=yc.ext ax;have OI:=ax.obj cb;have OJ:=ax.obj cG;clear cb cG b9;refine J ?_;refine L_ 40 (o.ph m x.n.toNat) [4,6,8,39] (fun _:Unit=>[]) () (fun k _ W=>mY W bM b (o.dN m) (L++o.gQ (o.hn m x.n.toNat) k)/\Mod (fun k=>k=b) aU W) bc bc ⟨by rw[o.abZ,AF1];exact Eu,Mod.refl _ _⟩ ?_;rintro k _ S bt hk ⟨pR,lM⟩;have cb:=lM.obj n6 OI;have cG:=lM.obj n8 OJ;have Rh:=en.ext Flat.ext (lM.ext eo fun i U e=>AK);refine J ?_;apply I_<;>intro g4
  .refine J ?_;refine V_ (first:=[]) (cap:=[.pointer (some ⟨bM,0,none⟩)]) Ct (Lv (o.hn m x.n.toNat+k) bM b _ _ _ bt pR (by rw[hP];omega) AK AK) ?_;rintro _ bz ⟨Cl,jZ⟩;refine J ?_;refine⟨AK,aL,(),trivial,?_,lM.trans jZ⟩;rw[o.Gu] at Cl;rw[o.abn];exact Cl
  .have jL:k=o.ph m x.n.toNat:=AK
   rw[jL] at pR;refine J ?_;exact⟨pR,(fJ.mod.trans ax.mod).trans lM⟩
 refine J ?_;apply I_<;>intro g6
 .obtain⟨gI,e1⟩:=ag.node.len g6;have fl:x.n.toNat<m.aw.length:=e1;obtain⟨db,rfl⟩:=dU.addr;have avb:=dU.ext Flat.ext yZ;obtain⟨kl,e0⟩:=o.s8 fl;have aP:=o.aeV fl;have hq:x.n=(x.n.toNat:Nat):=AK
  rw[hq] at cG;have cv:o.hW m 0 false x=o.gQ (o.cm m x.n.toNat) 1:=by
   unfold o.hW;rw[if_neg g2,if_neg g3,if_neg AK,if_pos g6]
  rw[cv];refine J ?_;refine V_ (first:=[]) (cap:=[.pointer (some ⟨bM,0,none⟩)]) Ct (Lv (o.cm m x.n.toNat) bM b _ L _ aN yc (by rw[e0]) AK AK) ?_;rintro _ aU ⟨ly,jY⟩;refine J ?_;exact⟨ly,fJ.mod.trans jY⟩
 refine J ?_;apply I_<;>intro g7;rotate_left
 .have fk:o.hW m 0 false x=[]:=by
   unfold o.hW;by_cases g4:x.op=4
   .have:=(ag.node.loc g4).2
    have e:(o.eR m).locals=[]:=rfl;rw[e] at this;cases this
   rw[if_neg g2,if_neg g3,if_neg g4,if_neg g6,if_neg g7]
  rw[fk,AF1];refine J ?_;exact⟨yc,fJ.mod⟩
 have dz:o.hW m 0 false x=o.s5 m (x.n.tdiv 16) (o.insts m).length:=by unfold o.hW;rw[if_neg g2,if_neg g3,if_neg AK,if_neg g6,if_pos g7]
 rw[dz];obtain⟨gI,tz⟩:=ag.node.at_ g7;have akI:(x.n.tdiv 16).toNat<m.procs.length:=tz;have akU:=Int.tdiv_nonneg gI (show(0:Int)<=16 by omega);have akM:=aW.procs;have akT : -9223372036854775808<=x.n.tdiv 16/\x.n.tdiv 16<=9223372036854775807:=AK
 have gM:=o.Fz aW;have se:∀{W},Mod (fun k=>k=b) aN W->Ext w0 W:=fun hm=>hm.ext yZ fun k hk e=>AK
 have OI:=cb;have OJ:=cG;clear cb cG b9;refine J ?_;refine L_ 68 (o.insts m).length [2,4,6,8,66,67] (fun _:Unit=>[]) () (fun k _ W=>Mod (fun i=>i=b) aN W/\mY W bM b (o.dN m) (L++o.s5 m (x.n.tdiv 16) k)) bc bc ⟨Mod.refl _ _,by simpa[o.s5] using yc⟩ ?_;rintro k _ S aU hk ⟨jY,Eu⟩;have cb:=jY.obj n6 OI;have cG:=jY.obj n8 OJ;have XA:=aZ.ext Flat.ext (se jY);refine J ?_;apply I_<;>intro g1
 .have cI:k<(o.insts m).length:=AK
  obtain⟨ij,rfl⟩:=aZ.addr;obtain⟨EW,qB⟩:=o.rB cI;have EX:=o.alI cI;obtain⟨a2,rfl⟩:=du.addr;have yK:=du.ext Flat.ext (se jY);refine J ?_;intro wn Bt tq fC eU;refine J ?_;intro bt fg iX;have aI:Ext aU bt:=fg.ext fC tq;replace cb:=aI.obj cb;replace cG:=aI.obj cG;replace yK:=yK.ext Flat.ext aI;have pR:=Eu.ext aI;have lM:=jY.trans aI.mod;clear Eu XA;refine J ?_;refine _J AK ?_;refine J ?_;apply I_<;>intro g2
  .refine J ?_;refine V_ (first:=[]) (cap:=[.pointer (some ⟨bM,0,none⟩)]) Ct (Lv (o.dG m k) bM b _ _ _ bt pR (by rw[qB]) AK AK) ?_;rintro _ bz ⟨Cl,jZ⟩;refine J ?_;refine⟨cI,aL,(),trivial,lM.trans jZ,?_⟩;rw[o.DG cI,if_pos g2,<-Vq];exact Cl
  .refine J ?_;refine⟨cI,aL,(),trivial,lM,?_⟩;rw[o.DG cI,if_neg g2,AF1];exact pR
 .have jL:(o.insts m).length=k:=AK
  rw[jL];refine J ?_;exact⟨Eu,fJ.mod.trans jY⟩
end Go.Proofs.R
end
section
namespace o
open Go
def nW(x y:Node):Prop:=x.op<y.op\/(x.op=y.op/\x.n<y.n)
def CA(x y:Node):Int:=if x.op=y.op/\x.n=y.n then 0 else if x.op<y.op\/(x.op=y.op/\x.n<y.n) then -1 else 1
theorem aaR{x y:Node}(h1:x.op=y.op)(I:x.n=y.n):x=y:=by cases x;cases y;simp_all
theorem ani(x:Node):¬nW x x:=by unfold nW;omega
theorem anj(x y z:Node)(h:nW x y)(k:nW y z):nW x z:=by unfold nW at *;omega
theorem Lc(x y:Node):CA x y<0↔nW x y:=by
 unfold CA nW;split
 .omega
 .split<;>omega
def uc (op:Int):Bool:=decide (op=2\/op=3\/op=4\/op=6\/op=7)
structure HC(e r:List Node):Prop where
 ns:r.Pairwise nW
 mem:∀x,x∈r↔x∈e/\uc x.op=true
def comp:C_ Node->C_ Node
 | []=>[]
 | [x]=>[x]
 | x :: y :: r=>if x.op=y.op/\x.n=y.n then comp (y :: r) else x :: comp (y :: r)
theorem Nq:∀(l:C_ Node) (x:Node),x∈comp l↔x∈l
 | [],x=>Iff.rfl
 | [y],x=>Iff.rfl
 | y :: z :: r,x=>by
  unfold comp;have fh:=Nq (z :: r) x;split
  .rename_i h
   have:y=z:=aaR h.1 h.2
   subst this;rw[fh];simp
  .rw[AJ5,fh,AJ5 (b:=y)]
theorem V9:∀(l:C_ Node),l.Pairwise (fun x y => ¬nW y x)->(comp l).Pairwise nW
 | [],_=>List.Pairwise.nil
 | [y],_=>by unfold comp;simp
 | y :: z :: r,h=>by
  unfold comp;rw[AJ1] at h;have fh:=V9 (z :: r) h.2;split
  .exact fh
  .rename_i cz;rw[AJ1];refine⟨fun x ag=>?_,fh⟩;rw[Nq] at ag;have auc:=h.1 z (AG6 ..);have cg:nW y z:=by unfold nW at *;omega
   rcases List.mem_cons.1 ag with e | e
   .rw[e];exact cg
   .have I:=h.2;rw[AJ1] at I
    have:=I.1 x e
    unfold nW at *;omega
structure asm(l:List Int)(n:Int)(r:List Int):Prop where
 ns:r.Pairwise (· < ·)
 mem:∀x,x∈r↔x∈l\/x=n
 len:r.length<=l.length+1
structure asn(e:List Node)(op:Int)(l:List Int):Prop where
 ns:l.Pairwise (· < ·)
 mem:∀n,n∈l↔∃x∈e,x.op=op/\x.n=n
 len:l.length<=e.length
def opsL:C_ Int:=[2,3,4,6,7]
structure asv(e:List Node)(k:Nat)(r:List Node):Prop where
 ns:r.Pairwise nW
 mem:∀x,x∈r↔x∈e/\x.op∈opsL.take k
 len:r.length<=k*e.length
theorem Nr:∀(l:C_ Node) (x y:Node),comp (l++[x,y])=if x.op=y.op/\x.n=y.n then comp (l++[x]) else comp (l++[x])++[y]
 | [],x,y=>by
  by_cases h:x.op=y.op/\x.n=y.n
  .have:x=y:=aaR h.1 h.2
   subst this;simp[comp]
  .simp[comp,h]
 | [a],x,y=>by
  have fh:=Nr [] x y;simp only[List.nil_append,List.cons_append] at fh ⊢;unfold comp;rw[fh];by_cases h:a.op=x.op/\a.n=x.n
  .simp only[if_pos h]
  .simp only[if_neg h];by_cases I:x.op=y.op/\x.n=y.n
   .simp[I,comp]
   .simp[I,comp]
 | a :: b :: l,x,y=>by
  have fh:=Nr (b :: l) x y;simp only[List.cons_append] at fh ⊢;unfold comp;rw[fh];by_cases h:a.op=b.op/\a.n=b.n
  .simp only[if_pos h]
  .simp only[if_neg h];by_cases I:x.op=y.op/\x.n=y.n
   .simp only[if_pos I]
   .simp only[if_neg I,List.cons_append]
theorem Ns{l:C_ Node}{n:Nat}(h1:1<=n)(I:n<l.length):comp (l.take (n+1))=if l[n - 1].op=l[n].op/\l[n - 1].n=l[n].n then comp (l.take n) else comp (l.take n)++[l[n]]:=by
 obtain⟨k,rfl⟩:∃k,n=k+1:=⟨n - 1,AK⟩;have bB:l.take (k+1)=l.take k++[l[k]]:=Ly AK;have aJ:l.take (k+1+1)=l.take k++[l[k],l[k+1]]:=by rw[Ly I,bB,Vq];rfl
 rw[aJ,Nr,bB];rfl
theorem Np:∀l:C_ Node,(comp l).length<=l.length
 | []=>GA _
 | [x]=>GA _
 | x :: y :: r=>by
  have:=Np (y :: r)
  unfold comp;split
  .simp only[List.length_cons] at this ⊢;omega
  .simp only[List.length_cons] at this ⊢;omega
theorem V8{l:C_ Node}(h:l.length<2):comp l=l:=by
 match l,h with
 | [],_=>rfl
 | [x],_=>rfl
 | x :: y :: r,h=>simp at h;omega
theorem afR{l:C_ Node}:comp (l.take 1)=l.take 1:=V8 (by rw[K9];omega)
end o
namespace ba
open Go Go.RowKit
theorem RI:∀(cs:C_ B_) (w:A_) (b ae i:Nat) (cur:Array B_) (e:F_),w.heap[b]? = some (.cells cur e)->ae+i+cs.length<=cur.size ->
  ∃l2,(iC w ⟨b,ae,none⟩ cs i).heap[b]? = some (.cells l2 e)/\l2.size=cur.size/\(∀j,j<ae+i\/ae+i+cs.length<=j->l2[j]? = cur[j]?)/\∀j (h:j<cs.length),l2[ae+i+j]? = some cs[j]
 | [],w,b,ae,i,cur,e,ao,_=>⟨cur,ao,rfl,fun _ _=>rfl,fun j h=>absurd h (K8 _)⟩
 | c :: cs,w,b,ae,i,cur,e,ao,aC=>by
  have aF:ae+i<cur.size:=by simp at aC;omega
  have h1:=Gz ao aF c;have kP:Addr.add ⟨b,0,none⟩ (ae+i)=Addr.add ⟨b,ae,none⟩ i:=by rw[add_eq,add_eq,AE8]
  rw[kP] at h1;obtain⟨l2,cE,cW,fz,iA⟩:=RI cs _ b ae (i+1) _ e h1 (by simp at aC ⊢;omega);refine⟨l2,cE,by simpa using cW,fun j mE=>?_,fun j h=>?_⟩
  .rw[fz j (by simp at mE ⊢;omega),Array.getElem?_set_ne _ (by simp at mE;omega)]
  .cases j with
   | zero =>
    rw[AJ2,fz (ae+i) AK,Array.getElem?_set_self];rfl
   | succ j =>
    have:=iA j (by simpa using h)
    rw[show ae+i+(j+1)=ae+(i+1)+j from AK,this];rfl
end ba
namespace Go.Proofs.R
open Go Go.RowKit ba
theorem DU{w:A_}{b j:Nat}{c:Array B_}{t:F_}{v:B_}(h:w.heap[b]? = some (.cells c t))(aF:c[j]? = some v):w.cell? ⟨b,j,none⟩=some v:=by
 simp[World.cell?,h,aF]
structure hz(w:World)(b:Nat)(l:List o.Node):Prop where
 ex:∃cur,w.heap[b]? = some (.cells cur T.h)/\2*l.length<=cur.size/\∀i (h:i<l.length),cur[2*i]? = some (.int .i64 l[i].op)/\cur[2*i+1]? = some (.int .i64 l[i].n)
theorem hz.mod{w w':A_}{b:Nat}{l:C_ o.Node}{A:Nat->Prop}(h:hz w b l)(hm:Mod A w w')(dg:¬A b):hz w' b l:=by
 obtain⟨cur,h1,I,ab⟩:=h.ex;exact⟨cur,hm.obj dg h1,I,ab⟩
theorem hz.ext{w w':A_}{b:Nat}{l:C_ o.Node}(h:hz w b l)(he:Ext w w'):hz w' b l:=by
 obtain⟨cur,h1,I,ab⟩:=h.ex;exact⟨cur,he.obj h1,I,ab⟩
theorem hz.at_{w:A_}{b:Nat}{l:C_ o.Node}(h:hz w b l){i:Nat}(U:i<l.length):fi w ⟨b,2*i,none⟩ l[i].enc:=by
 obtain⟨cur,h1,I,ab⟩:=h.ex;have e:(⟨b,2*i,none⟩:Addr)=Addr.add ⟨b,0,none⟩ (2*i):=by rw[add_eq,AE8]
 intro j v aF;obtain⟨cE,cW⟩:=ab i U;rw[e,add_eq,add_eq,AE8]
 match j,aF with
 | 0,aF =>
  have:v = .I l[i].op:=by simpa[o.Node.enc] using aF.symm
  subst this;exact DU h1 cE
 | 1,aF =>
  have:v = .I l[i].n:=by simpa[o.Node.enc] using aF.symm
  subst this;exact DU h1 cW
 | n+2,aF=>simp[o.Node.enc] at aF
theorem hz.take{w:A_}{b:Nat}{l:C_ o.Node}(h:hz w b l)(k:Nat):hz w b (l.take k):=by
 obtain⟨cur,h1,I,ab⟩:=h.ex;refine⟨cur,h1,by rw[K9];omega,fun i U=>?_⟩;rw[K9] at U
 have:=ab i AK
 simpa using this
theorem hz.acx{w:A_}{b c:Nat}{l:C_ o.Node}(h:hz w b l)(an:l.length<=c)(hm:c<=maxLen):bn 2 (Flat o.Node.enc) w (.slice (some ⟨b,0,none⟩) l.length c) l :=
 ⟨_,_,rfl,an,hm,fun _=>rfl,fun a aV i U=>by
  injection aV with aV;subst aV
  have:=h.at_ U
  rw[show(⟨b,2*i,none⟩:Addr)=Addr.add ⟨b,0,none⟩ (i*2) from by rw[add_eq,AE8,AH8]] at this;exact this⟩
theorem hz.set{w:A_}{b i:Nat}{l:C_ o.Node}(h:hz w b l)(U:i<l.length)(x:o.Node):hz (iC w ⟨b,2*i,none⟩ x.enc 0) b (l.set i x):=by
 obtain⟨cur,h1,I,ab⟩:=h.ex;obtain⟨l2,cE,cW,fz,iA⟩:=RI x.enc w b (2*i) 0 cur _ h1 (by simp[o.Node.enc];omega);refine⟨l2,cE,by rw[AE9,cW];exact I,fun j aF=>?_⟩;rw[AE9] at aF;have a0:=iA 0 (by simp[o.Node.enc]);have db:=iA 1 (by simp[o.Node.enc]);by_cases e:i=j
 .subst e;rw[AK4];simp only[Nat.add_zero,o.Node.enc] at a0 db;exact⟨a0,db⟩
 .rw[List.getElem_set_ne e,fz _ (by simp[o.Node.enc];omega),fz _ (by simp[o.Node.enc];omega)];exact ab j aF
theorem hz.cut{w:A_}{b k:Nat}{l:C_ o.Node}{zs:C_ B_}(h:hz w b l)(bI:2*k+zs.length<=2*l.length):hz (iC w ⟨b,2*k,none⟩ zs 0) b (l.take k):=by
 obtain⟨cur,h1,I,ab⟩:=h.ex;obtain⟨l2,cE,cW,fz,_⟩:=RI zs w b (2*k) 0 cur _ h1 AK;refine⟨l2,cE,by rw[K9,cW];omega,fun j aF=>?_⟩;rw[K9] at aF;rw[AI7,fz _ AK,fz _ AK];exact ab j AK
theorem asb{P:D_}{ty:F_}{z:B_}(h:(P.info? ty).bind (·.zero)=some z)(w:A_):(zeroValue ty).run P w = .ok z w:=by
 cases U:P.info? ty with
 | none=>rw[U] at h;cases h
 | some i =>
  rw[U] at h;have I:i.zero=some z:=h;simp[zeroValue,ua U,I]
theorem anc(x:o.Node):∀c∈x.enc.toArray.toList,c.oneCell'=true:=by simp[o.Node.enc,Value.oneCell']
theorem hz.free{w:A_}{b:Nat}{l:C_ o.Node}(h:hz w b l){j:Nat}(aF:j<2*l.length):(∃hD,w.cell? ⟨b,j,none⟩=some hD)/\w.frozen? ⟨b,j,none⟩=false:=by
 obtain⟨cur,h1,I,_⟩:=h.ex;exact⟨⟨cur[j]' AK,DU h1 (Array.getElem?_eq_getElem AK)⟩,by simp[World.frozen?,h1]⟩
theorem AD6{w:A_}{b i:Nat}{l:C_ o.Node}{x:o.Node}{a:Addr}{KW:A_->Prop}{t}(h:hz w b l)(aV:a=⟨b,2*i,none⟩)(U:i<l.length)(hk:∀w1,dy b w w1->hz w1 b (l.set i x)->KW w1) :
  zf 2 (.pointer (some a)) (.agg x.enc.toArray) w KW t:=by
 subst aV;refine _5 rfl (fun j aF=>?_) (anc x) (hk _ (dy.iC _ w ⟨b,2*i,none⟩ 0) (h.set U x));rw[add_eq];exact h.free AK
theorem AD7{S:Fr}{w:A_}{b k n cap:Nat}{l:C_ o.Node}{x:G_}{aQ:H_ Addr}{cT:B_->A_->Prop}{ty:F_}{t}(h:hz w b l)(ag:aX S x = .slice aQ n cap)(az:k+n=l.length)(aV:0<n->aQ=some ⟨b,2*k,none⟩)
  (hk:∀v w1,Mod (fun i=>i=b) w w1->hz w1 b (l.take k)->cT v w1):sP Tryz.prog (.call ⟨.builtin .clear,#[x],#[T.u]⟩) ty S w cT t:=by
 have bI:∀w:A_,(zeroValue T.h).run Tryz.prog w = .ok (.agg #[.I 0,.I 0]) w:=asb Ct;have hu:Tryz.prog.underlying T.u=some (.slice T.h):=Ct
 cases n with
 | zero =>
  refine _D (v:=.tuple #[]) (w':=w) ?_ (hk _ _ (Mod.refl _ _) (h.take k));cases aQ<;>simp[execOp,resolve,invoke,builtin,ag,Builtin.clear_,run_underlying hu]
 | succ n =>
  obtain rfl:=aV AK;refine _D (v:=.tuple #[]) (w':=iC w ⟨b,2*k,none⟩ (Builtin.zeroCells #[.I 0,.I 0] (n+1)).toList 0) ?_ (hk _ _ ((dy.iC _ w ⟨b,2*k,none⟩ 0).mod rfl) (h.cut ?_))
  .have ak:=Gv Tryz.prog ⟨b,2*k,none⟩ (Builtin.zeroCells #[.I 0,.I 0] (n+1)).toList 0 w (fun j aF=>?_) ?_
   .simp[execOp,resolve,invoke,builtin,ag,Builtin.clear_,run_underlying hu,bI,Value.cells,ak]
   .rw[add_eq];exact h.free (by simp[Builtin.zeroCells] at aF;omega)
   .intro c an;simp only[Builtin.zeroCells,Array.toList_map,List.mem_map] at an;obtain⟨i,_,rfl⟩:=an;show((#[Value.int .i64 0,.I 0]:Array B_)[i % 2]!).oneCell'=true;rcases AL3 i with e | e<;>rw[e]<;>rfl
  .simp[Builtin.zeroCells];omega
theorem HY(x y:Int):r8 [.i,.i] [.I x,.I y]:=⟨⟨_,rfl⟩,⟨_,rfl⟩,trivial⟩
theorem WE{x y:o.Node}:x.enc=y.enc↔x.op=y.op/\x.n=y.n:=by simp[o.Node.enc]
theorem afT(b c:Nat)(l:C_ o.Node)(w:A_)(h:hz w b l)(an:l.length<=c)(hm:c<=maxLen) :
  DD F.x #[.slice (some ⟨b,0,none⟩) l.length c] w fun v w'=>v = .slice (some ⟨b,0,none⟩) (o.comp l).length c/\hz w' b (o.comp l)/\Mod (fun i=>i=b) w w':=by
 have dY:=o.Np l;unfold maxLen at hm;refine vA E.x ?_;refine oh ?_;refine J ?_;apply I_<;>intro g1
 .have e:=o.V8 (l:=l) AK;refine J ?_;exact⟨by rw[e],by rw[e];exact h,Mod.refl _ _⟩
 refine J ?_;refine _P [0] (fun k:Nat=>[(3,.I k)]) 1 (fun k W=>1<=k/\k<=l.length/\o.comp (l.take k)=l.take k/\Ext w W) (fun k=>l.length - k) bc ⟨AK,AK,o.afR,Ext.refl _⟩ ?_;rintro k S w1 ⟨zY,cI,rp,ai⟩;have nk:=h.ext ai;have BT:=nk.acx an hm;refine J ?_;apply I_<;>intro g2;rotate_left
 .have jL:k=l.length:=AK
  rw[jL,AF3] at rp;refine J ?_;exact⟨by rw[rp],by rw[rp];exact nk,ai.mod⟩
 have nN:k<l.length:=AK
 refine J ?_;refine K_ (k - 1) AK AK ?_;refine J ?_;refine AB3 (sig:=[.i,.i]) Ct (HY _ _) (HY _ _) fun r aP=>?_;rw[WE] at aP;refine J ?_;intro aD aj;have kn:=nk.ext aj;have aJ:=ai.trans aj;cases r with
 | false =>
  have cz:¬(l[k - 1].op=l[k].op/\l[k - 1].n=l[k].n):=fun e=>by have:=aP.2 ⟨e.1.symm,e.2.symm⟩;cases this
  have aj4:o.comp (l.take (k+1))=l.take (k+1):=by rw[o.Ns zY nN,if_neg cz,rp,Ly nN]
  refine J ?_;exact⟨k+1,⟨aL,trivial⟩,⟨AK,AK,aj4,aJ⟩,AK⟩
 | true =>
  obtain⟨cZ,dt⟩:=aP.1 rfl;have z1:o.comp (l.take (k+1))=l.take k:=by rw[o.Ns zY nN,if_pos ⟨cZ.symm,dt.symm⟩,rp]
  have l7:¬c=k:=AK
  clear BT;refine J ?_;refine _B k l.length c (by simp[eG,de,bN]) (by simp[eG]) (by simp[eG]) ⟨AK,an,GA _⟩ Bs ?_;rw[if_neg l7,AG3];refine J ?_;refine _P [0,4] (fun x:Nat×Nat×C_ o.Node=>[(3,.I x.1),(5,.I x.2.1)]) (k,1,l) (fun x W=>1<=x.2.1/\k+x.2.1<=l.length/\1<=x.1/\x.1+1<=k+x.2.1/\x.2.2.length=l.length/\hz W b x.2.2/\Mod (fun i=>i=b) w W/\x.2.2.take x.1=o.comp (l.take (k+x.2.1))/\∀j,x.1<=j->x.2.2[j]? = l[j]?) (fun x=>l.length - (k+x.2.1)) bc ⟨GA _,by simp only;omega,zY,GA _,rfl,kn,aJ.mod,z1.symm,fun _ _=>rfl⟩ ?_;rintro⟨kE,cW,R⟩ Hz aN ⟨j2,hS,wW,al1,Ap,uY,yA,rE,uZ⟩;dsimp only at j2 hS wW al1 Ap uY yA rE uZ ⊢;refine J ?_;apply I_<;>intro g3
  .have fN:k+cW<l.length:=AK
   have ny:∀i,(Addr.add ⟨b,0,none⟩ (k*2)).add (i*2)=⟨b,2*(k+i),none⟩:=fun i=>by
    rw[add_eq,add_eq];congr 1;omega
   have ka:R[k+cW]' AK=l[k+cW]:=by
    have:=uZ (k+cW) AK
    rw[List.getElem?_eq_getElem AK,List.getElem?_eq_getElem AK] at this;injection this
   have k3:R[k+cW - 1]' AK=l[k+cW - 1]:=by
    have:=uZ (k+cW - 1) AK
    rw[List.getElem?_eq_getElem AK,List.getElem?_eq_getElem AK] at this;injection this
   have d1:fi aN ((Addr.add ⟨b,0,none⟩ (k*2)).add (cW*2)) l[k+cW].enc:=by
    rw[ny,<-ka];exact uY.at_ _
   have d2:fi aN ((Addr.add ⟨b,0,none⟩ (k*2)).add ((cW - 1)*2)) l[k+cW - 1].enc:=by
    rw[ny,<-k3,show k+(cW - 1)=k+cW - 1 from AK];exact uY.at_ _
   have yi:=o.Ns (l:=l) (n:=k+cW) AK fN;refine J ?_;refine K_ (cW - 1) AK AK ?_;refine J ?_;refine _9 (sig:=[.i,.i]) Ct (HY _ _) (HY _ _) fun r aP=>?_;rw[ne_eq,WE] at aP;refine J ?_;intro aU ax;have Z0:=uY.ext ax;have asW:=d1.ext ax;cases r with
   | false =>
    have heq:l[k+cW - 1].op=l[k+cW].op/\l[k+cW - 1].n=l[k+cW].n:=Classical.byContradiction fun e=>by have:=aP.2 (fun aJ=>e ⟨aJ.1.symm,aJ.2.symm⟩);cases this
    rw[if_pos heq] at yi;refine J ?_;refine⟨(kE,cW+1,R),⟨aL,aL,trivial⟩,⟨by simp only;omega,by simp only;omega,wW,by simp only;omega,Ap,Z0,yA.trans ax.mod,?_,uZ⟩,by simp only;omega⟩;simp only;rw[<-AI3,yi,rE]
   | true =>
    have cz:¬(l[k+cW - 1].op=l[k+cW].op/\l[k+cW - 1].n=l[k+cW].n):=fun e=>(aP.1 rfl) ⟨e.1.symm,e.2.symm⟩;rw[if_neg cz] at yi;refine J ?_;refine AD6 (i:=kE) Z0 (by rw[add_eq,AE8,AH8]) AK fun bt fg Ps=>?_;refine J ?_;refine⟨(kE+1,cW+1,R.set kE l[k+cW]),⟨aL,aL,trivial⟩,⟨by simp only;omega,by simp only;omega,by simp only;omega,by simp only;omega,by rw[AE9];exact Ap,Ps,(yA.trans ax.mod).trans (fg.mod rfl),?_,fun j aF=>?_⟩,by simp only;omega⟩
    .simp only;rw[<-AI3,yi,<-rE,Ly (by rw[AE9];omega),AK4,List.take_set_of_le (GA _)]
    .simp only at aF;rw[List.getElem?_set_ne AK];exact uZ j AK
  .have Pj:k+cW=l.length:=AK
   rw[Pj,AF3] at rE;have oD:(o.comp l).length=kE:=by rw[<-rE,K9];omega
   refine J ?_;refine _B kE l.length c (by simp[eG,de,bN]) (by simp[eG]) (by simp[eG]) ⟨AK,an,GA _⟩ Bs ?_;rw[if_neg (show ¬c=kE by omega),AG3];refine J ?_;refine AD7 (k:=kE) uY (by simp only[de,bN];rfl) AK (fun _=>by rw[add_eq,AE8,AH8]) fun v aU jY nQ=>?_;rw[rE] at nQ;refine J ?_;refine _B 0 kE c (by simp[eG]) (by simp[eG,de,bN]) (by simp[eG]) ⟨AK,AK,GA _⟩ Bs ?_;rw[if_neg (show ¬c=0 by omega),AG3];refine J ?_;exact⟨by rw[oD,add_eq];rfl,nQ,yA.trans jY⟩
end Go.Proofs.R
end
section
namespace Go.Proofs
open Go.Shelf
def Tryz.aqI:Go.Shelf.Ren:=⟨fun | 6=>193 | 15=>245 | 14=>244 | 28=>286 | 29=>287 | 20=>278 | 21=>279 | 22=>280 | 23=>281 | 24=>282 | 25=>283 | 26=>284 | 27=>285 | 46=>306 | 47=>307 | 48=>308 | 49=>309 | 50=>310 | 57=>316 | n=>n,fun | 22=>57 | 24=>72 | 25=>260 | 3=>3 | 39=>169 | 0=>0 | 53=>337 | 55=>52 | 4=>4 | 46=>331 | 45=>330 | 50=>249 | 5=>5 | 9=>9 | 66=>346 | 70=>350 | 76=>355 | 77=>89 | n=>n,fun | n=>n⟩
theorem Tryz.acy:Go.Proofs.SlLaysF0.n6 Tryz.prog Tryz.aqI:={
 mixed:=Ct
 f6:=⟨Tryz.f193.name,BN,Tryz.func193.trans (congrArg some Ct)⟩
 f14:=⟨Tryz.f244.name,BN,Tryz.func244.trans (congrArg some Ct)⟩
 f15:=Tryz.func245.trans (congrArg some Ct)
 f20:=⟨Tryz.f278.name,BN,Tryz.func278.trans (congrArg some Ct)⟩
 f21:=⟨Tryz.f279.name,BN,Tryz.func279.trans (congrArg some Ct)⟩
 f22:=⟨Tryz.f280.name,BN,Tryz.func280.trans (congrArg some Ct)⟩
 f23:=⟨Tryz.f281.name,BN,Tryz.func281.trans (congrArg some Ct)⟩
 f24:=⟨Tryz.f282.name,BN,Tryz.func282.trans (congrArg some Ct)⟩
 f25:=⟨Tryz.f283.name,BN,Tryz.func283.trans (congrArg some Ct)⟩
 f26:=⟨Tryz.f284.name,BN,Tryz.func284.trans (congrArg some Ct)⟩
 f27:=⟨Tryz.f285.name,BN,Tryz.func285.trans (congrArg some Ct)⟩
 f28:=Tryz.func286.trans (congrArg some Ct)
 f29:=Tryz.func287.trans (congrArg some Ct)
 f46:=⟨Tryz.f306.name,BN,Tryz.func306.trans (congrArg some Ct)⟩
 f47:=Tryz.func307.trans (congrArg some Ct)
 f48:=Tryz.func308.trans (congrArg some Ct)
 f49:=⟨Tryz.f309.name,BN,Tryz.func309.trans (congrArg some Ct)⟩
 f50:=⟨Tryz.f310.name,BN,Tryz.func310.trans (congrArg some Ct)⟩
 f57:=⟨Tryz.f316.name,BN,Tryz.func316.trans (congrArg some Ct)⟩
 t0:=Tryz.underlying0
 a0:=Tryz.isAgg0
 z0:=Tryz.sizeOf0
 v0:=Tryz.zeroValue0
 t3:=Tryz.underlying3
 a3:=Tryz.isAgg3
 z3:=Tryz.sizeOf3
 v3:=Tryz.zeroValue3
 t4:=Tryz.underlying4
 a4:=Tryz.isAgg4
 z4:=Tryz.sizeOf4
 v4:=Tryz.zeroValue4
 t5:=Tryz.underlying5
 a5:=Tryz.isAgg5
 z5:=Tryz.sizeOf5
 v5:=Tryz.zeroValue5
 t9:=Tryz.underlying9
 a9:=Tryz.isAgg9
 z9:=Tryz.sizeOf9
 v9:=Tryz.zeroValue9
 t22:=Tryz.underlying57
 a22:=Tryz.isAgg57
 z22:=Tryz.sizeOf57
 v22:=Tryz.zeroValue57
 t25:=Tryz.underlying260
 a25:=Tryz.isAgg260
 z25:=Tryz.sizeOf260
 v25:=Tryz.zeroValue260
 t39:=Tryz.underlying169
 a39:=Tryz.isAgg169
 z39:=Tryz.sizeOf169
 v39:=Tryz.zeroValue169
 t45:=Tryz.underlying330
 a45:=Tryz.isAgg330
 z45:=Tryz.sizeOf330
 v45:=Tryz.zeroValue330
 t46:=Tryz.underlying331
 a46:=Tryz.isAgg331
 z46:=Tryz.sizeOf331
 v46:=Tryz.zeroValue331
 t50:=Tryz.underlying249
 a50:=Tryz.isAgg249
 z50:=Tryz.sizeOf249
 v50:=Tryz.zeroValue249
 t53:=Tryz.underlying337
 a53:=Tryz.isAgg337
 z53:=Tryz.sizeOf337
 v53:=Tryz.zeroValue337
 t55:=Tryz.underlying52
 a55:=Tryz.isAgg52
 z55:=Tryz.sizeOf52
 v55:=Tryz.zeroValue52
 t66:=Tryz.underlying346
 a66:=Tryz.isAgg346
 z66:=Tryz.sizeOf346
 v66:=Tryz.zeroValue346
 t70:=Tryz.underlying350
 a70:=Tryz.isAgg350
 z70:=Tryz.sizeOf350
 v70:=Tryz.zeroValue350
 t76:=Tryz.underlying355
 a76:=Tryz.isAgg355
 z76:=Tryz.sizeOf355
 v76:=Tryz.zeroValue355
 t77:=Tryz.underlying89
 a77:=Tryz.isAgg89
 z77:=Tryz.sizeOf89
 v77:=Tryz.zeroValue89 }
end Go.Proofs
end
section
namespace Go.Proofs.R
open Go Go.RowKit Go.Sort Go.Shelf Go.Lib
theorem arx(x y:o.Node)(W:A_):Calls Tryz.prog 194 #[.agg #[.I x.op,.I x.n],.agg #[.I y.op,.I y.n]] W fun e w'=>e = .returned (.I (o.CA x y))/\∃q anZ,w'=grow (W.drewN q) anZ:=by
 go_enter Tryz.func194,Tryz.ntmps194
 go_wp2
 all_goals go_ret
 all_goals refine⟨?_,0,_,by rw[alloc_eq_grow,alloc_eq_grow,grow_grow];rfl⟩
 all_goals (congr 2;unfold o.CA;repeat' split)
 all_goals first | omega | rfl
theorem ann:SWO (ltOf o.CA) where
 irrefl x:=by
  have:=o.ani x
  rw[<-o.Lc] at this;simpa[ltOf] using this
 trans x y z h1 I:=by
  simp only[ltOf,decide_eq_true_eq] at h1 I ⊢;rw[o.Lc] at *;exact o.anj x y z h1 I
 ntrans x y z h1 I:=by
  simp only[ltOf,decide_eq_false_iff_not] at h1 I ⊢;rw[o.Lc] at *;unfold o.nW at *;omega
instance:Inhabited o.Node:=⟨⟨0,0⟩⟩
theorem aoK{w:A_}{b:Nat}{cur:Array B_}{e:F_}{d:Array B_}(h:w.heap[b]? = some (.cells cur e)):(putRow id w b 0 d).heap[b]? = some (.cells (putCells id 0 d cur) e):=by
 unfold putRow mapBlock;simp only[Array.getElem?_modify,if_true,h,Option.map_some,onCells]
theorem aoL{w:A_}{b k:Nat}{d:Array B_}(h:k≠b):(putRow id w b 0 d).heap[k]? = w.heap[k]? := by
 unfold putRow mapBlock;simp only[Array.getElem?_modify];rw[if_neg (fun e=>h e.symm)]
theorem abm{w:A_}{b:Nat}{d:Array B_}:(putRow id w b 0 d).heap.size=w.heap.size:=by
 unfold putRow mapBlock;simp
theorem Xa{d:Array o.Node}{i:Nat}(h:i<d.size):(flatK o.Node.enc 2 d)[2*i]! = .I d[i].op/\(flatK o.Node.enc 2 d)[2*i+1]! = .I d[i].n:=by
 constructor
 .rw[get_flatK _ _ _ _ AK,show 2*i / 2=i from AK,show 2*i % 2=0 from AK,getElem!_pos _ i h];rfl
 .rw[get_flatK _ _ _ _ AK,show(2*i+1) / 2=i from AK,show(2*i+1) % 2=1 from AK,getElem!_pos _ i h];rfl
theorem aqJ{w:A_}{b n:Nat}{l:C_ o.Node}{d:Array o.Node}{os:Array Obj}(h:hz w b l)(bb:d.size=l.length):hz (sortWorldK o.Node.enc 2 w b 0 n d os) b d.toList/\ba.Mod (fun i=>i=b) w (sortWorldK o.Node.enc 2 w b 0 n d os):=by
 obtain⟨cur,h1,I,ab⟩:=h.ex;have cg:=ba.cA h1;have re:(Sort.ahead w n).heap[b]? = some (.cells cur T.h):=h1;have aK:∀k,k<w.heap.size->(sortWorldK o.Node.enc 2 w b 0 n d os).heap[k]? = (putRow id (Sort.ahead w n) b 0 (flatK o.Node.enc 2 d)).heap[k]? := fun k hk=>by
  unfold sortWorldK grow putRowK;exact Array.getElem?_append_left (by rw[abm];exact hk)
 constructor
 .refine⟨_,(aK b cg).trans (aoK re),by simp[putCells];omega,fun i U=>?_⟩;have cH:i<d.size:=by simpa using U
  obtain⟨f1,f2⟩:=Xa cH;simp only[putCells,Array.getElem?_mapIdx,size_flatK,Array.getElem_toList];constructor
  .rw[Array.getElem?_eq_getElem (show 2*i<cur.size by omega),AG3,if_pos AK,Nat.sub_zero,f1];rfl
  .rw[Array.getElem?_eq_getElem (show 2*i+1<cur.size by omega),AG3,if_pos AK,Nat.sub_zero,f2];rfl
 .refine⟨rfl,rfl,rfl,?_,fun k hk az=>(aK k hk).trans (aoL az)⟩;unfold sortWorldK grow putRowK;rw[Array.size_append,abm];exact Nat.le_add_right _ _
theorem aqx{P:D_}{t:F_}{k:Nat}(h:(P.info? t).map (·.size)=some k)(w:A_):(Go.sizeOf t).run P w = .ok k w:=by
 cases U:P.info? t with
 | none=>rw[U] at h;cases h
 | some i =>
  rw[U] at h;have I:i.size=k:=by simpa using h
  simp[Go.sizeOf,ba.ua U,I]
theorem aqH(b c:Nat)(l:C_ o.Node)(w:A_)(h:hz w b l)(aC:l.length<=1000000) :
  ba.aY Tryz.prog F.gs #[.slice (some ⟨b,0,none⟩) l.length c,.func (.func F.gt) #[] #[]] w fun _ w' => ∃r:C_ o.Node,r.Perm l/\r.Pairwise (fun x y => ¬o.nW y x)/\hz w' b r/\ba.Mod (fun i=>i=b) w w':=by
 obtain⟨cur,h1,I,ab⟩:=h.ex;have OQ:=AnyQ.slices_SortFunc Tryz.acy 2 (fun w=>ba.yP (t:=T.h) (b:=true) Ct w) (fun w=>aqx (t:=T.h) Ct w) o.Node.enc (fun _=>rfl) (fun x v aG=>by simp[o.Node.enc] at aG;rcases aG with rfl | rfl<;>rfl) o.CA ann F.gt #[] b 0 c l.toArray w
  (enters_of Tryz.func194 Ct rfl) (fun _ _ _ _ x y=>arx x y _) ?_ (ba.cA h1) (by simp;omega)
 .change Calls Tryz.prog F.gs _ _ _ at OQ;simp only[List.size_toArray] at OQ;refine Calls.mono OQ ?_;rintro e w' ⟨rfl,vW,n,os,au,ak,rfl⟩;have dr:vW.size=l.length:=by simpa using au.1
  obtain⟨cE,cW⟩:=aqJ (n:=n) (os:=os) h dr;refine⟨_,rfl,vW.toList,?_,?_,cE,cW⟩
  .have:=au.2.2
   rw[show vW.extract 0 l.length=vW from by rw[<-dr];simp,show l.toArray.extract 0 l.length=l.toArray from Bs] at this;simpa using this
  .rw[List.pairwise_iff_getElem];intro i j U aF Cc;have cH:i<vW.size:=by simpa using U
   have ek:j<vW.size:=by simpa using aF
   have:=ak i j (AF6 _) Cc AK
   rw[getElem!_pos _ i cH,getElem!_pos _ j ek] at this;simp only[ltOf,decide_eq_false_iff_not] at this;rw[o.Lc] at this;simpa using this
 .unfold HoldsK Holds;intro j aF;rw[size_flatK] at aF;have mE:j<2*l.length:=by simp at aF;omega
  have U:j / 2<l.length:=AK
  obtain⟨f1,f2⟩:=Xa (d:=l.toArray) (i:=j / 2) (by simpa using U);obtain⟨g1,g2⟩:=ab (j / 2) U;have qz:w.frozen? ⟨b,0+j,none⟩=false:=by simp[World.frozen?,h1]
  refine⟨?_,qz⟩;rw[AE8];rcases AL3 j with e | e
  .have zA:2*(j / 2)=j:=AK
   rw[zA] at f1 g1;rw[f1];exact DU h1 (by simpa using g1)
  .have zA:2*(j / 2)+1=j:=AK
   rw[zA] at f2 g2;rw[f2];exact DU h1 (by simpa using g2)
end Go.Proofs.R
end
section
namespace o
open Go
def yU(e:C_ Node):C_ Node:=e.filter fun x=>uc x.op
theorem aqT{e:C_ Node}{k:Nat}(h:k<e.length):yU (e.take (k+1))=yU (e.take k)++if uc e[k].op then [e[k]] else []:=by
 unfold yU;rw[Ly h,AK3];cases ak:uc e[k].op<;>simp[ak]
theorem acD(e:C_ Node):(yU e).length<=e.length:=AK6 _ _
theorem ac1{e s:C_ Node}(au:s.Perm (yU e))(ak:s.Pairwise fun x y => ¬nW y x):HC e (comp s):=by
 refine⟨V9 s ak,fun x=>?_⟩;rw[Nq,au.mem_iff];unfold yU;rw[AK9]
end o
namespace Go.Proofs.R
open Go Go.RowKit ba
theorem anl(x:o.Node):∀u∈x.enc,u.oneCell'=true:=by simp[o.Node.enc,Value.oneCell']
theorem W8:∀(l:C_ o.Node) (i:Nat) (h:i<l.length),(l.flatMap o.Node.enc)[2*i]? = some (.I l[i].op)/\(l.flatMap o.Node.enc)[2*i+1]? = some (.I l[i].n)
 | x :: l,0,_=>⟨rfl,rfl⟩
 | x :: l,i+1,h=>by
  have fh:=W8 l i (by simpa using h);rw[show 2*(i+1)=2*i+2 from AK,show 2*i+2+1=(2*i+1)+2 from AK];exact fh
theorem anp{w:A_}{base:Nat}{v:B_}{l:C_ o.Node}(h:aS o.Node.enc T.h 2 base w v l)(aC:l≠[]):∃b c,v = .slice (some ⟨b,0,none⟩) l.length c/\base<=b/\hz w b l/\l.length<=c/\c<=maxLen:=by
 rcases h.2 with ⟨_,af⟩ | ⟨g,cap,cur,h1,I,ab,aH,a8,bE,cj⟩
 .exact absurd (AF9 af) aC
 .refine⟨g,cap,h1,I,⟨cur,ab,AK,fun i U=>?_⟩,aH,a8⟩;have get:∀j,j<2*l.length->cur[j]? = (l.flatMap o.Node.enc)[j]? := fun j aF=>by
   rw[<-cj,List.getElem?_take_of_lt AK,Array.getElem?_toList]
  rw[get _ AK,get _ AK];exact W8 l i U
structure MC(w:World)(base:Nat)(v:Value)(l:List o.Node):Prop where
 ex:(l=[]/\∃p c,v = .slice p 0 c/\c<=maxLen)\/∃b c,v = .slice (some ⟨b,0,none⟩) l.length c/\base<=b/\hz w b l/\l.length<=c/\c<=maxLen
theorem aqG(p:H_ Addr)(c:Nat)(w:A_):DD F.gs #[.slice p 0 c,.func (.func F.gt) #[] #[]] w fun _ w'=>Ext w w':=by
 have h:=AnyF.slices_SortFunc_none Tryz.acy p c (.func (.func F.gt) #[] #[]) w;change Calls Tryz.prog F.gs _ _ _ at h;refine Calls.mono h ?_;rintro e w' ⟨rfl,rfl⟩;exact⟨_,rfl,Ext.refl _⟩
theorem afS(p:H_ Addr)(c:Nat)(w:A_):DD F.x #[.slice p 0 c] w fun v w'=>v = .slice p 0 c/\Ext w w':=by
 refine vA E.x ?_;refine oh ?_;refine J ?_;exact⟨aL,Ext.refl _⟩
theorem arA(v:B_)(e:C_ o.Node)(w:A_)(h:o.eS w v e)(aC:e.length<=1000000) :
  DD F.d4 #[v] w fun u w'=>(∃r,o.HC e r/\MC w' w.heap.size u r)/\Ext w w':=by
 obtain⟨aQ,eZ,rfl,_⟩:=h.form;refine br E.d4 ?_;refine J ?_;refine L_ 8 e.length [2,6,7] (fun u:B_=>[(3,u)]) (.slice none 0 0) (fun k u W=>aS o.Node.enc T.h 2 w.heap.size W u (o.yU (e.take k))/\Ext w W) bc bc ⟨aS.nil _ _ _ _ _,Ext.refl _⟩ ?_;rintro k u S w1 hk ⟨hu,ai⟩;refine J ?_;apply I_<;>intro g1
 .have cI:k<e.length:=AK
  obtain⟨a,rfl⟩:=h.addr;have ag:=(h.at k cI).cells.ext ai;obtain⟨xd,uC,rfl,_⟩:=hu.form;have kp:=o.acD (e.take k);have iL:=o.aqT cI;unfold o.Node.enc at ag;rw[K9] at kp;refine eb ?_;simp -dsimp only[cB];refine eb ?_;simp -dsimp only[cB];refine eb ?_;intro aD dR kT aj b9;have PW:=hu.ext aj;have aJ:=ai.trans aj;simp -dsimp only[cB];refine eb ?_;refine S_ [2,3,5,6,7,8] (fun t:Bool=>[(14,.bool t)]) (fun t W=>t=o.uc e[k].op/\W=aD) ?_ ?_
  .have sp:∀b,(b=true↔(e[k].op=2\/e[k].op=3\/e[k].op=4\/e[k].op=6\/e[k].op=7))->b=o.uc e[k].op:=fun b ao=>by
    unfold o.uc;cases b with
    | true=>exact(decide_eq_true (ao.1 rfl)).symm
    | false=>exact(decide_eq_false fun q=>by have:=ao.2 q;cases this).symm
   refine J ?_;apply I_<;>intro g2
   .refine J ?_;exact⟨_,⟨aL,trivial⟩,sp _ (by simp[g2]),aL⟩
   refine J ?_;apply I_<;>intro g3
   .refine J ?_;exact⟨_,⟨aL,trivial⟩,sp _ (by simp[g3]),aL⟩
   refine J ?_;apply I_<;>intro g4
   .refine J ?_;exact⟨_,⟨aL,trivial⟩,sp _ (by simp[g4]),aL⟩
   refine J ?_;apply I_<;>intro g5
   .refine J ?_;exact⟨_,⟨aL,trivial⟩,sp _ (by simp[g5]),aL⟩
   refine J ?_;exact⟨_,⟨aL,trivial⟩,sp _ (by simp[g2,g3,g4,g5]),aL⟩
  rintro t k7 aN ⟨rfl,rfl⟩;refine J ?_;cases yr:o.uc e[k].op with
  | true =>
   rw[yr,if_pos rfl] at iL;refine J ?_;intro aU asD atj ax zR;refine J ?_;refine U_ (y:=e[k]) (PW.ext ax) zR rfl (fun _=>rfl) anl AK (by unfold maxLen;omega) (by have:=ax.size;have:=aJ.size;omega) fun aQ n c bt dF hg=>?_;have aI:=aS.ln (PW.ext ax) (aJ.trans ax) hg (GA _);refine J ?_;refine⟨cI,aL,_,⟨rfl,trivial⟩,?_,aI⟩;rw[iL];exact dF
  | false =>
   rw[yr,if_neg Bs,AF1] at iL;refine J ?_;refine⟨cI,aL,_,⟨aL,trivial⟩,?_,aJ⟩;rw[iL];exact PW
 .have jL:k=e.length:=AK
  rw[jL,AF3] at hu;have kp:=o.acD e;by_cases az:o.yU e=[]
  .rw[az] at hu;obtain⟨xd,uC,rfl,_⟩:=hu.form;have ajs:uC<=maxLen:=by
    obtain⟨kY,cap,h1,_,ab,_⟩:=(aS.jD (enc:=o.Node.enc) (fun _=>rfl) hu).ex;injection h1 with _ _ h1
    omega
   have alk:o.HC e (o.comp []):=o.ac1 (s:=[]) (by rw[az]) List.Pairwise.nil;refine J ?_;refine J_ (aqG xd uC w1) ?_;rintro _ aD aj;refine J ?_;refine J_ (afS xd uC aD) ?_;rintro _ aN ⟨rfl,ah⟩;refine J ?_;exact⟨⟨_,alk,⟨.inl ⟨rfl,xd,uC,rfl,ajs⟩⟩⟩,(ai.trans aj).trans ah⟩
  .obtain⟨b,c,rfl,ao,aP,an,hm⟩:=anp hu az;refine J ?_;refine J_ (aqH b c _ w1 aP AK) ?_;rintro _ aD ⟨s,au,ak,kn,fN⟩;have ale:=au.length_eq;have dY:=o.Np s;rw[<-ale];refine J ?_;refine J_ (afT b c s aD kn AK hm) ?_;rintro _ aN ⟨rfl,akY,js⟩;refine J ?_;exact⟨⟨_,o.ac1 au ak,⟨.inr ⟨b,c,rfl,ao,akY,AK,hm⟩⟩⟩,(fN.trans js).ext ai fun i U e=>AK⟩
end Go.Proofs.R
end
section
namespace o
open Go
theorem arv{m:Model}{x:Node}(h:uc x.op=false):hW m 0 false x=[]:=by
 unfold uc at h;have h:=of_decide_eq_false h;unfold hW;rw[if_neg AK,if_neg AK,if_neg AK,if_neg AK,if_neg AK]
theorem arz{m:Model}{e r:C_ Node}(h:HC e r)(z:Int):z∈r.flatMap (hW m 0 false)↔z∈Gj m e:=by
 unfold Gj;simp only[List.mem_flatMap];constructor
 .rintro⟨x,ag,bI⟩;exact⟨x,((h.mem x).1 ag).1,bI⟩
 .rintro⟨x,ag,bI⟩;cases ak:uc x.op with
  | false=>rw[arv ak] at bI;cases bI
  | true=>exact⟨x,(h.mem x).2 ⟨ag,ak⟩,bI⟩
def yQ(m:Model)(k:Nat):C_ Int:=(m.props.take k).flatMap fun p=>Gj m p.expr
theorem aql{m:Model}{k:Nat}(h:k<m.props.length):yQ m (k+1)=yQ m k++Gj m m.props[k].expr:=by
 unfold yQ;rw[Ly h,AG8];simp
theorem aqk(m:Model):yQ m m.props.length=vg m:=by unfold yQ vg;rw[AF3]
end o
namespace Go.Proofs.R
open Go Go.RowKit ba
theorem MC.form{w:A_}{base:Nat}{v:B_}{r:C_ o.Node}(h:MC w base v r):∃aQ c,v = .slice aQ r.length c/\(0<r.length->∃b,aQ=some ⟨b,0,none⟩/\base<=b/\hz w b r/\r.length<=c/\c<=maxLen):=by
 rcases h.ex with ⟨rfl,p,c,rfl,_⟩ | ⟨b,c,rfl,ao,aP,an,hm⟩
 .exact⟨p,c,rfl,fun h=>absurd h (Nat.lt_irrefl _)⟩
 .exact⟨_,c,rfl,fun _=>⟨b,rfl,ao,aP,an,hm⟩⟩
theorem Qz{a b c d e:H_ Addr}{kX j5 pY tP n5 c1 c2 bu bC r5:Nat}{n:Int}:∀x∈(#[.slice a kX c1,.slice b j5 c2,.slice c pY bu,.I n,.slice d tP bC,.slice e n5 r5]:Array B_).toList,x.oneCell'=true:=by simp[Value.oneCell']
theorem aqq(cs:C_ B_)(m:o.Model)(w:A_)(h:o.eh w cs m)(aK:m.cK)(aO:gK w) :
  DD F.zp #[.agg cs.toArray] w fun u w'=>(∃b n,((o.oK m=[]/\n=0/\u = .slice none 0 0)\/u = .slice (some ⟨b,0,none⟩) n n/\n=(o.oK m).length/\w.heap.size<=b/\w'.heap[b]? = some (.cells (oo (o.oK m)).toArray T.ae)))/\Ext w w':=by
 have dc:=h;obtain⟨b6,bx,bR,c1,bX,c2,bZ,bu,ca,bC,rfl,af,h1,I,ab,aH,e2,eE,eJ,er,eH⟩:=h.form;refine br E.zp ?_;refine J ?_;intro w1 bw cM ai al;refine J ?_;refine J_ (yC _ m w1 (dc.ext ai) aK (aO.ext ai)) ?_;rintro _ aD ⟨rfl,aj⟩;replace al:=aj.obj al;have aJ:=ai.trans aj;refine J ?_;refine _K (v:=.I (o.check m).cN) rfl ?_;refine J ?_;apply I_<;>intro g1;rotate_left
 .have e:o.oK m=[]:=by unfold o.oK;rw[if_neg g1]
  refine J ?_;exact⟨⟨0,0,.inl ⟨e,rfl,aL⟩⟩,aJ⟩
 have na:=o.j3 g1;have Pk:o.lay m=o.layout m:=by unfold o.lay;rw[if_pos g1]
 refine eb ?_;refine S_ [1] (fun x:Nat×B_=>[(3,.pointer (some ⟨x.1,0,none⟩)),(4,x.2)]) (fun x W => ∃ys:C_ B_,W.heap[x.1]? = some (.cells ys.toArray T.i)/\o.kK W ys (o.layout m)/\ku W x.2 (o.insts m)/\Ext aD W) ?_ ?_
 .have E8:∀{W},Ext aD W->DD F.a #[.agg #[.slice b6 m.scalars.length bx,.slice bR m.vars.length c1,.slice bX m.aw.length c2,.slice bZ m.procs.length bu,.slice ca m.props.length bC]] W fun v w'=>(∃eK d0 dM d1 et d2 eB d3 eL d4,v = .agg #[.slice eK (o.layout m).vars.length d0,.slice dM (o.layout m).aw.length d1,.slice et (o.layout m).insts.length d2,.I (o.layout m).cells,.slice eB (o.layout m).aR.length d3,.slice eL (o.layout m).U.length d4]/\ey W (fun w=>o.kK w [.slice eK (o.layout m).vars.length d0,.slice dM (o.layout m).aw.length d1,.slice et (o.layout m).insts.length d2,.I (o.layout m).cells,.slice eB (o.layout m).aR.length d3,.slice eL (o.layout m).U.length d4] (o.layout m)) w')/\Ext W w':=fun {W} he=>(FI _ m W (dc.ext (aJ.trans he)) aK (aO.ext (aJ.trans he))).mono fun v w' ⟨⟨xs,aG,az⟩,iY⟩=>by
   rw[Pk] at az;obtain⟨eK,d0,dM,d1,et,d2,eB,d3,eL,d4,rfl,_⟩:=az.here.form;exact⟨⟨eK,d0,dM,d1,et,d2,eB,d3,eL,d4,aG,az⟩,iY⟩
  have wE:∀{W},Ext aD W->DD F.b #[.agg #[.slice b6 m.scalars.length bx,.slice bR m.vars.length c1,.slice bX m.aw.length c2,.slice bZ m.procs.length bu,.slice ca m.props.length bC]] W fun v w'=>(∃cn ci,v = .slice cn (o.insts m).length ci/\aS o.cX.enc T.e 2 W.heap.size w' v (o.insts m))/\Ext W w':=fun {W} he=>(wU _ m W (dc.ext (aJ.trans he)) aK).mono fun v w' ⟨aG,iY⟩=>by
   obtain⟨cn,ci,rfl,_⟩:=aG.form;exact⟨⟨cn,ci,rfl,aG⟩,iY⟩
  refine eb ?_;intro aN ah;replace al:=ah.obj al;refine J ?_;refine⟨?_,?_⟩
  .refine J_ (E8 ah) ?_;rintro _ aU ⟨⟨eK,d0,dM,d1,et,d2,eB,d3,eL,d4,rfl,cY⟩,ax⟩;have bD:=ah.trans ax;refine⟨ax,?_⟩;refine J ?_;refine⟨?_,?_⟩
   .refine J_ (wE bD) ?_;rintro _ bt ⟨⟨cn,ci,rfl,aZ⟩,aI⟩;have bJ:=bD.trans aI;refine J ?_;intro bz bW fe aM bl;refine⟨(ax.trans aI).trans aM,?_⟩;refine T_ bl rfl rfl Qz fun bK dL ct=>?_;have dz:=dL.ext aM fe;refine J ?_;exact⟨(bW,_),⟨aL,aL,trivial⟩,_,ct,cY.here.ext (aI.trans dz),(aS.hE (enc:=o.cX.enc) (fun _=>rfl) aZ).ext Flat.ext dz,bJ.trans dz⟩
   .refine O_ ?_;intro bt bW fe aI bl;have bJ:=bD.trans aI;have cg:=cA bl;refine⟨ax.trans aI,?_⟩;refine J ?_;refine J_ (wE bJ) ?_;rintro _ bz ⟨⟨cn,ci,rfl,aZ⟩,aM⟩;refine J ?_;refine T_ (aM.obj bl) rfl rfl Qz fun bK dL ct=>?_;have dz:=dL.ext (aI.trans aM) fe;refine J ?_;exact⟨(bW,_),⟨aL,aL,trivial⟩,_,ct,cY.here.ext dz,aS.hE (enc:=o.cX.enc) (fun _=>rfl) (aS.wr dL cg aZ),bD.trans dz⟩
  .refine O_ ?_;intro aU bW fe ax bl;have bD:=ah.trans ax;have cg:=cA bl;refine⟨ax,?_⟩;refine J ?_;refine J_ (E8 bD) ?_;rintro _ bt ⟨⟨eK,d0,dM,d1,et,d2,eB,d3,eL,d4,rfl,cY⟩,aI⟩;have bJ:=bD.trans aI;have z5:=aI.size;refine⟨ax.trans aI,?_⟩;refine J ?_;refine J_ (wE bJ) ?_;rintro _ bz ⟨⟨cn,ci,rfl,aZ⟩,aM⟩;refine J ?_;refine T_ ((aI.trans aM).obj bl) rfl rfl Qz fun bK dL ct=>?_;have dz:=dL.ext ((ax.trans aI).trans aM) fe;refine J ?_;exact⟨(bW,_),⟨aL,aL,trivial⟩,_,ct,((cY.ext aM z5).wr dL cg).here,aS.hE (enc:=o.cX.enc) (fun _=>rfl) (aS.wr dL AK aZ),ah.trans dz⟩
 rintro⟨bW,bL⟩ S aN ⟨ys,bl,cY,aZ,ah⟩;dsimp only at bl cY aZ ⊢;replace al:=ah.obj al;have a7:=aJ.trans ah;have sf:=cY;obtain⟨eK,d0,dM,d1,et,d2,eB,d3,eL,d4,rfl,_⟩:=cY.form;have dY:(o.layout m).cells=(o.dN m:Nat):=rfl;have ri:o.dN m<=64:=o.jd na;have sj:=o.aoD g1;refine J ?_;refine AD4 (o.dN m) dY AK fun aU b ao ax bp=>?_;refine J ?_;intro wn bM ow fC eU;refine J ?_;intro bt fg lq;have aI:Ext aU bt:=fg.ext fC ow;clear eU;have iP:=ax.trans aI;have pR:mY bt bM b (o.dN m) (o.yQ m 0):=⟨lq,_,aI.obj bp,o.oZ.start _⟩;have kT:=cA (aI.obj bp);have se:∀{W},Mod (fun i=>i=b) bt W->Ext aN W:=fun hm=>hm.ext iP fun k hk e=>AK
 have ajj:=iP.obj al;have Jj:=iP.obj bl;clear bp lq;refine J ?_;refine L_ 24 m.props.length [1,3,4,5,22,23] (fun _:Unit=>[]) () (fun k _ W=>mY W bM b (o.dN m) (o.yQ m k)/\Mod (fun i=>i=b) bt W) bc bc ⟨pR,Mod.refl _ _⟩ ?_;rintro k _ k7 bz hk ⟨I2,jZ⟩;have ya:=se jZ;have cv:=a7.trans ya;have aiX:=I2.box;have o4:=ya.obj al;have ai9:=ya.obj bl;clear ajj Jj;refine J ?_;apply I_<;>intro g2;rotate_left
 .have jL:k=m.props.length:=AK
  rw[jL,o.aqk] at I2;obtain⟨ae,aO,ak⟩:=I2.row;have ja:=ak.aqo g1;subst ja;have aC:=ak.len;refine J ?_;exact⟨⟨b,o.dN m,.inr ⟨rfl,aC.symm,by have:=a7.size;omega,aO⟩⟩,cv⟩
 have cI:k<m.props.length:=AK
 obtain⟨a4,rfl⟩:=aH.addr;obtain⟨mc,gZ,dP,h7⟩:=aH.at k cI;obtain⟨QV,ce,rfl,_⟩:=h7.form;have fs:=o.abi g1 cI;have hle:=fs.len;unfold o.lY.enc at dP;have akL:=dP.ext cv;refine J ?_;intro bK hp ir bq ct;have dz:=cv.trans bq;refine J ?_;refine J_ (arA _ m.props[k].expr bK (h7.ext dz) AK) ?_;rintro _ c4 ⟨⟨r,aP,aih⟩,bG⟩;obtain⟨aQ,c,rfl,ma⟩:=aih.form;have wC:=bq.trans bG;have zM:=I2.ext wC;have iZ:=jZ.trans wC.mod;have ov:=bq.size;have gm:b<bz.heap.size:=by have:=jZ.size;omega
 clear ct akL aiX o4 ai9;refine J ?_;refine L_ 32 r.length [1,3,4,5,22,23,24,30,31] (fun _:Unit=>[]) () (fun i _ W=>mY W bM b (o.dN m) (o.yQ m k++(r.take i).flatMap (o.hW m 0 false))/\Mod (fun i=>i=b) c4 W) bc bc ⟨by simpa using zM,Mod.refl _ _⟩ ?_;rintro i _ Hz c6 U ⟨I3,ng⟩;have YX:=iZ.trans ng;have IY:=se YX;have ll:=a7.trans IY;have XZ:=I3.box;have EE:=IY.obj al;have X1:=IY.obj bl;refine J ?_;apply I_<;>intro g3;rotate_left
 .have ajZ:i=r.length:=AK
  rw[ajZ,AF3] at I3;refine J ?_;refine⟨cI,aL,(),trivial,I3.congr fun z=>?_,YX⟩;rw[o.aql cI,AH7,AH7,o.arz aP]
 have qA:i<r.length:=AK
 obtain⟨vP,rfl,Oy,aky,JM,Fi⟩:=ma AK;have BT:=(aky.mod ng AK).acx JM Fi;obtain⟨Qc,_⟩:=(aP.mem r[i]).1 (GR qA);have atZ:r.length<=9223372036854775807:=by unfold maxLen at Fi;omega
 have dh:(r[i]).ok:=by
  have Zc:=List.length_pos_of_mem Qc;obtain⟨r3,rfl⟩:=h7.addr Zc;obtain⟨j,aF,zA⟩:=List.mem_iff_getElem.1 Qc;rw[<-zA];exact(h7.at j aF).ok
 have alc:=o.aoF g1 cI Qc;refine J ?_;intro eO ik l6 cr dD;replace XZ:=cr.obj XZ;replace EE:=cr.obj EE;replace X1:=cr.obj X1;refine J ?_;refine J_ (agk r[i] _ _ _ bM b _ m aN eO (dc.ext a7) sf aZ (IY.trans cr) ao (I3.ext cr) na alc dh) ?_;rintro _ gy ⟨aiF,Ch⟩;refine J ?_;refine⟨qA,aL,(),trivial,?_,(ng.trans cr.mod).trans Ch⟩;rw[Ly qA,AG8,<-Vq];simpa using aiF
theorem Wl(cs:C_ B_)(bL:B_)(m:o.Model)(ref:Int)(q p k:Nat)(w:A_)(h:o.eh w cs m)(aZ:ku w bL (o.insts m))(bF:o.fr m ref q p k)(x:o.Ref)(oF:x.inst=q)(gW:x.cmd=k) :
  DD F.g #[.agg cs.toArray,bL,.agg x.enc.toArray] w fun u w'=>(∃fq dH,u = .agg ((o.bT m p k).enc fq dH).toArray/\o.eS w fq (o.bT m p k).guard/\o.lX w dH (o.bT m p k).bQ)/\Ext w w':=by
 obtain⟨b6,bx,bR,c1,bX,c2,bZ,bu,ca,bC,rfl,af,h1,I,ab,aH,e2,eE,eJ,er,eH⟩:=h.form;obtain⟨cn,ci,rfl,_⟩:=aZ.form;have ar:=bF.at_.U;have au:=bF.at_.au;have nd:=bF.at_.hk;have oB:=bF.at_.ip;obtain⟨ij,rfl⟩:=aZ.addr;obtain⟨a3,rfl⟩:=ab.addr;obtain⟨mc,b2,dV,dP,e7,fy⟩:=ab.at p au;obtain⟨CB,BA,rfl,Cs⟩:=fy.form;obtain⟨ac,rfl⟩:=fy.addr;obtain⟨eU,fq,dH,gF,h6,gG⟩:=fy.at k nd;obtain⟨gw,fS,rfl,_⟩:=h6.form;obtain⟨sy,r6,rfl,_⟩:=gG.form;have km:=o.xX au nd;have qm:x.enc=[.I q,.I k]:=by unfold o.Ref.enc;rw[oF,gW]
 rw[qm];unfold o.dJ.enc at dP;unfold o.ea.enc at gF;refine br E.g ?_;refine J ?_;intro w1 bW fe ai bl;refine J ?_;intro aD dR kT aj b9;replace bl:=aj.obj bl;refine J ?_;intro aN ez gm ah cb;replace bl:=ah.obj bl;replace b9:=ah.obj b9;have a7:=(ai.trans aj).trans ah;have jE:=ai.size;have rR:=aj.size;intro aU ax;replace bl:=ax.obj bl;replace b9:=ax.obj b9;replace cb:=ax.obj cb;have bD:=a7.trans ax;have XA:=aZ.ext Flat.ext bD;have atX:=dP.ext bD;have atB:=gF.ext bD;refine J ?_;refine K_ p (by rw[oB]) au ?_;refine J ?_;intro bt fg ajc;refine J ?_;exact⟨⟨.slice gw (o.bT m p k).guard.length fS,.slice sy (o.bT m p k).bQ.length r6,by rw[km];rfl,by rw[km];exact h6,by rw[km];exact gG⟩,fg.ext bD AK⟩
structure xN(w:World)(bM b:Nat)(ae:List Bool):Prop where
 box:w.heap[bM]? = some (.cells #[.slice (some ⟨b,0,none⟩) ae.length ae.length] T.q1)
 row:w.heap[b]? = some (.cells (oo ae).toArray T.ae)
theorem xN.ext{w w':A_}{bM b:Nat}{ae:C_ Bool}(h:xN w bM b ae)(he:Ext w w'):xN w' bM b ae:=⟨he.obj h.box,he.obj h.row⟩
def sD(ae:C_ Bool)(x:Int):Bool:=(ae[x.toNat]?).getD false
theorem aq3(x:Int)(bM b:Nat)(ae:C_ Bool)(w:A_)(h:xN w bM b ae)(af:0<=x)(h1:x.toNat<ae.length) :
  DD F.u #[.I x,.pointer (some ⟨bM,0,none⟩)] w fun v w'=>v = .bool (sD ae x)/\Ext w w':=by
 have ow:=h.box;have an:w.cell? (Addr.add ⟨b,0,none⟩ (x.toNat*1))=some (.bool (sD ae x)):=fW h.row (by rw[AG5];simp[oo,sD,h1]);refine br E.u ?_;refine J ?_;refine K_ x.toNat AK h1 ?_;refine J ?_;refine M_ an ?_;refine J ?_;exact⟨aL,Ext.refl _⟩
theorem aqw(v:B_)(l:C_ Int)(bM b:Nat)(ae:C_ Bool)(w:A_)(h:dw w v l)(cc:0<l.length->xN w bM b ae)(aC:∀x∈l,0<=x/\x.toNat<ae.length) :
  DD F.q #[v,.func (.func F.u) #[] #[.pointer (some ⟨bM,0,none⟩)]] w fun b0 w'=>b0 = .I (l4 (sD ae) l 0)/\Ext w w':=by
 obtain⟨bR,c1,rfl,bw⟩:=h.form;refine vA E.q ?_;refine oh ?_;refine J ?_;refine L_ 8 l.length [0,1,7] (fun _:Unit=>[]) () (fun k _ w'=>Ext w w'/\l4 (sD ae) l 0=l4 (sD ae) (l.drop k) k) bc bc ⟨Ext.refl _,Bs⟩ ?_;rintro k _ S aD hk ⟨aj,aZ⟩;have I:=h.ext Flat.ext aj;refine J ?_;apply I_<;>intro g1
 .have a1:k<l.length:=AK
  obtain⟨a,rfl⟩:=h.addr;obtain⟨pj,cZ⟩:=aC _ (GR a1);rw[NU a1] at aZ;refine J ?_;refine V_ (first:=[]) (cap:=[.pointer (some ⟨bM,0,none⟩)]) Ct (aq3 l[k] bM b ae aD ((cc AK).ext aj) pj cZ) ?_;rintro _ aN ⟨rfl,ah⟩;cases ak:sD ae l[k] with
  | true =>
   rw[ak,if_pos rfl] at aZ;refine J ?_;exact⟨by rw[aZ],aj.trans ah⟩
  | false =>
   rw[ak,if_neg Bs] at aZ;refine J ?_;exact⟨a1,aL,(),trivial,aj.trans ah,aZ⟩
 .refine J ?_;exact⟨by rw[aZ,AF0 AK];rfl,aj⟩
theorem aqj(v:B_)(l:C_ Int)(bM b:Nat)(ae:C_ Bool)(w:A_)(h:dw w v l)(cc:0<l.length->xN w bM b ae)(aC:∀x∈l,0<=x/\x.toNat<ae.length) :
  DD F.ae #[v,.func (.func F.u) #[] #[.pointer (some ⟨bM,0,none⟩)]] w fun b0 w'=>b0 = .bool (l.any (sD ae))/\Ext w w':=by
 refine vA E.ae ?_;refine oh ?_;refine J ?_;refine J_ (aqw v l bM b ae w h cc aC) ?_;rintro _ aD ⟨rfl,aj⟩;refine J ?_;refine⟨?_,aj⟩;congr 1;exact Bool.eq_iff_iff.2 (by rw[decide_eq_true_eq];exact Is)
structure ass(w:World)(b N:Nat)(L:List Int):Prop where
 row:∃ae,w.heap[b]? = some (.cells (oo ae).toArray T.ae)/\o.oZ N L ae
end Go.Proofs.R
end
section
namespace o
structure adG(m:Model):Prop where
 s:m.scalars.length<=8
 v:m.vars.length<=20
 c:m.aw.length<=8
 p:m.procs.length<=10
 q:m.props.length<=16
 i:∀(j:Nat) (h:j<m.procs.length),m.procs[j].vars.length<=10/\m.procs[j].cQ.length<=16
end o
end
section
namespace o
open Go
structure r0(m:Model)(ref:Int)(t:Bool):Prop where
 none:¬Told m ref->t=false
 there:∀q p k a b,fr m ref q p k->lD m ref a b->(t=true↔(bT m p k).to<=(bT m p k).from_\/∃x∈b,x∈vg m)
theorem r0.no{m:Model}{ref:Int}(h:¬Told m ref):r0 m ref false:=⟨fun _=>rfl,fun _ _ _ _ _ bF=>absurd bF.told h⟩
theorem r0.of{m:Model}{ref:Int}{q p k:Nat}{a b:C_ Int}{t:Bool}(bF:fr m ref q p k)(bH:lD m ref a b)(h:t=true↔(bT m p k).to<=(bT m p k).from_\/∃x∈b,x∈vg m):r0 m ref t :=
 ⟨fun az=>absurd bF.told az,fun e3 gB k' cF gS uK aiB=>by
  obtain⟨rfl,rfl,rfl⟩:=bF.one uK;obtain⟨rfl,rfl⟩:=bH.eq aiB;exact h⟩
theorem ar7{m:Model}{ref:Int}{q p k:Nat}{a b:C_ Int}(bF:fr m ref q p k)(bH:lD m ref a b):∀x∈b,0<=x/\x<dN m:=fun x ag=>ar8 bF x (((bH.there q p k bF).2.mem x).1 ag)
end o
namespace Go.Proofs.R
open Go Go.RowKit ba
theorem aqc{m:o.Model}{b:C_ Int}(hk:(o.check m).cN=0)(ao:∀x∈b,0<=x/\x<o.dN m):b.any (sD (o.oK m))=true↔∃x∈b,x∈o.vg m:=by
 rw[List.any_eq_true];have key:∀x∈b,(sD (o.oK m) x=true↔x∈o.vg m):=fun x ag=>by
  obtain⟨af,h1⟩:=ao x ag;unfold sD o.oK;rw[if_pos hk,List.getElem?_map,List.getElem?_range AK];simp only[Option.map_some,Option.getD_some,decide_eq_true_eq];rw[show((x.toNat:Nat):Int)=x from AK]
 constructor
 .rintro⟨x,ag,h⟩;exact⟨x,ag,(key x ag).1 h⟩
 .rintro⟨x,ag,h⟩;exact⟨x,ag,(key x ag).2 h⟩
theorem aqp{m:o.Model}(hk:(o.check m).cN=0):(o.oK m).length=o.dN m:=by unfold o.oK;rw[if_pos hk];simp
theorem Ni{s:ByteArray}{f t:Int}{a b:H_ Addr}{kX j5 c1 c2:Nat}{y:Bool}:∀x∈(#[.string s,.I f,.I t,.slice a kX c1,.slice b j5 c2,.bool y]:Array B_).toList,x.oneCell'=true:=by simp[Value.oneCell']
theorem af6(cs:C_ B_)(m:o.Model)(ref:Int)(w:A_)(h:o.eh w cs m)(aK:m.cK)(aO:gK w) :
  DD F.x3 #[.agg cs.toArray,.I ref] w fun u w'=>(∃t,u = .bool t/\o.r0 m ref t)/\Ext w w':=by
 have dc:=h;obtain⟨b6,bx,bR,c1,bX,c2,bZ,bu,ca,bC,rfl,_⟩:=h.form;refine br E.x3 ?_;refine J ?_;intro w1 bS dm ai av;refine J ?_;refine J_ (yC _ m w1 (dc.ext ai) aK (aO.ext ai)) ?_;rintro _ aD ⟨rfl,aj⟩;replace av:=aj.obj av;have aJ:=ai.trans aj;refine J ?_;refine _K (v:=.I (o.check m).cN) rfl ?_;refine J ?_;apply I_<;>intro g1;rotate_left
 .refine J ?_;exact⟨⟨false,aL,o.r0.no fun h=>g1 h.1⟩,aJ⟩
 have na:=o.j3 g1;have ix:=o.ve na.lim;refine J ?_;refine J_ (yN _ m aD (dc.ext aJ) na.lim) ?_;rintro hy aN ⟨jt,ah⟩;obtain⟨fA,ql,rfl,_⟩:=jt.form;have kj:bn 2 (Flat o.Ref.enc) aN _ _:=aS.hE (enc:=o.Ref.enc) (fun _=>rfl) jt;replace av:=ah.obj av;have a7:=aJ.trans ah;clear jt;refine J ?_;apply I_<;>intro g2
 .refine J ?_;exact⟨⟨false,aL,o.r0.no fun h=>by have:=h.2.1;omega⟩,a7⟩
 refine J ?_;apply I_<;>intro g3
 .refine J ?_;exact⟨⟨false,aL,o.r0.no fun h=>by have:=h.2.2;omega⟩,a7⟩
 obtain⟨q,p,k,bF⟩:=o.pM (m:=m) (ref:=ref) ⟨g1,AK,AK⟩;obtain⟨r,rfl⟩:=QA (show 0<=ref by omega);have aP:r<(o.refs m).length:=AK
 have gu:(o.refs m)[r].inst=(q:Int):=bF.at_.pk;have pd:(o.refs m)[r].cmd=(k:Int):=bF.at_.sC;obtain⟨jG,rfl⟩:=kj.addr;refine eb ?_;refine S_ [1,2] (fun ez:Nat=>[(6,.pointer (some ⟨ez,0,none⟩))]) (fun ez W=>(∃gw fS aQ eZ,W.heap[ez]? = some (.cells #[.string (o.bT m p k).name,.I (o.bT m p k).from_,.I (o.bT m p k).to,.slice gw (o.bT m p k).guard.length fS,.slice aQ (o.bT m p k).bQ.length eZ,.bool (o.bT m p k).fair] T.m))/\Ext aN W) ?_ ?_
 .have wE:∀{W},Ext aN W->DD F.b #[.agg #[.slice b6 m.scalars.length bx,.slice bR m.vars.length c1,.slice bX m.aw.length c2,.slice bZ m.procs.length bu,.slice ca m.props.length bC]] W fun v w'=>(∃cn ci,v = .slice cn (o.insts m).length ci/\ku w' v (o.insts m))/\Ext W w':=fun {W} he=>(wU _ m W (dc.ext (a7.trans he)) aK).mono fun v w' ⟨aG,iY⟩=>by
   obtain⟨cn,ci,rfl,_⟩:=aG.form;exact⟨⟨cn,ci,rfl,aS.hE (enc:=o.cX.enc) (fun _=>rfl) aG⟩,iY⟩
  have ej:∀{W} {bL},Ext aN W->ku W bL (o.insts m)->DD F.g #[.agg #[.slice b6 m.scalars.length bx,.slice bR m.vars.length c1,.slice bX m.aw.length c2,.slice bZ m.procs.length bu,.slice ca m.props.length bC],bL,.agg ((o.refs m)[r]).enc.toArray] W fun u w'=>(∃gw fS aQ eZ,u = .agg #[.string (o.bT m p k).name,.I (o.bT m p k).from_,.I (o.bT m p k).to,.slice gw (o.bT m p k).guard.length fS,.slice aQ (o.bT m p k).bQ.length eZ,.bool (o.bT m p k).fair])/\Ext W w':=fun {W bL} he U=>(Wl _ bL m r q p k W (dc.ext (a7.trans he)) U bF _ gu pd).mono fun u w' ⟨⟨fq,dH,hu,az,aV⟩,iY⟩=>by
   obtain⟨gw,fS,rfl,_⟩:=az.form;obtain⟨aQ,eZ,rfl,_⟩:=aV.form;exact⟨⟨gw,fS,aQ,eZ,hu⟩,iY⟩
  refine J ?_;intro aU ax;replace av:=ax.obj av;have as7:=kj.ext Flat.ext ax;refine J ?_;refine⟨?_,?_⟩
  .refine J_ (wE ax) ?_;rintro _ bt ⟨⟨cn,ci,rfl,aZ⟩,aI⟩;have bJ:=ax.trans aI;refine⟨aI,?_⟩;refine J ?_;refine⟨?_,?_⟩
   .refine J_ (ej bJ aZ) ?_;rintro _ bz ⟨⟨gw,fS,aQ,eZ,rfl⟩,aM⟩;have cv:=bJ.trans aM;refine J ?_;intro bK ez gm bq cb;refine⟨(aI.trans aM).trans bq,?_⟩;refine T_ cb rfl rfl Ni fun c4 jc cG=>?_;have fk:=jc.ext bq gm;refine J ?_;exact⟨ez,⟨aL,trivial⟩,⟨_,_,_,_,cG⟩,cv.trans fk⟩
   .refine O_ ?_;intro bz ez gm aM cb;have cv:=bJ.trans aM;refine⟨aI.trans aM,?_⟩;refine J ?_;refine J_ (ej cv (aZ.ext Flat.ext aM)) ?_;rintro _ bK ⟨⟨gw,fS,aQ,eZ,rfl⟩,bq⟩;refine J ?_;refine T_ (bq.obj cb) rfl rfl Ni fun c4 jc cG=>?_;have fk:=jc.ext (aM.trans bq) gm;refine J ?_;exact⟨ez,⟨aL,trivial⟩,⟨_,_,_,_,cG⟩,bJ.trans fk⟩
  .refine O_ ?_;intro bt ez gm aI cb;have bJ:=ax.trans aI;refine⟨aI,?_⟩;refine J ?_;refine J_ (wE bJ) ?_;rintro _ bz ⟨⟨cn,ci,rfl,aZ⟩,aM⟩;have cv:=bJ.trans aM;refine⟨aI.trans aM,?_⟩;refine J ?_;refine J_ (ej cv aZ) ?_;rintro _ bK ⟨⟨gw,fS,aQ,eZ,rfl⟩,bq⟩;refine J ?_;refine T_ ((aM.trans bq).obj cb) rfl rfl Ni fun c4 jc cG=>?_;have fk:=jc.ext ((aI.trans aM).trans bq) gm;refine J ?_;exact⟨ez,⟨aL,trivial⟩,⟨_,_,_,_,cG⟩,ax.trans fk⟩
 rintro ez S aU ⟨⟨gw,fS,aQ,eZ,cb⟩,ax⟩;replace av:=ax.obj av;have bD:=a7.trans ax;refine J ?_;refine J_ (adM _ m (r:Int) aU (dc.ext bD) aK (aO.ext bD)) ?_;rintro _ bt ⟨⟨bd,iO,a,b,rfl,dg,ki,bH⟩,aI⟩;have bJ:=bD.trans aI;replace av:=aI.obj av;replace cb:=aI.obj cb;have fs:=o.ar7 bF bH;have hlen:=aqp g1;refine J ?_;refine J_ (aqq _ m bt (dc.ext bJ) aK (aO.ext bJ)) ?_;rintro arP bz ⟨⟨ik,n,aG⟩,aM⟩;have cv:=bJ.trans aM;replace cb:=aM.obj cb;have fin:∀(W:A_) (bM:Nat),Ext bz W->(0<b.length->xN W bM ik (o.oK m))->DD F.ae #[iO,.func (.func F.u) #[] #[.pointer (some ⟨bM,0,none⟩)]] W fun b0 w'=>b0 = .bool (b.any (sD (o.oK m)))/\Ext W w':=fun W bM he cc =>
  aqj iO b bM ik _ W (ki.ext Flat.ext (aM.trans he)) cc fun x ag=>⟨(fs x ag).1,by have:=fs x ag;omega⟩
 have kp:∃p,arP = .slice p n n/\(0<b.length->p=some ⟨ik,0,none⟩/\n=(o.oK m).length/\bz.heap[ik]? = some (.cells (oo (o.oK m)).toArray T.ae)):=by
  rcases aG with ⟨ak,rfl,rfl⟩ | ⟨rfl,az,_,ma⟩
  .refine⟨none,rfl,fun ao=>?_⟩;have h1:=fs _ (GR ao);rw[ak] at hlen;simp at hlen;omega
  .exact⟨_,rfl,fun _=>⟨rfl,az,ma⟩⟩
 obtain⟨au2,rfl,akJ⟩:=kp;refine J ?_;intro wn bM ow fC eU;refine J ?_;intro bK dL lq;have bq:Ext bz bK:=dL.ext fC ow;clear eU;have dz:=cv.trans bq;replace cb:=bq.obj cb;have aiG:0<b.length->xN bK bM ik (o.oK m):=fun ao=>by
  obtain⟨rfl,rfl,ma⟩:=akJ ao;exact⟨lq,bq.obj ma⟩
 refine J ?_;apply I_<;>intro g5
 .refine J ?_;exact⟨⟨true,aL,o.r0.of bF bH ⟨fun _=>.inl g5,fun _=>rfl⟩⟩,dz⟩
 refine J ?_;refine J_ (fin bK bM bq aiG) ?_;rintro _ c4 ⟨rfl,bG⟩;refine J ?_;refine⟨⟨_,aL,o.r0.of bF bH ?_⟩,dz.trans bG⟩;rw[aqc g1 fs];exact⟨.inr,fun h=>h.resolve_left AK⟩
end Go.Proofs.R
end
section
namespace o
open Go
def oW(m:Model)(q l:Int)(i:Nat):Prop := ∃(e3 p k:Nat),fr m i e3 p k/\(e3:Int)=q/\(bT m p k).from_=l
def pt(m:Model)(q l:Int):Prop:=(check m).cN=0/\∃(e3 p:Nat) (h:fY m e3 p),(e3:Int)=q/\0<=l/\l<(m.procs[p]'(h.au)).cp
def Bb(m:Model)(L:C_ (C_ Int×C_ Int))(q l:Int):Prop :=
 ∀i,oW m q l i->∀j (aF:j<(refs m).length),(refs m)[j].inst≠q->∀x y,L[i]? = some x->L[j]? = some y->¬sM x.1 x.2 y.1 y.2
structure oY(m:Model)(q l:Int)(t:Bool):Prop where
 off:¬pt m q l->t=false
 there:pt m q l->∀L,nx m (refs m).length L->(t=true↔Bb m L q l)
theorem oY.no{m:Model}{q l:Int}(h:¬pt m q l):oY m q l false:=⟨fun _=>rfl,fun k=>absurd k h⟩
theorem oY.of{m:Model}{q l:Int}{t:Bool}{L:C_ (C_ Int×C_ Int)}(dg:pt m q l)(lI:nx m (refs m).length L)(h:t=true↔Bb m L q l):oY m q l t :=
 ⟨fun k=>absurd dg k,fun _ nv Oq=>by rw[<-lI.eq Oq];exact h⟩
theorem FK{m:Model}{q p:Nat}{l:Int}(hk:(check m).cN=0)(aZ:fY m q p)(af:0<=l)(h1:l<(m.procs[p]'aZ.au).cp):pt m q l:=⟨hk,q,p,aZ,rfl,af,h1⟩
theorem fY.one{m:Model}{q p gB:Nat}(h:fY m q p)(bo:fY m q gB):p=gB:=by
 have a:=h.eq;have b:=bo.eq;omega
theorem pt.lt{m:Model}{q p:Nat}{l:Int}(h:pt m q l)(aZ:fY m q p):0<=l/\l<(m.procs[p]'aZ.au).cp:=by
 obtain⟨_,e3,gB,aim,e,af,h1⟩:=h
 have:e3=q:=AK
 subst this
 have:=aZ.one aim
 subst this;exact⟨af,h1⟩
theorem pt.aR{m:Model}{q l:Int}(h:pt m q l):0<=q/\q<(insts m).length/\0<=l:=by
 obtain⟨_,e3,gB,aZ,e,af,h1⟩:=h
 have:=aZ.ar
 omega
theorem Xf{m:Model}{q l:Int}{i e3 p k:Nat}(bF:fr m i e3 p k):oW m q l i↔((e3:Int)=q/\(bT m p k).from_=l):=by
 constructor
 .rintro⟨a,b,c,h,h1,I⟩;obtain⟨rfl,rfl,rfl⟩:=bF.one h;exact⟨h1,I⟩
 .rintro⟨h1,I⟩;exact⟨e3,p,k,bF,h1,I⟩
theorem oW.lt{m:Model}{q l:Int}{i:Nat}(h:oW m q l i):i<(refs m).length:=by
 obtain⟨_,_,_,bF,_⟩:=h
 have:=bF.told.2.2
 omega
theorem Rv:∀l:C_ Int,∃r,sR l r
 | []=>⟨[],List.Pairwise.nil,fun _=>Iff.rfl⟩
 | x :: l=>by
  obtain⟨r,aP⟩:=Rv l;by_cases ag:x∈r
  .exact⟨r,aP.ns,fun y=>by
    rw[aP.mem,AJ5];exact⟨.inr,fun h=>h.elim (fun e=>e ▸ (aP.mem x).1 ag) id⟩⟩
  .refine⟨r.filter (· < x)++x :: r.filter (x < ·),?_,fun y=>?_⟩
   .refine List.pairwise_append.2 ⟨aP.ns.sublist List.filter_sublist,List.pairwise_cons.2 ⟨fun y bV=>?_,aP.ns.sublist List.filter_sublist⟩,fun y bV z bI=>?_⟩
    .simpa using(List.mem_filter.1 bV).2
    .have h1:y<x:=by simpa using(List.mem_filter.1 bV).2
     rcases List.mem_cons.1 bI with e | e
     .omega
     .have I:x<z:=by simpa using(List.mem_filter.1 e).2
      omega
   .rw[AH7,AJ5,AK9,AK9,AJ5,<-aP.mem y];simp only[decide_eq_true_eq];constructor
    .rintro(h | h | h)
     .exact .inr h.1
     .exact .inl h
     .exact .inr h.1
    .rintro(h | h)
     .exact .inr (.inl h)
     .have:y≠x:=fun e=>ag (e ▸ h)
      rcases Int.lt_or_lt_of_ne this with k | k
      .exact .inl ⟨h,k⟩
      .exact .inr (.inr ⟨h,k⟩)
theorem abJ(m:Model)(ref:Int):∃a b,lD m ref a b:=by
 by_cases aB:Told m ref
 .obtain⟨q,p,k,bF⟩:=pM aB;obtain⟨a,aV⟩:=Rv (rL m q (bT m p k) (bT m p k).bQ.length);obtain⟨b,ao⟩:=Rv (oP m q (bT m p k) (bT m p k).bQ.length);exact⟨a,b,lD.of bF aV ao⟩
 .exact⟨[],[],lD.nil aB⟩
theorem ac0(m:Model):∀n,∃L,nx m n L
 | 0=>⟨[],nx.nil m⟩
 | n+1=>by
  obtain⟨L,h⟩:=ac0 m n;obtain⟨a,b,bH⟩:=abJ m n;exact⟨_,h.snoc bH⟩
noncomputable def FL(m:Model)(q l:Int):Bool := @decide (pt m q l/\∀L,nx m (refs m).length L->Bb m L q l) (Classical.propDecidable _)
theorem oY.is{m:Model}{q l:Int}{t:Bool}(h:oY m q l t):t=FL m q l:=by
 unfold FL;by_cases dg:pt m q l
 .obtain⟨L,lI⟩:=ac0 m (refs m).length;have h1:=h.there dg L lI;refine Bool.eq_iff_iff.2 (h1.trans ?_);rw[@decide_eq_true_iff _ (Classical.propDecidable _)];exact⟨fun k=>⟨dg,fun nv Oq=>lI.eq Oq ▸ k⟩,fun k=>k.2 L lI⟩
 .rw[h.off dg];exact(@decide_eq_false _ (Classical.propDecidable _) fun k=>dg k.1).symm
noncomputable def xo(m:Model)(ref:Int):Bool := @decide (∃q p k a b,fr m ref q p k/\lD m ref a b/\((bT m p k).to<=(bT m p k).from_\/∃x∈b,x∈vg m)) (Classical.propDecidable _)
theorem r0.is{m:Model}{ref:Int}{t:Bool}(h:r0 m ref t):t=xo m ref:=by
 unfold xo;refine Bool.eq_iff_iff.2 ?_;rw[@decide_eq_true_iff _ (Classical.propDecidable _)];constructor
 .intro e;have aB:Told m ref:=Classical.byContradiction fun az=>by rw[h.none az] at e;cases e
  obtain⟨q,p,k,bF⟩:=pM aB;obtain⟨a,b,bH⟩:=abJ m ref;exact⟨q,p,k,a,b,bF,bH,(h.there q p k a b bF bH).1 e⟩
 .rintro⟨q,p,k,a,b,bF,bH,hk⟩;exact(h.there q p k a b bF bH).2 hk
structure iR where
 cmd:Int
 k2:Int
 to:List Int
def yI(m:Model)(q:Nat):Nat:=match (insts m)[q]? with
 | some i=>i.proc.toNat
 | none=>0
def kW(m:Model)(s:C_ Int)(r:Nat):C_ iR:=match (refs m)[r]? with
 | none=>[]
 | some x=>match hF m s x.inst.toNat (bT m (yI m x.inst.toNat) x.cmd.toNat) with
  | none=>[]
  | some t=>⟨r,0,t⟩ :: if ways (bT m (yI m x.inst.toNat) x.cmd.toNat) m.aw=2 then [⟨r,1,lost m s t (bT m (yI m x.inst.toNat) x.cmd.toNat)⟩] else []
def jy(m:Model)(s:C_ Int)(n:Nat):C_ iR:=(List.range n).flatMap (kW m s)
def gv(m:Model)(s:C_ Int):C_ iR:=match jy m s (refs m).length with
 | []=>[⟨-1,0,s⟩]
 | l=>l
theorem F9(m:Model)(s:C_ Int)(n:Nat):jy m s (n+1)=jy m s n++kW m s n:=by
 unfold jy;rw[AH5,AG8];simp
theorem am9(m:Model)(s:C_ Int)(r:Nat):(kW m s r).length<=2:=by
 unfold kW;split
 .simp
 .split
  .simp
  .split<;>simp
theorem QI(m:Model)(s:C_ Int):∀n,(jy m s n).length<=2*n
 | 0=>by simp[jy]
 | n+1=>by
  rw[F9,Ln]
  have:=QI m s n
  have:=am9 m s n
  omega
theorem fr.kW{m:Model}{r q p k:Nat}(h:fr m r q p k)(s:C_ Int):kW m s r=match hF m s q (bT m p k) with
  | none=>[]
  | some t=>⟨r,0,t⟩ :: if ways (bT m p k) m.aw=2 then [⟨r,1,lost m s t (bT m p k)⟩] else []:=by
 have h1:=h.U;have dg:=h.at_;simp only[Int.toNat_natCast] at h1 dg;have bB:(refs m)[r].inst.toNat=q:=by have:=dg.pk;omega
 have aJ:(refs m)[r].cmd.toNat=k:=by have:=dg.sC;omega
 have a7:yI m q=p:=by
  unfold yI;rw[List.getElem?_eq_getElem dg.U]
  have:=dg.ip
  simp only;omega
 unfold o.kW;rw[List.getElem?_eq_getElem h1];simp only[bB,aJ,a7]
theorem fr.off{m:Model}{r q p k:Nat}(h:fr m r q p k){s:C_ Int}(bo:hF m s q (bT m p k)=none):o.kW m s r=[]:=by rw[h.kW,bo]
theorem fr.QX{m:Model}{r q p k:Nat}(h:fr m r q p k){s t:C_ Int}(bo:hF m s q (bT m p k)=some t)(hw:¬ways (bT m p k) m.aw=2):o.kW m s r=[⟨r,0,t⟩]:=by
 rw[h.kW,bo];simp only[if_neg hw]
theorem fr.aaX{m:Model}{r q p k:Nat}(h:fr m r q p k){s t:C_ Int}(bo:hF m s q (bT m p k)=some t)(hw:ways (bT m p k) m.aw=2):o.kW m s r=[⟨r,0,t⟩,⟨r,1,lost m s t (bT m p k)⟩]:=by
 rw[h.kW,bo];simp only[if_pos hw]
structure Mw(m:Model)(s:List Int)(x:iR)(q p k:Nat)(u:List Int):Prop where
 at_:fr m x.cmd q p k
 asX:hF m s q (bT m p k)=some u
 avj:x.k2=0/\x.to=u\/x.k2=1/\ways (bT m p k) m.aw=2/\x.to=lost m s u (bT m p k)
theorem am8{m:Model}{s:C_ Int}{r:Nat}(hk:(check m).cN=0)(aP:r<(refs m).length){x:iR}(ag:x∈kW m s r):∃q p k u,Mw m s x q p k u/\x.cmd=r:=by
 obtain⟨q,p,k,bF⟩:=pM (m:=m) (ref:=r) ⟨hk,AK,AK⟩;cases h:hF m s q (bT m p k) with
 | none=>rw[bF.off h] at ag;cases ag
 | some u =>
  by_cases hw:ways (bT m p k) m.aw=2
  .rw[bF.aaX h hw] at ag;simp only[List.mem_cons,List.not_mem_nil,or_false] at ag;rcases ag with rfl | rfl
   .exact⟨q,p,k,u,⟨bF,h,.inl ⟨rfl,rfl⟩⟩,rfl⟩
   .exact⟨q,p,k,u,⟨bF,h,.inr ⟨rfl,hw,rfl⟩⟩,rfl⟩
  .rw[bF.QX h hw] at ag;simp only[List.mem_cons,List.not_mem_nil,or_false] at ag;subst ag;exact⟨q,p,k,u,⟨bF,h,.inl ⟨rfl,rfl⟩⟩,rfl⟩
theorem am2{m:Model}{s:C_ Int}(hk:(check m).cN=0){x:iR}(ag:x∈gv m s):(x.cmd = -1/\x.k2=0/\x.to=s)\/∃q p k u,Mw m s x q p k u:=by
 have key:x∈jy m s (refs m).length->∃q p k u,Mw m s x q p k u:=fun h=>by
  unfold jy at h;obtain⟨r,aP,ag⟩:=List.mem_flatMap.1 h;obtain⟨q,p,k,u,h,_⟩:=am8 hk (List.mem_range.1 aP) ag;exact⟨q,p,k,u,h⟩
 unfold gv at ag;split at ag
 .simp only[List.mem_cons,List.not_mem_nil,or_false] at ag;subst ag;exact .inl ⟨rfl,rfl,rfl⟩
 .exact .inr (key ag)
theorem ac7{m:Model}{c:ea}(h:ways c m.aw=2):∃j:Nat,(comm c.bQ).2=j/\j<m.aw.length:=by
 obtain⟨j,h1,I,_⟩:=arU (c:=c) (l:=m.aw) AK;exact⟨j,h1,I⟩
theorem arS(c:ea)(l:C_ dB):ways c l<=2:=by
 unfold ways;split
 .split
  .split<;>omega
  .omega
 .omega
def A9(m:Model)(s:C_ Int)(r:Nat):Prop := ∃q p k,fr m r q p k/\hF m s q (bT m p k)≠none
def Aw(m:Model)(s:C_ Int)(j:Nat):Int:=(s[dG m j]?).getD 0
structure n3(m:Model)(s:List Int)(j:Nat):Prop where
 loc:FL m j (Aw m s j)=true
 H6:∀r,oW m j (Aw m s j) r->xo m r=false
 on:∃r,oW m j (Aw m s j) r/\A9 m s r
structure qU(m:Model)(s:List Int)(i:Int):Prop where
 bad:¬gL m s->i = -1
 none:gL m s->i<0->i = -1/\∀j,j<(insts m).length->¬n3 m s j
 some:gL m s->0<=i->i.toNat<(insts m).length/\n3 m s i.toNat/\∀j,j<i.toNat->¬n3 m s j
theorem qU.eq{m:Model}{s:C_ Int}{i pX:Int}(h:qU m s i)(k:qU m s pX):i=pX:=by
 by_cases bH:gL m s
 .by_cases h1:i<0
  .obtain⟨bB,kX⟩:=h.none bH h1;by_cases I:pX<0
   .rw[bB,(k.none bH I).1]
   .obtain⟨a,b,_⟩:=k.some bH AK;exact absurd b (kX _ a)
  .obtain⟨a,b,c⟩:=h.some bH AK;by_cases I:pX<0
   .exact absurd b ((k.none bH I).2 _ a)
   .obtain⟨cF,gS,kN⟩:=k.some bH AK;rcases Nat.lt_trichotomy i.toNat pX.toNat with q | q | q
    .exact absurd b (kN _ q)
    .omega
    .exact absurd gS (c _ q)
 .rw[h.bad bH,k.bad bH]
def BO(m:Model)(r:Nat):Int:=match (refs m)[r]? with
 | some x=>(bT m (yI m x.inst.toNat) x.cmd.toNat).from_
 | none=>0
def yv(m:Model)(r:Nat):Int:=match (refs m)[r]? with
 | some x=>x.inst
 | none => -1
def pQ(m:Model)(q l:Int)(r:Nat):Bool:=decide (yv m r=q)&&decide (BO m r=l)
theorem fr.rel{m:Model}{r q p k:Nat}(h:fr m r q p k):yv m r=q/\BO m r=(bT m p k).from_:=by
 have h1:=h.U;have dg:=h.at_;simp only[Int.toNat_natCast] at h1 dg;have bB:(refs m)[r].inst.toNat=q:=by have:=dg.pk;omega
 have aJ:(refs m)[r].cmd.toNat=k:=by have:=dg.sC;omega
 have a7:yI m q=p:=by
  unfold yI;rw[List.getElem?_eq_getElem dg.U]
  have:=dg.ip
  simp only;omega
 unfold yv BO;rw[List.getElem?_eq_getElem h1];simp only[bB,aJ,a7,and_true];exact dg.pk
theorem IA{m:Model}{q l:Int}{r:Nat}(hk:(check m).cN=0)(aP:r<(refs m).length):pQ m q l r=true↔oW m q l r:=by
 obtain⟨e3,p,k,bF⟩:=pM (m:=m) (ref:=r) ⟨hk,AK,AK⟩;obtain⟨h1,I⟩:=bF.rel;rw[Xf bF];unfold pQ;rw[h1,I,AL0,decide_eq_true_eq,decide_eq_true_eq]
structure adB(m:Model)(s:List Int)(q l:Int):Prop where
 loc:FL m q l=true
 H6:∀r,oW m q l r->xo m r=false
 on:∃r,oW m q l r/\A9 m s r
theorem agw{m:Model}{s:C_ Int}{j:Nat}:n3 m s j↔adB m s j (Aw m s j):=⟨fun h=>⟨h.loc,h.H6,h.on⟩,fun h=>⟨h.loc,h.H6,h.on⟩⟩
def pZ(m:Model)(i:Int)(x:iR):Bool:=decide (0<=x.cmd)&&decide (yv m x.cmd.toNat=i)
def lQ(m:Model)(s:C_ Int)(i:Int):C_ iR:=if i<0 then gv m s else (gv m s).filter (pZ m i)
theorem ana{m:Model}{s:C_ Int}(hk:(check m).cN=0){x:iR}(ag:x∈gv m s):x.cmd = -1\/(0<=x.cmd/\x.cmd.toNat<(refs m).length):=by
 rcases am2 hk ag with ⟨h,_⟩ | ⟨q,p,k,u,h⟩
 .exact .inl h
 .exact .inr ⟨h.at_.aR,h.at_.U⟩
end o
end