/- Parts. -/
import Derived.Test.YtakmdjclehkglaaGreatDoorQamr
import Derived.SizedLaws
set_option linter.all false
set_option maxRecDepth 8000
set_option maxHeartbeats 16000000
namespace ba
open Go Go.RowKit
theorem ah6{w:A_}{b:Nat}{v:B_}{e:F_}{a:Addr}{n:Int}(ak:w.heap[b]? = some (.cells #[v] e))(aH:∀k:Int,v≠.I k)(h:w.cell? a=some (.I n)):a.block≠b:=λhe=>by
 unfold World.cell? at h;rw[he,ak] at h;simp only at h;cases aj:a.spot with
 | some x=>simp[aj] at h
 | none =>
  simp[aj] at h
  have:a.off=0:=by
   cases aS:a.off with
   | zero=>rfl
   | succ k=>rw[aS] at h;simp at h
  rw[this] at h;simp at h;exact aH n h
def Nr{α:Type}{enc:α->C_ B_}{sz b:Nat}{w w':A_}{v u:B_}{e:F_}{xs:C_ α}(hint:∀x,∀y∈enc x,∃n,y = .I n)(h:bm sz (Flat enc) w v xs)(ak:w.heap[b]? = some (.cells #[u] e))(hu:∀k:Int,u≠.I k)(hw:dw b w w'):bm sz (Flat enc) w' v xs:=by
 obtain⟨aN,cap,bG,h1,J,ab,aF⟩:=h;refine⟨aN,cap,bG,h1,J,ab,λa aY i U j y ay=>?_⟩;have an:=aF a aY i U j y ay;obtain⟨n,rfl⟩:=hint _ y (List.mem_of_getElem? ay);exact hw.cell an (ah6 ak hu an)
end ba
namespace Go.Proofs.R
open Go Go.RowKit ba o
def adw(x:Int):∀y∈bX x,∃n,y = .I n:=by simp[bX]
def asN(x:o.Ref):∀y∈x.enc,∃n,y = .I n:=by simp[o.Ref.enc]
def aoP(x:cP):∀y∈x.enc,∃n,y = .I n:=by simp[cP.enc]
abbrev adY:C_ Nat:=[5,6,7,26,28,30,31]
def vV(b:Bool)(v:B_):B_:=if b then v else .slice none 0 0
structure j2(gg:Fr)(w0:World)(m:o.Model)(D:List Nat)(S:Fr)(w:World):Prop where
 ext:Ext w0 w
 jw:∀t,¬t∈adY->S t=gg t
 f26:26∈D->tu w (S 26) (o.refs m)
 f28:28∈D->ix w (S 28) (o.insts m)
 f30:30∈D->∃(ys:List Value) (v:Value),S 30 = .agg ys.toArray/\ys[2]? = some v/\bm 1 (Flat bX) w v (o.layout m).insts
 f31:31∈D->bm 1 (Flat bX) w (S 31) (o.layout m).insts
 f7:7∈D->bm 1 (Flat bX) w (S 7) (o.layout m).insts
 f5:5∈D->∃b,w0.heap.size<=b/\S 5 = .pointer (some ⟨b,0,none⟩)/\w.heap[b]? = some (.cells #[vV (decide (1<=D.count 100000)) (S 26)] T.g)
 f6:6∈D->∃b,w0.heap.size<=b/\S 6 = .pointer (some ⟨b,0,none⟩)/\w.heap[b]? = some (.cells #[vV (decide (2<=D.count 100000)) (S 28)] T.p)
 qR:7∈D->2<=D.count 100000
def xS{S:Fr}{D:C_ Nat}{d t:Nat}{v:B_}(h:t∈D)(bb:¬d∈D):cg S d v t=S t:=by
 have cv:t≠d:=λe=>bb (e ▸ h);unfold cg;rw[if_neg cv]
section
variable{gg:Fr}{w0 w w':World}{m:o.Model}{D:List Nat}{S:Fr}
def j2.l6(h:j2 gg w0 m D S w){d:Nat}{v:B_}(e:Ext w w')(aj:d∈adY)(bb:¬d∈D)(an:D.count 100000=0/\d≠7\/(d=7/\26∈D/\28∈D/\2<=D.count 100000))
  (n26:d=26->tu w' v (o.refs m))(n28:d=28->ix w' v (o.insts m))(n30:d=30->∃(ys:C_ B_) (u:B_),v = .agg ys.toArray/\ys[2]? = some u/\bm 1 (Flat bX) w' u (o.layout m).insts)
  (n31:d=31->bm 1 (Flat bX) w' v (o.layout m).insts)(n7:d=7->bm 1 (Flat bX) w' v (o.layout m).insts)
  (n5:d=5->∃b,w0.heap.size<=b/\v = .pointer (some ⟨b,0,none⟩)/\w'.heap[b]? = some (.cells #[.slice none 0 0] T.g))
  (n6:d=6->∃b,w0.heap.size<=b/\v = .pointer (some ⟨b,0,none⟩)/\w'.heap[b]? = some (.cells #[.slice none 0 0] T.p)):j2 gg w0 m (d :: D) (cg S d v) w':=by
 have cv:d≠100000:=λe=>by rw[e] at aj;exact absurd aj BS
 have Gg:(d :: D).count 100000=D.count 100000:=List.count_cons_of_ne (by simpa using cv);refine⟨h.ext.trans e,λt aB=>?_,λa=>?_,λa=>?_,λa=>?_,λa=>?_,λa=>?_,λa=>?_,λa=>?_,λa=>?_⟩
 .have cv:t≠d:=λe=>aB (e ▸ aj);rw[<-h.jw t aB];unfold cg;rw[if_neg cv]
 .by_cases q:d=26
  .subst q;simpa[cg] using n26 rfl
  .have cx:26∈D:=by simpa[Ne.symm q] using a
   rw[xS cx bb];exact bm.ext Flat.ext e (h.f26 cx)
 .by_cases q:d=28
  .subst q;simpa[cg] using n28 rfl
  .have cx:28∈D:=by simpa[Ne.symm q] using a
   rw[xS cx bb];exact bm.ext Flat.ext e (h.f28 cx)
 .by_cases q:d=30
  .subst q;simpa[cg] using n30 rfl
  .have cx:30∈D:=by simpa[Ne.symm q] using a
   rw[xS cx bb];obtain⟨ys,u,h1,J,ab⟩:=h.f30 cx;exact⟨ys,u,h1,J,bm.ext Flat.ext e ab⟩
 .by_cases q:d=31
  .subst q;simpa[cg] using n31 rfl
  .have cx:31∈D:=by simpa[Ne.symm q] using a
   rw[xS cx bb];exact bm.ext Flat.ext e (h.f31 cx)
 .by_cases q:d=7
  .subst q;simpa[cg] using n7 rfl
  .have cx:7∈D:=by simpa[Ne.symm q] using a
   rw[xS cx bb];exact bm.ext Flat.ext e (h.f7 cx)
 .by_cases q:d=5
  .subst q;rw[Gg];have ad:D.count 100000=0:=by rcases an with ⟨ad,_⟩ | ⟨ad,_⟩;exact ad;cases ad
   rw[ad];simpa[cg,vV] using n5 rfl
  .have cx:5∈D:=by simpa[Ne.symm q] using a
   obtain⟨b,h1,J,ab⟩:=h.f5 cx;rw[xS cx bb,Gg];refine⟨b,h1,J,?_⟩;rcases an with ⟨ad,_⟩ | ⟨_,mU,_⟩
   .rw[ad] at ab ⊢;simpa[vV] using e.obj ab
   .rw[xS mU bb];exact e.obj ab
 .by_cases q:d=6
  .subst q;rw[Gg];have ad:D.count 100000=0:=by rcases an with ⟨ad,_⟩ | ⟨ad,_⟩;exact ad;cases ad
   rw[ad];simpa[cg,vV] using n6 rfl
  .have cx:6∈D:=by simpa[Ne.symm q] using a
   obtain⟨b,h1,J,ab⟩:=h.f6 cx;rw[xS cx bb,Gg];refine⟨b,h1,J,?_⟩;rcases an with ⟨ad,_⟩ | ⟨_,_,Qi,_⟩
   .rw[ad] at ab ⊢;simpa[vV] using e.obj ab
   .rw[xS Qi bb];exact e.obj ab
 .rw[Gg];rcases an with ⟨ad,q⟩ | ⟨_,_,_,q⟩
  .have cx:7∈D:=by simpa[Ne.symm q] using a
   exact h.qR cx
  .exact q
variable{cs:List Value}
def arb(bb:¬26∈D)(an:D.count 100000=0)(aL:dh w0 cs m)(aE:uU m)(b7:gg 25 = .agg cs.toArray):tv Tryz.prog w0 (j2 gg w0 m) D ⟨some 26,none,.c (.fn F.d [.tmp 25])⟩:=⟨rfl,λS w h=>by
 show Ei F.d #[S 25] w λv w'=>Ext w0 w'/\j2 gg w0 m (26 :: D) (cg S 26 v) w';rw[h.jw 25 BS,b7];exact(zK _ m w (aL.ext h.ext) aE).mono λv w' ⟨h1,J⟩=>⟨h.ext.trans J,h.l6 J BS bb (.inl ⟨an,BS⟩) (λ_=>aK.e4 (enc:=o.Ref.enc) (λ_=>rfl) h1) (λq=>by cases q) (λq=>by cases q) (λq=>by cases q) (λq=>by cases q) (λq=>by cases q) (λq=>by cases q)⟩⟩
def arc(bb:¬28∈D)(an:D.count 100000=0)(aL:dh w0 cs m)(aG:m.cr)(b7:gg 27 = .agg cs.toArray):tv Tryz.prog w0 (j2 gg w0 m) D ⟨some 28,none,.c (.fn F.c [.tmp 27])⟩:=⟨rfl,λS w h=>by
 show Ei F.c #[S 27] w λv w'=>Ext w0 w'/\j2 gg w0 m (28 :: D) (cg S 28 v) w';rw[h.jw 27 BS,b7];exact(xA _ m w (aL.ext h.ext) aG).mono λv w' ⟨h1,J⟩=>⟨h.ext.trans J,h.l6 J BS bb (.inl ⟨an,BS⟩) (λq=>by cases q) (λ_=>aK.e4 (enc:=cP.enc) (λ_=>rfl) h1) (λq=>by cases q) (λq=>by cases q) (λq=>by cases q) (λq=>by cases q) (λq=>by cases q)⟩⟩
def ard(bb:¬30∈D)(an:D.count 100000=0)(aL:dh w0 cs m)(aG:m.cr)(aS:gQ w0)(hk:(o.check m).cJ=0)(b7:gg 29 = .agg cs.toArray):tv Tryz.prog w0 (j2 gg w0 m) D ⟨some 30,none,.c (.fn F.m [.tmp 29])⟩:=⟨rfl,λS w h=>by
 show Ei F.m #[S 29] w λv w'=>Ext w0 w'/\j2 gg w0 m (30 :: D) (cg S 30 v) w';rw[h.jw 29 BS,b7];exact(He _ m w (aL.ext h.ext) aG (aS.ext h.ext)).mono λv w' ⟨⟨ys,h1,ck⟩,J⟩=>⟨h.ext.trans J,h.l6 J BS bb (.inl ⟨an,BS⟩) (λq=>by cases q) (λq=>by cases q) (λ_=>by
  rw[zw hk] at ck;obtain⟨eD,d0,dI,d1,ec,d2,ep,d3,eM,d4,rfl,_,_,cA,_⟩:=ck.here.form;exact⟨_,_,h1,rfl,cA⟩) (λq=>by cases q) (λq=>by cases q) (λq=>by cases q) (λq=>by cases q)⟩⟩
def are(bb:¬31∈D)(an:D.count 100000=0)(au:30∈D):RunT Tryz.prog w0 (j2 gg w0 m) D ⟨some 31,none,.p (.lB 2 (.tmp 30))⟩:=⟨rfl,λS w h=>by
 obtain⟨ys,v,h1,J,ab⟩:=h.f30 au;show Iw 2 (S 30) λv=>j2 gg w0 m (31 :: D) (cg S 31 v) w;rw[h1];refine⟨ys.toArray,v,rfl,by simpa using J,h.l6 (Ext.refl _) BS bb (.inl ⟨an,BS⟩) (λq=>by cases q) (λq=>by cases q) (λq=>by cases q) (λ_=>ab) (λq=>by cases q) (λq=>by cases q) (λq=>by cases q)⟩⟩
def arf(bb:¬5∈D)(an:D.count 100000=0):tv Tryz.prog w0 (j2 gg w0 m) D ⟨some 5,none,.e (.new T.g (.slice none 0 0))⟩:=⟨rfl,λS w h=>by
 show Ext w0 (w.alloc (.cells #[.slice none 0 0] T.g))/\j2 gg w0 m (5 :: D) (cg S 5 (.pointer (some ⟨w.heap.size,0,none⟩))) (w.alloc (.cells #[.slice none 0 0] T.g));exact⟨h.ext.alloc _,h.l6 ((Ext.refl w).alloc _) BS bb (.inl ⟨an,BS⟩) (λq=>by cases q) (λq=>by cases q) (λq=>by cases q) (λq=>by cases q) (λq=>by cases q) (λ_=>⟨_,h.ext.size,rfl,heap_alloc_new w _⟩) (λq=>by cases q)⟩⟩
def arh(bb:¬6∈D)(an:D.count 100000=0):tv Tryz.prog w0 (j2 gg w0 m) D ⟨some 6,none,.e (.new T.p (.slice none 0 0))⟩:=⟨rfl,λS w h=>by
 show Ext w0 (w.alloc (.cells #[.slice none 0 0] T.p))/\j2 gg w0 m (6 :: D) (cg S 6 (.pointer (some ⟨w.heap.size,0,none⟩))) (w.alloc (.cells #[.slice none 0 0] T.p));exact⟨h.ext.alloc _,h.l6 ((Ext.refl w).alloc _) BS bb (.inl ⟨an,BS⟩) (λq=>by cases q) (λq=>by cases q) (λq=>by cases q) (λq=>by cases q) (λq=>by cases q) (λq=>by cases q) (λ_=>⟨_,h.ext.size,rfl,heap_alloc_new w _⟩)⟩⟩
def ari(bb:¬7∈D)(au:31∈D/\26∈D/\28∈D/\2<=D.count 100000):RunT Tryz.prog w0 (j2 gg w0 m) D ⟨some 7,none,.p (.lJ (.tmp 31))⟩:=⟨rfl,λS w h=>by
 show j2 gg w0 m (7 :: D) (cg S 7 (S 31)) w;exact h.l6 (Ext.refl _) BS bb (.inr ⟨rfl,au.2⟩) (λq=>by cases q) (λq=>by cases q) (λq=>by cases q) (λq=>by cases q) (λ_=>h.f31 au.1) (λq=>by cases q) (λq=>by cases q)⟩
def j2.store(h:j2 gg w0 m D S w){b:Nat}{u:B_}{e:F_}(ak:w.heap[b]? = some (.cells #[u] e))(hu:∀k:Int,u≠.I k)(hA:w0.heap.size<=b)(hw:dw b w w')(ct:¬7∈D)
  (n5:5∈D->∃b,w0.heap.size<=b/\S 5 = .pointer (some ⟨b,0,none⟩)/\w'.heap[b]? = some (.cells #[vV (decide (1<=(100000 :: D).count 100000)) (S 26)] T.g))
  (n6:6∈D->∃b,w0.heap.size<=b/\S 6 = .pointer (some ⟨b,0,none⟩)/\w'.heap[b]? = some (.cells #[vV (decide (2<=(100000 :: D).count 100000)) (S 28)] T.p)):j2 gg w0 m (100000 :: D) S w':=by
 have mem:∀{t:Nat},t≠100000->t∈100000 :: D->t∈D:=λaB h=>by
  rcases List.mem_cons.1 h with e | e
  .exact absurd e aB
  .exact e
 refine⟨hw.ext h.ext hA,h.jw,λa=>Nr asN (h.f26 (mem BS a)) ak hu hw,λa=>Nr aoP (h.f28 (mem BS a)) ak hu hw,λa=>?_,λa=>Nr adw (h.f31 (mem BS a)) ak hu hw,λa=>absurd (mem BS a) ct,λa=>n5 (mem BS a),λa=>n6 (mem BS a),λa=>absurd (mem BS a) ct⟩;obtain⟨ys,v,h1,J,ab⟩:=h.f30 (mem BS a);exact⟨ys,v,h1,J,Nr adw ab ak hu hw⟩
def adZ(b:Bool){v:B_}(aH:∃aN n c,v = .slice aN n c):∀k:Int,vV b v≠.I k:=λk=>by
 obtain⟨aN,n,c,rfl⟩:=aH;cases b<;>simp[vV]
def Yk{w:A_}{b fV:Nat}{c iY:Array B_}{e e':F_}(h:w.heap[b]? = some (.cells c e))(bq:w.heap[fV]? = some (.cells iY e'))(he:e≠e'):b≠fV:=λak=>by
 rw[ak,bq] at h;injection h with h
 injection h with _ h
 exact he h.symm
def ark(an:D.count 100000=0)(au:5∈D/\6∈D/\26∈D)(ct:¬7∈D):tv Tryz.prog w0 (j2 gg w0 m) D ⟨none,none,.e (.st (.tmp 5) (.tmp 26))⟩:=⟨rfl,λS w h=>by
 obtain⟨b,h1,J,ab⟩:=h.f5 au.1;obtain⟨dm,cM,cW,fr⟩:=h.f6 au.2.1;obtain⟨aN,n,aH,_⟩:=(h.f26 au.2.2).form;have cv:dm≠b:=Yk fr ab BS;have al:(100000 :: D).count 100000=1:=by rw[List.count_cons_self,an]
 show wz (S 5) (S 26) w λw'=>Ext w0 w'/\j2 gg w0 m (100000 :: D) S w';rw[J];have key:=_V (KW:=λw'=>Ext w0 w'/\j2 gg w0 m (100000 :: D) S w') (t:=⟨⟩) (v:=S 26) ab (Nat.zero_lt_one) (by rw[aH];rfl) λw1 iF cN=>⟨iF.ext h.ext h1,h.store ab (adZ _ ⟨_,_,_,aH⟩) h1 iF ct (λ_=>⟨b,h1,J,by rw[al];exact cN⟩) (λ_=>⟨dm,cM,cW,by rw[al];rw[an] at fr;exact iF.obj fr cv⟩)⟩;unfold sy at key;exact key⟩
def arl(an:D.count 100000=1)(au:5∈D/\6∈D/\28∈D)(ct:¬7∈D):tv Tryz.prog w0 (j2 gg w0 m) D ⟨none,none,.e (.st (.tmp 6) (.tmp 28))⟩:=⟨rfl,λS w h=>by
 obtain⟨b,h1,J,ab⟩:=h.f6 au.2.1;obtain⟨dJ,cM,cW,fr⟩:=h.f5 au.1;obtain⟨aN,n,aH,_⟩:=(h.f28 au.2.2).form;have cv:dJ≠b:=Yk fr ab BS;have al:(100000 :: D).count 100000=2:=by rw[List.count_cons_self,an]
 show wz (S 6) (S 28) w λw'=>Ext w0 w'/\j2 gg w0 m (100000 :: D) S w';rw[J];have key:=_V (KW:=λw'=>Ext w0 w'/\j2 gg w0 m (100000 :: D) S w') (t:=⟨⟩) (v:=S 28) ab (Nat.zero_lt_one) (by rw[aH];rfl) λw1 iF cN=>⟨iF.ext h.ext h1,h.store ab (adZ _ ⟨_,_,_,aH⟩) h1 iF ct (λ_=>⟨dJ,cM,cW,by rw[al];rw[an] at fr;exact iF.obj fr cv⟩) (λ_=>⟨b,h1,J,by rw[al];exact cN⟩)⟩;unfold sy at key;exact key⟩
end
def arv(cs:C_ B_)(bK vr:B_)(m:o.Model)(r bP dm dJ:Nat)(w:A_)(h:dh w cs m)(aP:ix w bK (o.insts m))(iB:tu w vr (o.refs m))(fx:(o.check m).cJ=0)(aT:r<(o.refs m).length)
  (ao:w.heap[bP]? = some (.cells cs.toArray T.f))(bS:w.heap[dm]? = some (.cells #[bK] T.p))(bI:w.heap[dJ]? = some (.cells #[vr] T.g)) :
  Ei F.r #[.I r,.pointer (some ⟨bP,0,none⟩),.pointer (some ⟨dm,0,none⟩),.pointer (some ⟨dJ,0,none⟩)] w λu w'=>u = .I (CY m r)/\Ext w w':=by
 obtain⟨bZ,bz,bN,c1,bT,c2,bW,bw,b1,bD,rfl,ad,h1,J,ab,aF,eB,dD,dO,dU,eg⟩:=h.form;obtain⟨ca,ci,rfl,_⟩:=aP.form;obtain⟨e1,gh,rfl,_⟩:=iB.form;obtain⟨BK,p,k,br⟩:=mn (m:=m) (ref:=r) ⟨fx,Aw,Aw⟩;obtain⟨BN,BO⟩:=br.rel;have av:=br.at_.U;have au:=br.at_.au;have hz:=br.at_.hk;have kc:=br.at_.ip;have fm:(o.refs m)[r].inst=(BK:Int):=br.at_.nk;have ke:(o.refs m)[r].cmd=(k:Int):=br.at_.pU;obtain⟨iN,rfl⟩:=iB.addr;obtain⟨gu,rfl⟩:=aP.addr;obtain⟨a3,rfl⟩:=ab.addr;obtain⟨kC,bY,dQ,c5,eU,eA⟩:=ab.at p au;obtain⟨vT,u4,rfl,vP⟩:=eA.form;obtain⟨ac,rfl⟩:=eA.addr;obtain⟨eI,eY,va,e0,ga,e2⟩:=eA.at k hz;obtain⟨fE,fN,rfl,_⟩:=ga.form;obtain⟨oC,n2,rfl,_⟩:=e2.form;unfold dv.enc at c5;unfold dG.enc at e0;have ha:=sJ au hz;refine bk E.r ?_;refine I ?_;refine K_ BK (by rw[fm]) Aw ?_;refine I ?_;refine K_ p (by rw[kc]) au ?_;refine I ?_;refine K_ k (by rw[ke]) Aw ?_;refine I ?_;intro w1 af;refine I ?_;exact⟨by rw[BO,ha],af⟩
end Go.Proofs.R
namespace Go.Proofs.R
open Go Go.RowKit ba o
def aoW{m:o.Model}{s:C_ Int}{r:Nat}{t:Bool}(bA:gE m s)(aT:r<(o.refs m).length)(h:z6 m s r t):t=true↔uR m s r:=by
 obtain⟨q,p,k,br⟩:=mn (m:=m) (ref:=r) ⟨bA.1,Aw,Aw⟩;unfold z6 at h;rw[h];constructor
 .rintro⟨_,_,ab⟩;exact⟨q,p,k,br,ab q p k br⟩
 .rintro⟨eQ,gC,k',qX,ab⟩;refine⟨bA,br.told,λa b c C5=>?_⟩;obtain⟨rfl,rfl,rfl⟩:=qX.one C5;exact ab
theorem OX(cs:C_ B_)(v:B_)(m:o.Model)(s:C_ Int)(w:A_)(h:dh w cs m)(aG:m.cr)(aS:gQ w)(aj:c3 w v s) :
  Ei F.qQ #[.agg cs.toArray,v] w λu w'=>(∃i:Int,u = .I i/\p7 m s i)/\Ext w w':=by
 have b2:=h;obtain⟨bZ,bz,bN,c1,bT,c2,bW,bw,b1,bD,rfl,_⟩:=h.form;obtain⟨os,oX,rfl,_⟩:=aj.form;refine bk E.qQ ?_;refine I ?_;intro w1 bP c8 af ao;refine I ?_;refine J_ (zx _ m w1 (b2.ext af) aG (aS.ext af)) ?_;rintro _ az ⟨rfl,ai⟩;replace ao:=ai.obj ao;have aD:=af.trans ai;refine I ?_;refine Y_ (v:=.I (o.check m).cJ) rfl ?_;refine I ?_;refine I_ (λhk=>?_) (λhk=>?_);rotate_left
 .have aw:¬gE m s:=λbA=>hk bA.1;refine I ?_;exact⟨⟨-1,aJ,⟨λ_=>rfl,λbA=>absurd bA aw,λbA=>absurd bA aw⟩⟩,aD⟩
 refine I ?_;refine J_ (aft _ m _ s az (b2.ext aD) aG (aS.ext aD) (aj.ext Flat.ext aD)) ?_;rintro _ aM ⟨⟨t,rfl,aB⟩,ag⟩;replace ao:=ag.obj ao;have aO:=aD.trans ag;cases t with
 | false =>
  have aw:¬gE m s:=λbA=>by have:=aB.2 bA;cases this
  refine I ?_;exact⟨⟨-1,aJ,⟨λ_=>rfl,λbA=>absurd bA aw,λbA=>absurd bA aw⟩⟩,aO⟩
 | true =>
 have bA:=aB.1 rfl;have gN:=gU hk;have KM:=pn gN.lim;have gj:=xz gN;obtain⟨f6,f7,f8⟩:=pT m;have hlen:=bA.2.len;refine dV ?_;refine R_ [1,2] (λx:(Nat×Nat)×B_=>[(5,.pointer (some ⟨x.1.1,0,none⟩)),(6,.pointer (some ⟨x.1.2,0,none⟩)),(7,x.2)]) (λx W=>Ext aM W/\∃vr bK,W.heap[x.1.1]? = some (.cells #[vr] T.g)/\W.heap[x.1.2]? = some (.cells #[bK] T.p)/\tu W vr (o.refs m)/\ix W bK (o.insts m)/\bm 1 (Flat bX) W x.2 (o.layout m).insts) ?_ ?_
 .refine AB7 _ _ (by rfl) ?_;intro aR aq;dsimp only[strip];replace ao:=aq.obj ao;have bo:=aO.trans aq;refine I ?_;refine⟨j2 _ aR m,[5,6,7,26,28],?_,⟨Ext.refl _,λ_ _=>rfl,CC,CC,CC,CC,CC,CC,CC,CC⟩,?_⟩
  .have Db:=b2.ext bo;have dj:=aS.ext bo;clear ao h aj
   repeat' first
    | exact h7.nil
    | exact h7.done BS
    | refine h7.alt (arb BS BS Db gN.lim rfl) ?_ ?_
    | refine h7.alt (arc BS BS Db aG rfl) ?_ ?_
    | refine h7.fi (ard BS BS Db aG dj hk rfl) ?_ ?_
    | refine h7.alt (arf BS BS) ?_ ?_
    | refine h7.alt (arh BS BS) ?_ ?_
    | refine h7.take (are BS BS BS) ?_
    | refine h7.take (ari BS BS) ?_
    | refine h7.fi (ark BS BS BS) ?_ ?_
    | refine h7.fi (arl BS BS BS) ?_ ?_
  .rintro D p8 bg gv aP;have an:=aP.qR (gv 7 BS);obtain⟨dJ,c7,dE,ed⟩:=aP.f5 (gv 5 BS);obtain⟨dm,cR,cA,eN⟩:=aP.f6 (gv 6 BS);rw[decide_eq_true (show 1<=D.count 100000 by omega)] at ed;rw[decide_eq_true an] at eN;exact⟨((dJ,dm),p8 7),⟨dE,cA,rfl,trivial⟩,aq.trans aP.ext,_,_,ed,eN,aP.f26 (gv 26 BS),aP.f28 (gv 28 BS),aP.f7 (gv 7 BS)⟩
 rintro⟨⟨dJ,dm⟩,va⟩ p8 aR ⟨aq,vr,bK,bI,bS,iB,aP,cA⟩;dsimp only at bI bS cA;replace ao:=aq.obj ao;have bo:=aO.trans aq;have Db:=b2.ext bo;obtain⟨ca,ci,rfl,_⟩:=aP.form;obtain⟨e1,gh,rfl,_⟩:=iB.form;obtain⟨aN,fh,rfl,_⟩:=cA.form;have dN:∀{W} (r:Nat),Ext aR W->r<(o.refs m).length->Ei F.r #[.I r,.pointer (some ⟨bP,0,none⟩),.pointer (some ⟨dm,0,none⟩),.pointer (some ⟨dJ,0,none⟩)] W λu w'=>u = .I (CY m r)/\Ext W w' :=
  λ{W} r e aT=>arv _ _ _ m r bP dm dJ W (Db.ext e) (aP.ext Flat.ext e) (iB.ext Flat.ext e) hk aT (e.obj ao) (e.obj bS) (e.obj bI)
 have hb:∀{W},Ext aR W->W.heap[bP]? = _:=λe=>e.obj ao;have SA:∀{W},Ext aR W->W.heap[dJ]? = _:=λe=>e.obj bI;refine I ?_;refine L_ 35 (o.insts m).length [1,2,5,6,7,8,33,34] (λ_:Unit=>[(9,.I (-1))]) () (λi _ W=>Ext aR W/\∀j,j<i->¬mJ m s j) a6 a6 ⟨Ext.refl _,λj ay=>absurd ay (E3 _)⟩ ?_;clear ao bI bS;rintro i _ S bg U ⟨ar,ey⟩;have ao:=hb ar;have bI:=SA ar;have bC:=bo.trans ar;refine I ?_;apply I_<;>intro g1;rotate_left
 .refine I ?_;exact⟨⟨-1,aJ,⟨λ_=>rfl,λ_ _=>⟨rfl,λj ay=>ey j Aw⟩,λ_ h=>absurd h Aw⟩⟩,bC⟩
 have cw:i<(o.insts m).length:=Aw
 obtain⟨p,hIn⟩:=Bs cw;obtain⟨sU,iD⟩:=ow cw;have vv:=hIn.room;have oD:=cA.ext Flat.ext ar;have rf:=aj.ext Flat.ext bC;obtain⟨a2,rfl⟩:∃a,aN=some a:=cA.addr;obtain⟨IS,rfl⟩:=aj.addr;have sX:xJ m s i=s[cV m i]' Aw:=by unfold xJ;rw[List.getElem?_eq_getElem Aw];rfl
 refine I ?_;refine K_ (cV m i) (by rw[iD]) Aw ?_;refine I ?_;obtain⟨loc,ant⟩:∃loc,loc=s[cV m i]:=⟨_,rfl⟩;rw[<-ant] at sX ⊢;clear oD rf;refine J_ (ai3 _ m i loc bg (b2.ext bC) aG (aS.ext bC)) ?_;rintro _ bp ⟨⟨t,rfl,ck⟩,aC⟩;replace ao:=aC.obj ao;replace bI:=aC.obj bI;have b5:=bC.trans aC;have hg:=ar.trans aC;have FW:=ck.is;have vB:¬mJ m s i->∀j,j<i+1->¬mJ m s j:=λcv j ay de=>by
  by_cases e:j=i
  .rw[e] at de;exact cv de
  .exact ey j Aw de
 cases t with
 | false =>
  have cv:¬mJ m s i:=λde=>by have:=de.loc;rw[sX,<-FW] at this;cases this
  have:=vB cv
  refine I ?_;exact⟨Aw,aJ,(),⟨aJ,trivial⟩,hg,this⟩
 | true =>
 have EW:=iB.ext Flat.ext hg;refine I ?_;have Sz:∀{W},Ext bp W->W.heap[bP]? = _:=λe=>e.obj ao;clear ao bI;refine L_ 52 (o.refs m).length [1,2,5,6,7,8,9,10,11,33,34,35,50,51] (λb:Bool=>[(12,.bool b)]) false (λk b W=>Ext bp W/\(∀r,r<k->ky m i loc r=true->si m r=false)/\(b=true↔∃r,r<k/\ky m i loc r=true/\uR m s r)) a6 a6 ⟨Ext.refl _,λr aT=>absurd aT (E3 _),CC⟩ ?_;rintro k b S bH A7 ⟨bc,y7,zg⟩;have ao:=Sz bc;have cL:=b5.trans bc;have gd:=hg.trans bc;have Cl:=EW.ext Flat.ext bc;refine I ?_;apply I_<;>intro g2;rotate_left
 .have o7:k=(o.refs m).length:=Aw
  have AM:b=true↔mJ m s i:=by
   rw[Zl,sX,zg];constructor
   .rintro⟨r,h1,J,ab⟩;exact⟨FW.symm,λkl pQ=>y7 kl (by have:=pQ.lt;omega) ((CX hk pQ.lt).2 pQ),r,(CX hk Aw).1 J,ab⟩
   .intro de;obtain⟨r,h1,J⟩:=de.on;exact⟨r,by have:=h1.lt;omega,(CX hk h1.lt).2 h1,J⟩
  clear y7 zg;cases b with
  | true =>
   have de:=AM.1 rfl;refine I ?_;have lb:p7 m s (i:Int):=⟨λaw=>absurd bA aw,λ_ h=>absurd h Aw,λ_ _=>⟨Aw,by rw[AG8];exact de,λj ay=>ey j Aw⟩⟩;exact⟨⟨i,aJ,lb⟩,cL⟩
  | false =>
   have:=vB λde=>by have:=AM.2 de;cases this
   clear AM ey;refine I ?_;exact⟨Aw,aJ,(),⟨aJ,trivial⟩,gd,this⟩
 have a1:k<(o.refs m).length:=Aw
 obtain⟨BK,pp,kY,br⟩:=mn (m:=m) (ref:=k) ⟨hk,Aw,Aw⟩;obtain⟨BN,BO⟩:=br.rel;have fm:(o.refs m)[k].inst=(BK:Int):=br.at_.nk;obtain⟨iN,rfl⟩:=Cl.addr;have gI:=Cl.at k a1;obtain⟨r,aT⟩:∃r,r=(o.refs m)[k]:=⟨_,rfl⟩;rw[<-aT] at gI fm;have gI:ff bH (iN.add (k*2)) r.enc:=gI;unfold o.Ref.enc at gI;obtain⟨jw,rb⟩:∃jw,jw=CY m k:=⟨_,rfl⟩;have Rm:ky m i loc k=(decide (r.inst=i)&&decide (jw=loc)):=by unfold ky;rw[BN,<-fm,rb]
 have dN:∀{W},Ext bH W->Ei F.r #[.I k,.pointer (some ⟨bP,0,none⟩),.pointer (some ⟨dm,0,none⟩),.pointer (some ⟨dJ,0,none⟩)] W λu w'=>u = .I jw/\Ext W w':=λe=>by rw[rb];exact dN k (gd.trans e) a1
 have uB:∀{W} (fV:Bool),Ext bH W->(ky m i loc k=true->si m k=false)->(fV=true↔b=true\/(ky m i loc k=true/\uR m s k))->Ext bp W/\(∀r,r<k+1->ky m i loc r=true->si m r=false)/\(fV=true↔∃r,r<k+1/\ky m i loc r=true/\uR m s r):=λfV e h1 J=>⟨bc.trans e,λr aT ax=>by
   by_cases e:r=k
   .subst e;exact h1 ax
   .exact y7 r Aw ax,by
   rw[J,zg];constructor
   .rintro(⟨r,db,a2,a3⟩ | ⟨a2,a3⟩)
    .exact⟨r,Aw,a2,a3⟩
    .exact⟨k,Aw,a2,a3⟩
   .rintro⟨r,db,a2,a3⟩;by_cases e:r=k
    .subst e;exact .inr ⟨a2,a3⟩
    .exact .inl ⟨r,Aw,a2,a3⟩⟩
 clear zg EW BN BO;refine I ?_;intro wn tG Dh fc eI;refine I ?_;intro cB ji o2;replace o2:cB.heap[tG]? = some (.cells #[.I r.inst,.I r.cmd] T.c):=by first | exact o2 | (rw[aT];exact o2)
 have bt:Ext bH cB:=ji.ext fc Dh;replace ao:=bt.obj ao;have eK:=cL.trans bt;have hR:=gd.trans bt;clear eI gI Cl;by_cases g7:r.inst=(i:Int);rotate_left
 .have ad:ky m i loc k=false:=by rw[Rm,decide_eq_false g7];rfl
  have:=uB b bt (λh=>by rw[ad] at h;cases h) ⟨λh=>.inl h,λh=>by rcases h with h | ⟨h,_⟩;exact h;rw[ad] at h;cases h⟩
  clear y7 uB ey vB dN hb SA Sz;refine I ?_;exact⟨a1,aJ,b,⟨aJ,trivial⟩,this⟩
 have mW:ky m i loc k=decide (jw=loc):=by rw[Rm,decide_eq_true g7,AJ5]
 replace uB:=i_ @uB trivial;replace ey:=i_ ey trivial;replace dN:=i_ @dN trivial;replace vB:=i_ vB trivial;have Dk:mJ m s i->ky m i loc k=true->si m k=false:=λde ax=>de.Ft k (by rw[sX];exact(CX hk a1).1 ax);replace Dk:=i_ Dk trivial;replace mW:=i_ mW trivial;clear y7 rb Rm fm br aT hb SA Sz;refine I ?_;refine V_ (first:=[]) (cap:=[.pointer (some ⟨bP,0,none⟩),.pointer (some ⟨dm,0,none⟩),.pointer (some ⟨dJ,0,none⟩)]) Cx (dN.1 bt) ?_;rintro _ cD ⟨rfl,b0⟩;replace ao:=b0.obj ao;have fO:=eK.trans b0;have fA:=hR.trans b0;have Z1:=bt.trans b0;clear dN;by_cases g8:jw=loc;rotate_left
 .have ad:ky m i loc k=false:=by rw[mW.1,decide_eq_false g8]
  have:=uB.1 b Z1 (λh=>by rw[ad] at h;cases h) ⟨λh=>.inl h,λh=>by rcases h with h | ⟨h,_⟩;exact h;rw[ad] at h;cases h⟩
  clear uB ey vB;refine I ?_;exact⟨a1,aJ,b,⟨aJ,trivial⟩,this⟩
 have h1:ky m i loc k=true:=by rw[mW.1,decide_eq_true g8]
 replace h1:=i_ h1 trivial;refine I ?_;refine J_ (ai4 _ m k cD (b2.ext fO) aG (aS.ext fO)) ?_;rintro _ et ⟨⟨t,rfl,b7⟩,cd⟩;replace ao:=cd.obj ao;have j8:=fO.trans cd;have p3:=fA.trans cd;have Z0:=Z1.trans cd;have lf:=b7.is;cases t with
 | true =>
  have cv:¬mJ m s i:=λde=>by have:=Dk.1 de h1.1;rw[<-lf] at this;cases this
  have:=vB.1 cv
  clear uB ey vB Dk b7 lf;refine I ?_;exact⟨Aw,aJ,(),⟨aJ,trivial⟩,p3,this⟩
 | false =>
 cases b with
 | true =>
  have:=uB.1 true Z0 (λ_=>lf.symm) ⟨λh=>.inl h,λ_=>rfl⟩
  clear uB ey vB Dk b7 lf;refine I ?_;exact⟨a1,aJ,true,⟨aJ,trivial⟩,this⟩
 | false =>
  replace lf:=i_ lf trivial;clear b7;refine I ?_;refine J_ (akf _ _ m s k et (b2.ext j8) aG (aS.ext j8) (aj.ext Flat.ext j8)) ?_;rintro _ ft ⟨⟨t2,rfl,hO⟩,ef⟩;have Qw:=aoW bA a1 hO
  have:=uB.1 t2 (Z0.trans ef) (λ_=>lf.1.symm) ⟨λh=>.inr ⟨h1.1,Qw.1 h⟩,λh=>by rcases h with h | ⟨_,h⟩;cases h;exact Qw.2 h⟩
  clear uB ey vB Dk lf hO Qw;refine I ?_;exact⟨a1,aJ,t2,⟨aJ,trivial⟩,this⟩
end Go.Proofs.R
namespace ba
open Go Go.RowKit
theorem ZC{α:Type}{p:α->Bool}:∀(l:C_ α) (n:Nat),(mu p l n = -1/\l.filter (λx => !p x)=l)\/∃k,∃h:k<l.length,mu p l n=((n+k:Nat):Int)/\p l[k]=true/\(l.take (k+1)).filter (λx => !p x)=l.take k
 | [],_=>.inl ⟨rfl,rfl⟩
 | x :: r,n=>by
  by_cases au:p x=true
  .exact .inr ⟨0,CC,by simp[mu,au],by simpa using au,by simp[au]⟩
  .rcases ZC (p:=p) r (n+1) with ⟨h1,J⟩ | ⟨k,hk,h1,J,ab⟩
   .exact .inl ⟨by simp[mu,au,h1],by simp[au,J]⟩
   .exact .inr ⟨k+1,by simpa using hk,by simp only[mu,if_neg au,h1];congr 1;omega,by simpa using J,by simp[au,ab]⟩
def ako{α:Type}{q:α->Bool}{l:C_ α}{j:Nat}(h:j<l.length):(l.take (j+1)).filter q=(l.take j).filter q++if q l[j] then [l[j]] else []:=by
 rw[MR h,AJ2];congr 1;cases h:q l[j]<;>simp[h]
theorem Uj:∀(cs:C_ B_) (w:A_) (b ae i:Nat) (cur:Array B_) (e:F_),w.heap[b]? = some (.cells cur e)->ae+i+cs.length<=cur.size ->
  ∃mr,(iJ w ⟨b,ae,none⟩ cs i).heap[b]? = some (.cells mr e)/\mr.size=cur.size/\(∀j,j<ae+i\/ae+i+cs.length<=j->mr[j]? = cur[j]?)/\∀j (h:j<cs.length),mr[ae+i+j]? = some cs[j]
 | [],w,b,ae,i,cur,e,ak,_=>⟨cur,ak,rfl,λ_ _=>rfl,λj h=>absurd h (E3 _)⟩
 | c :: cs,w,b,ae,i,cur,e,ak,aE=>by
  have ay:ae+i<cur.size:=by simp at aE;omega
  have h1:=HN ak ay c;have jt:Addr.add ⟨b,0,none⟩ (ae+i)=Addr.add ⟨b,ae,none⟩ i:=by rw[add_eq,add_eq,S6]
  rw[jt] at h1;obtain⟨mr,cM,cW,fr,hN⟩:=Uj cs _ b ae (i+1) _ e h1 (by simp at aE ⊢;omega);refine⟨mr,cM,by simpa using cW,λj jy=>?_,λj h=>?_⟩
  .rw[fr j (by simp at jy ⊢;omega),Array.getElem?_set_ne _ (by simp at jy;omega)]
  .cases j with
   | zero =>
    rw[AJ3,fr (ae+i) Aw,Array.getElem?_set_self];rfl
   | succ j =>
    have:=hN j (by simpa using h)
    rw[show ae+i+(j+1)=ae+(i+1)+j from Aw,this];rfl
end ba
namespace Go.Proofs.R
open Go Go.RowKit ba
def Yw{w:A_}{b j:Nat}{c:Array B_}{t:F_}{v:B_}(h:w.heap[b]? = some (.cells c t))(ay:c[j]? = some v):w.cell? ⟨b,j,none⟩=some v:=by
 simp[World.cell?,h,ay]
structure iM(w:World)(b:Nat)(l:List (fv 3)):Prop where
 ex:∃cur,w.heap[b]? = some (.cells cur T.j)/\3*l.length<=cur.size/\∀i (h:i<l.length),∀j,j<3->cur[3*i+j]? = l[i].1[j]?
theorem iM.ext{w w':A_}{b:Nat}{l:C_ (fv 3)}(h:iM w b l)(he:Ext w w'):iM w' b l:=by
 obtain⟨cur,h1,J,ab⟩:=h.ex;exact⟨cur,he.obj h1,J,ab⟩
def iM.at_{w:A_}{b:Nat}{l:C_ (fv 3)}(h:iM w b l){i:Nat}(U:i<l.length):ff w ⟨b,3*i,none⟩ l[i].1:=by
 obtain⟨cur,h1,J,ab⟩:=h.ex;have e:(⟨b,3*i,none⟩:Addr)=Addr.add ⟨b,0,none⟩ (3*i):=by rw[add_eq,S6]
 intro j v ay;have aE:j<3:=by
  have:=(List.getElem?_eq_some_iff.1 ay).1
  rw[l[i].2.1] at this;exact this
 have cM:=ab i U j aE;rw[ay] at cM;rw[e,add_eq,add_eq,S6];exact Yw h1 cM
def iM.take{w:A_}{b:Nat}{l:C_ (fv 3)}(h:iM w b l)(k:Nat):iM w b (l.take k):=by
 obtain⟨cur,h1,J,ab⟩:=h.ex;refine⟨cur,h1,by rw[H5];omega,λi U j ay=>?_⟩;rw[H5] at U;rw[ab i Aw j ay,AI7]
def iM.set{w:A_}{b i:Nat}{l:C_ (fv 3)}(h:iM w b l)(U:i<l.length)(x:fv 3):iM (iJ w ⟨b,3*i,none⟩ x.1 0) b (l.set i x):=by
 obtain⟨cur,h1,J,ab⟩:=h.ex;have ah:=x.2.1;obtain⟨mr,cM,cW,fr,hN⟩:=Uj x.1 w b (3*i) 0 cur _ h1 Aw;refine⟨mr,cM,by rw[X4,cW];exact J,λt aB j ay=>?_⟩;rw[X4] at aB;by_cases e:i=t
 .subst e;rw[AK6]
  have:=hN j Aw
  rw[AJ3] at this;rw[this,List.getElem?_eq_getElem Aw]
 .rw[List.getElem_set_ne e,fr _ Aw];exact ab t aB j ay
def iM.cut{w:A_}{b k:Nat}{l:C_ (fv 3)}{zs:C_ B_}(h:iM w b l)(bB:3*k+zs.length<=3*l.length):iM (iJ w ⟨b,3*k,none⟩ zs 0) b (l.take k):=by
 obtain⟨cur,h1,J,ab⟩:=h.ex;obtain⟨mr,cM,cW,fr,_⟩:=Uj zs w b (3*k) 0 cur _ h1 Aw;refine⟨mr,cM,by rw[H5,cW];omega,λt aB j ay=>?_⟩;rw[H5] at aB;rw[AI7,fr _ Aw];exact ab t Aw j ay
theorem avk{P:D_}{ty:F_}{z:B_}(h:(P.info? ty).bind (·.zero)=some z)(w:A_):(zeroValue ty).run P w = .ok z w:=by
 cases U:P.info? ty with
 | none=>rw[U] at h;cases h
 | some i =>
  rw[U] at h;have J:i.zero=some z:=h;simp[zeroValue,uJ U,J]
def iM.free{w:A_}{b:Nat}{l:C_ (fv 3)}(h:iM w b l){j:Nat}(ay:j<3*l.length):(∃hQ,w.cell? ⟨b,j,none⟩=some hQ)/\w.frozen? ⟨b,j,none⟩=false:=by
 obtain⟨cur,h1,J,_⟩:=h.ex;exact⟨⟨cur[j]' Aw,Yw h1 (Array.getElem?_eq_getElem Aw)⟩,by simp[World.frozen?,h1]⟩
def AE0{w:A_}{b i:Nat}{l:C_ (fv 3)}{x:fv 3}{a:Addr}{KW:A_->Prop}{t}(h:iM w b l){v:B_}(aH:v = .agg x.1.toArray)(aY:a=⟨b,3*i,none⟩)(U:i<l.length)(hk:∀w1,dw b w w1->iM w1 b (l.set i x)->KW w1) :
  Cq 3 (.pointer (some a)) v w KW t:=by
 subst aY aH;refine _5 (by simp[x.2.1]) (λj ay=>?_) x.2.2 (hk _ (dw.iJ _ w ⟨b,3*i,none⟩ 0) (h.set U x));rw[add_eq];exact h.free Aw
theorem AE1{S:Fr}{w:A_}{b k n cap:Nat}{l:C_ (fv 3)}{x:G_}{aN:H_ Addr}{cO:B_->A_->Prop}{ty:F_}{t}(h:iM w b l)(ah:bu S x = .slice aN n cap)(aw:k+n=l.length)(aY:0<n->aN=some ⟨b,3*k,none⟩)
  (hk:∀v w1,Mod (λi=>i=b) w w1->iM w1 b (l.take k)->cO v w1):uW Tryz.prog (.call ⟨.builtin .clear,#[x],#[T.rQ]⟩) ty S w cO t:=by
 have bB:∀w:A_,(zeroValue T.j).run Tryz.prog w = .ok (.agg #[.I 0,.I 0,.slice none 0 0]) w:=avk Cx;have hu:Tryz.prog.underlying T.rQ=some (.slice T.j):=Cx
 cases n with
 | zero =>
  refine _G (v:=.tuple #[]) (w':=w) ?_ (hk _ _ (Mod.refl _ _) (h.take k));cases aN<;>simp[execOp,resolve,invoke,builtin,ah,Builtin.clear_,run_underlying hu]
 | succ n =>
  obtain rfl:=aY Aw;refine _G (v:=.tuple #[]) (w':=iJ w ⟨b,3*k,none⟩ (Builtin.zeroCells #[.I 0,.I 0,.slice none 0 0] (n+1)).toList 0) ?_ (hk _ _ ((dw.iJ _ w ⟨b,3*k,none⟩ 0).mod rfl) (h.cut ?_))
  .have aj:=HJ Tryz.prog ⟨b,3*k,none⟩ (Builtin.zeroCells #[.I 0,.I 0,.slice none 0 0] (n+1)).toList 0 w (λj ay=>?_) ?_
   .simp[execOp,resolve,invoke,builtin,ah,Builtin.clear_,run_underlying hu,bB,Value.cells,aj]
   .rw[add_eq];exact h.free (by simp[Builtin.zeroCells] at ay;omega)
   .intro c an;simp only[Builtin.zeroCells,Array.toList_map,List.mem_map] at an;obtain⟨i,_,rfl⟩:=an;show((#[Value.int .i64 0,.I 0,.slice none 0 0]:Array B_)[i % 3]!).oneCell'=true;rcases(by omega:i % 3=0\/i % 3=1\/i % 3=2) with e | e | e<;>rw[e]<;>rfl
  .simp[Builtin.zeroCells];omega
end Go.Proofs.R
namespace ba
open Go Go.RowKit
instance axz:Rel (Flat (lA (sz:=3))) (λ_ cs x=>cs=lA x) 3 where
 out h:=⟨_,h,rfl⟩
 pb h k:=by subst k;exact h
 len h:=by rw[h];exact k8 _
 one h:=by rw[h];exact yN _
 ext _ h:=h
theorem ZK:∀(l:C_ (fv 3)) (i:Nat) (h:i<l.length) (j:Nat),j<3->(l.flatMap lA)[3*i+j]? = l[i].1[j]?
 | x :: l,0,h,j,ay=>by
  have:=k8 x
  rw[AI1,Nat.mul_zero,S6,List.getElem?_append_left Aw];rfl
 | x :: l,i+1,h,j,ay=>by
  have:=k8 x
  have fq:=ZK l i (by simpa using h) j ay;rw[AI1,List.getElem?_append_right Aw,this,show 3*(i+1)+j - 3=3*i+j from Aw,fq];rfl
end ba
namespace Go.Proofs.R
open Go Go.RowKit ba o
def ap6{w:A_}{base:Nat}{v:B_}{l:C_ (fv 3)}(h:pA T.j 3 base w v l)(aE:l≠[]):∃b c,v = .slice (some ⟨b,0,none⟩) l.length c/\base<=b/\iM w b l/\l.length<=c/\c<=maxLen:=by
 rcases h.2 with ⟨_,ad⟩ | ⟨g,cap,cur,h1,J,ab,aF,a7,bJ,ct⟩
 .exact absurd (AF7 ad) aE
 .refine⟨g,cap,h1,J,⟨cur,ab,Aw,λi U j ay=>?_⟩,aF,a7⟩;have get:∀j,j<3*l.length->cur[j]? = (l.flatMap lA)[j]? := λj ay=>by
   rw[<-ct,List.getElem?_take_of_lt Aw,Array.getElem?_toList]
  rw[get _ Aw];exact ZK l i U j ay
def iM.iR{w:A_}{b c:Nat}{l:C_ (fv 3)}(h:iM w b l)(an:l.length<=c)(hm:c<=maxLen):bm 3 (Flat lA) w (.slice (some ⟨b,0,none⟩) l.length c) l :=
 ⟨_,_,rfl,an,hm,λ_=>rfl,λa aY i U=>by
  injection aY with aY;subst aY
  have:=h.at_ U
  rw[show(⟨b,3*i,none⟩:Addr)=Addr.add ⟨b,0,none⟩ (i*3) from by rw[add_eq,S6,AH9]] at this;exact this⟩
theorem ai2(b c qR tI:Nat)(l:C_ (fv 3))(p:fv 3->Bool)(w:A_)(h:iM w b l)(an:l.length<=c)(hm:c<=maxLen)
  (au:∀x∈l,∀w',Mod (λi=>i=b) w w'->Ei F.b #[.agg x.1.toArray,.pointer (some ⟨qR,0,none⟩),.pointer (some ⟨tI,0,none⟩)] w' λv bO=>v = .bool (p x)/\Ext w' bO) :
  Ei F.f #[.slice (some ⟨b,0,none⟩) l.length c,.func (.func F.b) #[] #[.pointer (some ⟨qR,0,none⟩),.pointer (some ⟨tI,0,none⟩)]] w λv w'=>v = .slice (some ⟨b,0,none⟩) (l.filter λx => !p x).length c/\iM w' b (l.filter λx => !p x)/\Mod (λi=>i=b) w w':=by
 have anH:=hm;unfold maxLen at hm;refine wo E.f ?_;refine oR ?_;refine I ?_;refine J_ (SN l3 E.c2 _ l w (h.iR an anH) F.b Cx [] [_,_] p ?_) ?_
 .rintro i U js w' e rfl;exact au _ (E2 U) w' e.mod
 rintro _ w1 ⟨rfl,af⟩;rcases ZC (p:=p) l 0 with ⟨ax,av⟩ | ⟨k,hk,ax,an3,av⟩
 .rw[ax];refine I ?_;exact⟨by rw[av],by rw[av];exact h.ext af,af.mod⟩
 rw[ax,S6];refine I ?_;have pM:=h.ext af;refine _L [0,1] (λx:Nat×Nat×C_ (fv 3)=>[(5,.I x.1),(6,.I x.2.1)]) (k,k+1,l) (λx W=>x.2.1<=l.length/\x.1<x.2.1/\x.2.2.length=l.length/\iM W b x.2.2/\Mod (λi=>i=b) w W/\x.2.2.take x.1=(l.take x.2.1).filter (λx => !p x)/\∀j,x.1<=j->x.2.2[j]? = l[j]?) (λx=>l.length - x.2.1) a6 ⟨by simp only;omega,Nat.lt_succ_self _,rfl,pM,af.mod,av.symm,λ_ _=>rfl⟩ ?_;rintro⟨i,j,R⟩ EX aM ⟨kh,h2,Bw,vJ,zv,sb,vK⟩;dsimp only at kh h2 Bw vJ zv sb vK ⊢;clear pM av ax an3;refine I ?_;apply I_<;>intro g3;rotate_left
 .have A8:j=l.length:=Aw
  rw[A8,AE8] at sb;have o7:(l.filter λx => !p x).length=i:=by rw[<-sb,H5];omega
  refine I ?_;refine _B i l.length c (by simp[eP,dc,bE]) (by simp[eP]) (by simp[eP]) ⟨Aw,an,E1 _⟩ CC ?_;rw[if_neg (show ¬c=i by omega),AG3];refine I ?_;refine AE1 (k:=i) vJ (by simp only[dc,bE];rfl) Aw (λ_=>by rw[add_eq,S6,AH9]) λv aR kd na=>?_;rw[sb] at na;refine I ?_;refine _B 0 i c (by simp[eP]) (by simp[eP,dc,bE]) (by simp[eP]) ⟨Aw,Aw,E1 _⟩ CC ?_;rw[if_neg (show ¬c=0 by omega),AG3];refine I ?_;exact⟨by rw[o7,add_eq];rfl,na,zv.trans kd⟩
 have vx:j<l.length:=Aw
 have nV:(Addr.add ⟨b,0,none⟩ (j*3))=⟨b,3*j,none⟩:=by
  rw[add_eq,S6,AH9]
 have ir:R[j]' Aw=l[j]:=by
  have:=vK j Aw
  rw[List.getElem?_eq_getElem Aw,List.getElem?_eq_getElem Aw] at this;injection this
 obtain⟨x,ah⟩:∃x,x=l[j]:=⟨_,rfl⟩;have Bo:x∈l:=by rw[ah];exact E2 _
 have d1:ff aM (Addr.add ⟨b,0,none⟩ (j*3)) x.1:=by
  rw[nV,ah,<-ir];exact vJ.at_ _
 have r3:=ako (q:=λx => !p x) vx;rw[<-sb,<-ah] at r3;obtain⟨jY,jK,sn,bF⟩:∃jY jK sn,x.1=[jY,jK,sn]:=by
  have:=x.2.1
  match x.1,this with
  | [jY,jK,sn],_=>exact⟨jY,jK,sn,rfl⟩
 rw[bF] at d1;have Tq:∀u∈(#[jY,jK,sn]:Array B_).toList,u.oneCell'=true:=by have:=x.2.2;rw[bF] at this;exact this
 have next:∀{W},iM W b R->Mod (λi=>i=b) w W->p x=true->(iM W b R/\Mod (λi=>i=b) w W/\R.take i=(l.take (j+1)).filter (λx => !p x)/\∀t,i<=t->R[t]? = l[t]?):=λdb a2 a3=>⟨db,a2,by rw[r3,a3];simp,vK⟩
 have Hr:∀{W},iM W b (R.set i x)->Mod (λi=>i=b) w W->p x=false->(iM W b (R.set i x)/\Mod (λi=>i=b) w W/\(R.set i x).take (i+1)=(l.take (j+1)).filter (λx => !p x)/\∀t,i+1<=t->(R.set i x)[t]? = l[t]?):=λdb a2 a3=>⟨db,a2,by
  rw[r3,a3,MR (by rw[X4];omega),AK6,List.take_set_of_le (E1 _)];simp,λt aB=>by
  rw[List.getElem?_set_ne Aw];exact vK t Aw⟩
 clear r3 sb ir;replace next:=i_ @next trivial
 replace Hr:=i_ @Hr trivial;replace au:=i_ au trivial;refine I ?_;intro aR ia hi aq b3;have ao4:=vJ.ext aq;have m4:=zv.trans aq.mod;have q4:=au.1 x Bo aR m4;rw[bF] at q4;have q4:Ei F.b #[.agg #[jY,jK,sn],.pointer (some ⟨qR,0,none⟩),.pointer (some ⟨tI,0,none⟩)] aR λv bO=>v = .bool (p x)/\Ext aR bO:=q4;clear d1 au;refine I ?_;refine V_ (first:=[]) (cap:=[.pointer (some ⟨qR,0,none⟩),.pointer (some ⟨tI,0,none⟩)]) Cx q4 ?_;clear q4;rintro _ bg ⟨rfl,ar⟩;have y5:=ar.obj b3;have acH:=ao4.ext ar;have m5:=m4.trans ar.mod;clear b3;cases abR:p x with
 | true =>
  have aw:=next.1 acH m5 abR
  clear next Hr
  refine I ?_;exact⟨(i,j+1,R),⟨aJ,aJ,trivial⟩,⟨by simp only;omega,by simp only;omega,Bw,aw⟩,by simp only;omega⟩
 | false =>
  refine I ?_;refine AE0 (x:=x) (i:=i) acH (by rw[bF]) (by rw[add_eq,S6,AH9]) Aw λbp gJ anI=>?_;have aw:=Hr.1 anI (m5.trans (gJ.mod rfl)) abR;clear next Hr
  refine I ?_;exact⟨(i+1,j+1,R.set i x),⟨aJ,aJ,trivial⟩,⟨by simp only;omega,by simp only;omega,by rw[X4];exact Bw,aw⟩,by simp only;omega⟩
def am0(cs:C_ B_)(m:o.Model)(q l:Int)(w:A_)(h:dh w cs m)(aG:m.cr)(fx:(o.check m).cJ=0) :
  Ei F.MO #[.agg cs.toArray,.I q,.I l] w λu w'=>iy w.heap.size w' u (vq m q l (o.refs m).length)/\Ext w w':=by
 have b2:=h;have gN:=gU fx;obtain⟨bZ,bz,bN,c1,bT,c2,bW,bw,b1,bD,rfl,ad,h1,J,ab,aF,eB,dD,dO,dU,eg⟩:=h.form;refine bk E.MO ?_;refine I ?_;intro w1 bV eX af a8;refine I ?_;refine J_ (tf _ m w1 (b2.ext af) aG) ?_;rintro bK az ⟨dP,ai⟩;have aP:=aK.e4 (enc:=cP.enc) (λ_=>rfl) dP;obtain⟨ca,ci,rfl,_⟩:=aP.form;replace a8:=ai.obj a8;have aD:=af.trans ai;refine I ?_;refine J_ (zJ _ m az (b2.ext aD) aG gN.lim) ?_;rintro vr aM ⟨fp,ag⟩;have bA:=aK.e4 (enc:=o.Ref.enc) (λ_=>rfl) fp;obtain⟨e1,gh,rfl,apw⟩:=bA.form;replace a8:=ag.obj a8;replace aP:=aP.ext Flat.ext ag;have aO:=aD.trans ag;have amh:=a8;have gj:=xz gN;have KM:=pn gN.lim;clear dP fp a8;refine I ?_;refine L_ 10 (o.refs m).length [1,2,3,7,8] (λv:fk=>[(9,.slice v.1 v.2.1 v.2.2)]) (none,0,0) (λi v W=>Ext aM W/\iy aM.heap.size W (.slice v.1 v.2.1 v.2.2) (vq m q l i)) a6 a6 ⟨Ext.refl _,aK.nil _ _ _ _ _⟩ ?_;rintro i nr S aR U ⟨aq,dj⟩;have a8:=aq.obj amh;have yW:=aP.ext Flat.ext aq;have qZ:=bA.ext Flat.ext aq;refine I ?_;apply I_<;>intro g1;rotate_left
 .have eh:i=(o.refs m).length:=Aw
  subst eh;refine I ?_;exact⟨aK.low aO.size dj,aO.trans aq⟩
 have cw:i<(o.refs m).length:=Aw
 obtain⟨BK,p,k,br⟩:=mn (m:=m) (ref:=i) ⟨fx,Aw,Aw⟩;obtain⟨BN,BO⟩:=br.rel;have av:=br.at_.U;have au:=br.at_.au;have hz:=br.at_.hk;have kc:=br.at_.ip;have fm:(o.refs m)[i].inst=(BK:Int):=br.at_.nk;have ke:(o.refs m)[i].cmd=(k:Int):=br.at_.pU;have awT:=aa6 m q l i;obtain⟨iN,rfl⟩:=bA.addr;obtain⟨gu,rfl⟩:=aP.addr;obtain⟨a3,rfl⟩:=ab.addr;obtain⟨kC,bY,dQ,c5,eU,eA⟩:=ab.at p au;obtain⟨vT,u4,rfl,vP⟩:=eA.form;obtain⟨ac,rfl⟩:=eA.addr;obtain⟨eI,eY,va,e0,ga,e2⟩:=eA.at k hz;obtain⟨fE,fN,rfl,_⟩:=ga.form;obtain⟨oC,n2,rfl,_⟩:=e2.form;unfold dv.enc at c5;unfold dG.enc at e0;have bo:=aO.trans aq;replace c5:=c5.ext bo;replace e0:=e0.ext bo;have ha:=sJ au hz;refine I ?_;intro bg ar;replace a8:=ar.obj a8;replace yW:=yW.ext Flat.ext ar;replace qZ:=qZ.ext Flat.ext ar;replace c5:=c5.ext ar;replace e0:=e0.ext ar;have dC:=dj.ext ar;refine I ?_;refine K_ BK (by rw[fm]) Aw ?_;refine I ?_;refine K_ p (by rw[kc]) au ?_;refine I ?_;refine K_ k (by rw[ke]) Aw ?_;refine I ?_;intro bp mm xa aC jd;refine⟨aC,?_⟩;refine I ?_;intro bH dz b3;have bc:Ext bg bH:=dz.ext aC xa;replace qZ:=qZ.ext Flat.ext bc;have dY:=dC.ext bc;have cL:=aq.trans (ar.trans bc);clear jd c5 e0 yW;refine I ?_;apply I_<;>intro g2
 .refine I ?_;apply I_<;>intro g3
  .have gP:ky m q l i=true:=by
    unfold ky;rw[BN,BO,ha,AI0,decide_eq_true_eq,decide_eq_true_eq];exact⟨Aw,g3⟩
   refine I ?_;intro cB j6 mv bt cF;refine I ?_;refine S_ (y:=(i:Int)) (dY.ext bt) cF rfl (λ_=>rfl) ht Aw (by unfold maxLen;omega) (by have:=cL.size;have:=bt.size;omega) λaN c d cD fy ub=>?_;refine I ?_;refine⟨Aw,aJ,(aN,c,d),⟨rfl,trivial⟩,(cL.trans bt).grown ub λj ay=>(dY.lt j ay).1,?_⟩;rw[Rl,if_pos gP];exact fy
  .have gP:¬ky m q l i=true:=by
    unfold ky;rw[BN,BO,ha,AI0,decide_eq_true_eq,decide_eq_true_eq];exact λcI=>g3 cI.2
   refine I ?_;refine⟨Aw,aJ,nr,⟨aJ,trivial⟩,cL,?_⟩;rw[Rl,if_neg gP,S5];exact dY
 .have gP:¬ky m q l i=true:=by
   unfold ky;rw[BN,BO,ha,AI0,decide_eq_true_eq,decide_eq_true_eq];exact λcI=>g2 Aw
  refine I ?_;refine⟨Aw,aJ,nr,⟨aJ,trivial⟩,cL,?_⟩;rw[Rl,if_neg gP,S5];exact dY
def aoV{m:o.Model}{s:C_ Int}{r:Nat}{t:Bool}(bA:gE m s)(aT:r<(o.refs m).length)(h:z6 m s r t):t=true↔uR m s r:=by
 obtain⟨q,p,k,br⟩:=mn (m:=m) (ref:=r) ⟨bA.1,Aw,Aw⟩;unfold z6 at h;rw[h];constructor
 .rintro⟨_,_,ab⟩;exact⟨q,p,k,br,ab q p k br⟩
 .rintro⟨eQ,gC,k',qX,ab⟩;refine⟨bA,br.told,λa b c C5=>?_⟩;obtain⟨rfl,rfl,rfl⟩:=qX.one C5;exact ab
theorem ajt(cs:C_ B_)(v:B_)(m:o.Model)(s:C_ Int)(q l:Int)(w:A_)(h:dh w cs m)(aG:m.cr)(aj:c3 w v s)(bA:gE m s) :
  Ei F.MN #[.agg cs.toArray,v,.I q,.I l] w λu w'=>(∃t:Bool,u = .bool t/\(t=true↔It m s q l))/\Ext w w':=by
 have b2:=h;have fx:=bA.1;have gN:=gU fx;have KM:=pn gN.lim;obtain⟨bZ,bz,bN,c1,bT,c2,bW,bw,b1,bD,rfl,_⟩:=h.form;obtain⟨os,oX,rfl,_⟩:=aj.form;refine bk E.MN ?_;refine I ?_;intro w1 cQ fD af bn;refine I ?_;refine J_ (ast _ m q l w1 (b2.ext af) aG) ?_;rintro _ az ⟨⟨t,rfl,ck⟩,ai⟩;replace bn:=ai.obj bn;have aD:=af.trans ai;have FW:=ck.is;cases t with
 | false =>
  refine I ?_;exact⟨⟨false,aJ,by simp only[Bool.false_eq_true,false_iff];intro de;have:=de.loc;rw[<-FW] at this;cases this⟩,aD⟩
 | true =>
 refine I ?_;refine J_ (am0 _ m q l az (b2.ext aD) aG fx) ?_;rintro u aM ⟨ez,ag⟩;have hH:=kF ez;obtain⟨ax1,Fs,rfl,_⟩:=hH.form;replace bn:=ag.obj bn;have aO:=aD.trans ag;have aml:=bn;have vz:=aa6 m q l (o.refs m).length;obtain⟨H,Z8⟩:∃H,H=vq m q l (o.refs m).length:=⟨_,rfl⟩;rw[<-Z8] at hH vz ⊢;have o8:∀x,x∈H↔∃r:Nat,x=r/\r<(o.refs m).length/\mL m q l r:=λx=>by
  rw[Z8,am1];exact⟨λ⟨r,h1,J,ab⟩=>⟨r,h1,J,(CX fx J).1 ab⟩,λ⟨r,h1,J,ab⟩=>⟨r,h1,J,(CX fx J).2 ab⟩⟩
 clear ez bn;refine I ?_;refine L_ 11 H.length [1,4,9] (λb:Bool=>[(10,.bool b)]) false (λi b W=>Ext aM W/\(∀j (ay:j<H.length),j<i->si m H[j]=false)/\(b=true↔∃j,∃ay:j<H.length,j<i/\uR m s H[j].toNat)) a6 a6 ⟨Ext.refl _,λj _ ay=>absurd ay (E3 _),CC⟩ ?_;rintro i b S aR U ⟨aq,y7,zg⟩;have bn:=aq.obj aml;have Z7:=hH.ext Flat.ext aq;have bo:=aO.trans aq;refine I ?_;apply I_<;>intro g1;rotate_left
 .refine I ?_;refine⟨⟨b,aJ,zg.trans ⟨λ⟨j,ay,_,aF⟩=>?_,λde=>?_⟩⟩,bo⟩
  .obtain⟨r,h1,J,ab⟩:=(o8 H[j]).1 (E2 ay);refine⟨FW.symm,λkl pQ=>?_,r,ab,by rw[h1] at aF;simpa using aF⟩;obtain⟨G9,eT,e⟩:=List.mem_iff_getElem.1 ((o8 (kl:Int)).2 ⟨kl,rfl,pQ.lt,pQ⟩);rw[<-e];exact y7 G9 eT Aw
  .obtain⟨r,h1,J⟩:=de.on;obtain⟨j,ay,e⟩:=List.mem_iff_getElem.1 ((o8 (r:Int)).2 ⟨r,rfl,h1.lt,h1⟩);exact⟨j,ay,Aw,by rw[e];simpa using J⟩
 have cw:i<H.length:=Aw
 obtain⟨nW,rfl⟩:=hH.addr;obtain⟨r,lg,jS,R1⟩:=(o8 H[i]).1 (E2 cw);refine I ?_;refine P_ (.bool (si m H[i])) (λw' e=>(asu _ m H[i] w' (b2.ext (bo.trans e)) aG).mono λu bO ⟨⟨t,h1,J⟩,ab⟩=>⟨by rw[h1,J.is],ab⟩) ?_;refine I ?_;intro bg ar;replace bn:=ar.obj bn;replace Z7:=Z7.ext Flat.ext ar;have bC:=bo.trans ar;cases hY:si m H[i] with
 | true =>
  refine I ?_;refine⟨⟨false,aJ,by simp only[Bool.false_eq_true,false_iff];intro de;have:=de.Ft r R1;rw[<-lg,hY] at this;cases this⟩,bC⟩
 | false =>
 have aaY:∀j (ay:j<H.length),j<i+1->si m H[j]=false:=λj ay hy=>by
  by_cases e:j=i
  .subst e;exact hY
  .exact y7 j ay Aw
 refine I ?_;cases b with
 | true =>
  refine I ?_;intro bp aC;refine I ?_;refine⟨cw,aJ,true,⟨aJ,trivial⟩,(aq.trans ar).trans aC,aaY,?_⟩;simp only[true_iff];obtain⟨j,ay,h1,J⟩:=zg.1 rfl;exact⟨j,ay,Aw,J⟩
 | false =>
  obtain⟨ph,KG⟩:∃ph:Bool,(ph=true↔uR m s r):=⟨@decide (uR m s r) (Classical.propDecidable _),@decide_eq_true_iff _ (Classical.propDecidable _)⟩;replace KG:=i_ KG trivial;refine I ?_;refine P_ (.bool ph) (λw' e=>(asf _ _ m s H[i] w' (b2.ext (bC.trans e)) aG (aj.ext Flat.ext (bC.trans e))).mono λu bO ⟨⟨t,h1,J⟩,ab⟩=>⟨by
   rw[h1];congr 1;rw[lg] at J;exact Bool.eq_iff_iff.2 ((aoV bA jS J).trans KG.1.symm),ab⟩) ?_
  refine I ?_;intro bp aC;refine I ?_;refine⟨cw,aJ,ph,⟨aJ,trivial⟩,(aq.trans ar).trans aC,aaY,KG.1.trans ⟨λcI=>⟨i,cw,Aw,by rw[lg];simpa using cI⟩,λ⟨j,ay,h1,J⟩=>?_⟩⟩;by_cases e:j=i
  .subst e;rw[lg] at J;simpa using J
  .have:=zg.2 ⟨j,ay,Aw,J⟩
   cases this
theorem WZ(cs:C_ B_)(v:B_)(m:o.Model)(s:C_ Int)(w:A_)(h:dh w cs m)(aG:m.cr)(aj:c3 w v s) :
  Ei F.MM #[.agg cs.toArray,v] w λu w'=>(∃i:Int,u = .I i/\p7 m s i)/\Ext w w':=by
 have b2:=h;obtain⟨bZ,bz,bN,c1,bT,c2,bW,bw,b1,bD,rfl,_⟩:=h.form;obtain⟨os,oX,rfl,_⟩:=aj.form;refine bk E.MM ?_;refine I ?_;intro w1 bP c8 af ao;refine I ?_;refine J_ (HI _ m w1 (b2.ext af) aG) ?_;rintro _ az ⟨rfl,ai⟩;replace ao:=ai.obj ao;have aD:=af.trans ai;unfold vf;refine I ?_;refine Y_ (v:=.I (o.check m).cJ) rfl ?_;refine I ?_;refine I_ (λhk=>?_) (λhk=>?_);rotate_left
 .have aw:¬gE m s:=λbA=>hk bA.1;refine I ?_;exact⟨⟨-1,aJ,⟨λ_=>rfl,λbA=>absurd bA aw,λbA=>absurd bA aw⟩⟩,aD⟩
 refine I ?_;refine J_ (asg _ m _ s az (b2.ext aD) aG (aj.ext Flat.ext aD)) ?_;rintro _ aM ⟨⟨t,rfl,aB⟩,ag⟩;replace ao:=ag.obj ao;have aO:=aD.trans ag;cases t with
 | false =>
  have aw:¬gE m s:=λbA=>by have:=aB.2 bA;cases this
  refine I ?_;exact⟨⟨-1,aJ,⟨λ_=>rfl,λbA=>absurd bA aw,λbA=>absurd bA aw⟩⟩,aO⟩
 | true =>
 have bA:=aB.1 rfl;have gN:=gU hk;have gj:=xz gN;have A9:lyz m=o.layout m:=zw hk;obtain⟨f6,f7,f8⟩:=pT m;have hlen:=bA.2.len;refine I ?_;refine J_ (T0 _ m aM (b2.ext aO) aG) ?_;rintro _ aR ⟨⟨ys,rfl,AO⟩,aq⟩;rw[A9] at AO;obtain⟨eD,d0,dI,d1,ec,d2,ep,d3,eM,d4,rfl,_,_,cA,_⟩:=AO.here.form;replace ao:=aq.obj ao;have bo:=aO.trans aq;refine I ?_;refine Y_ (v:=.slice ec (o.layout m).insts.length d2) rfl ?_;have ama:=ao;clear ao;refine I ?_;refine L_ 6 (o.layout m).insts.length [1,2,5] (λ_:Unit=>[]) () (λi _ W=>Ext aR W/\∀j,j<i->¬mJ m s j) a6 a6 ⟨Ext.refl _,λj ay=>absurd ay (E3 _)⟩ ?_;rintro i _ S bg U ⟨ar,ey⟩;have ao:=ar.obj ama;have bC:=bo.trans ar;refine I ?_;apply I_<;>intro g1;rotate_left
 .refine I ?_;exact⟨⟨-1,aJ,⟨λ_=>rfl,λ_ _=>⟨rfl,λj ay=>ey j Aw⟩,λ_ h=>absurd h Aw⟩⟩,bC⟩
 have cw:i<(o.insts m).length:=Aw
 obtain⟨p,hIn⟩:=Bs cw;obtain⟨sU,iD⟩:=ow cw;have vv:=hIn.room;have oD:=cA.ext Flat.ext ar;have rf:=aj.ext Flat.ext bC;obtain⟨a2,rfl⟩:=cA.addr;obtain⟨IS,rfl⟩:=aj.addr;have sX:xJ m s i=s[cV m i]' Aw:=by unfold xJ;rw[List.getElem?_eq_getElem Aw];rfl
 refine I ?_;refine K_ (cV m i) (by rw[iD]) Aw ?_;refine I ?_;obtain⟨vb,Rj⟩:∃vb:Bool,(vb=true↔It m s i s[cV m i]):=⟨@decide (It m s i s[cV m i]) (Classical.propDecidable _),@decide_eq_true_iff _ (Classical.propDecidable _)⟩;refine P_ (.bool vb) (λw' e=>(ajt _ _ m s i s[cV m i] w' (b2.ext (bC.trans e)) aG (aj.ext Flat.ext (bC.trans e)) bA).mono λu bO ⟨⟨t,h1,J⟩,ab⟩=>⟨by
   rw[h1];congr 1;exact Bool.eq_iff_iff.2 (J.trans Rj.symm),ab⟩) ?_
 refine I ?_;intro bp aC;have AM:vb=true↔mJ m s i:=by rw[Zl,sX];exact Rj
 cases vb with
 | true =>
  have de:=AM.1 rfl;refine I ?_;have lb:p7 m s (i:Int):=⟨λaw=>absurd bA aw,λ_ h=>absurd h Aw,λ_ _=>⟨Aw,by rw[AG8];exact de,λj ay=>ey j Aw⟩⟩;exact⟨⟨i,aJ,lb⟩,bC.trans aC⟩
 | false =>
  have anP:∀j,j<i+1->¬mJ m s j:=λj ay de=>by
   by_cases e:j=i
   .rw[e] at de
    have:=AM.2 de
    cases this
   .exact ey j Aw de
  clear AM Rj ey;refine I ?_;exact⟨Aw,aJ,(),trivial,ar.trans aC,anP⟩
theorem lR.ext{w w':A_}{v:B_}{l:C_ kK}(he:Ext w w')(h:lR w v l):lR w' v l:=bm.ext (R:=yo) (λ_ _ _ _ he h=>yo.ext he h) he h
theorem asd(cs:C_ B_)(v:B_)(m:o.Model)(s:C_ Int)(w:A_)(h:dh w cs m)(aG:m.cr)(aj:c3 w v s) :
  Ei F.DS #[.agg cs.toArray,v] w λu w'=>((gE m s/\lR w' u (fz m s))\/(¬gE m s/\u = .slice none 0 0))/\Ext w w':=by
 by_cases bA:gE m s
 .exact(asc cs v m s w h aG aj bA).mono λu w' ⟨h1,J⟩=>⟨.inl ⟨bA,h1⟩,J⟩
 have b2:=h;obtain⟨bZ,bz,bN,c1,bT,c2,bW,bw,b1,bD,rfl,_⟩:=h.form;obtain⟨os,oX,rfl,DT⟩:=aj.form;refine bk E.DS ?_;refine I ?_;intro w1 cQ fD af bn;refine I ?_;refine J_ (TQ _ m w1 (b2.ext af) aG) ?_;rintro _ az ⟨hO,ai⟩;replace bn:=ai.obj bn;have aD:=af.trans ai;rcases hO with ⟨hk,rfl⟩ | ⟨hk,zs,rfl,ew⟩
 .unfold UQ;refine I ?_;intro aM pF sR ag gZ;refine I ?_;exact⟨.inr ⟨bA,aJ⟩,aD.trans ag⟩
 have aL:=gU hk;have w7:=ew;obtain⟨eD,d0,dI,d1,ec,d2,ep,d3,eM,d4,Er,g0,Es,g1,wb,g2,NM,g3,x7,g4,ca,ci,e1,gh,rfl,_⟩:=ew.form;refine I ?_;intro aM pF sR ag gZ;have AS:=w7.ext ag;have aO:=aD.trans ag;refine I ?_;refine J_ (TS _ _ m s aM AS aL (aj.ext Flat.ext aO)) ?_;rintro _ bg ⟨⟨t,rfl,aB⟩,ar⟩;cases t with
 | true=>exact absurd ⟨hk,aB.1 rfl⟩ bA
 | false =>
 refine I ?_;exact⟨.inr ⟨bA,aJ⟩,aO.trans ar⟩
def ags(cs:C_ B_)(v:B_)(m:o.Model)(s:C_ Int)(w:A_)(h:dh w cs m)(aG:m.cr)(aj:c3 w v s) :
  Ei F.ML #[.agg cs.toArray,v] w λu w'=>((gE m s/\∃i,p7 m s i/\lR w' u (ng m s i))\/(¬gE m s/\u = .slice none 0 0))/\Ext w w':=by
 have b2:=h;obtain⟨bZ,bz,bN,c1,bT,c2,bW,bw,b1,bD,rfl,_⟩:=h.form;obtain⟨os,oX,rfl,DT⟩:=aj.form;refine bk E.ML ?_;refine I ?_;intro w1 bP c8 af ao;refine I ?_;refine J_ (asd _ _ m s w1 (b2.ext af) aG (aj.ext Flat.ext af)) ?_;rintro u az ⟨hO,ai⟩;replace ao:=ai.obj ao;have aD:=af.trans ai;rcases hO with ⟨bA,qm⟩ | ⟨bA,rfl⟩
 rotate_left
 .refine I ?_;refine J_ (WZ _ _ m s az (b2.ext aD) aG (aj.ext Flat.ext aD)) ?_;rintro _ aM ⟨⟨i,rfl,lb⟩,ag⟩;obtain rfl:=lb.bad bA;refine I ?_;exact⟨.inr ⟨bA,aJ⟩,aD.trans ag⟩
 obtain⟨BG,sI,rfl,_⟩:=qm.form;have gN:=gU bA.1;have KM:=pn gN.lim;refine I ?_;refine J_ (WZ _ _ m s az (b2.ext aD) aG (aj.ext Flat.ext aD)) ?_;rintro _ aM ⟨⟨i,rfl,lb⟩,ag⟩;replace ao:=ag.obj ao;have DB:=lR.ext ag qm;have aO:=aD.trans ag;refine I ?_;apply I_<;>intro g0
 .refine I ?_;exact⟨.inl ⟨bA,i,lb,by unfold ng;rw[if_pos g0];exact DB⟩,aO⟩
 refine I ?_;refine J_ (zJ _ m aM (b2.ext aO) aG gN.lim) ?_;rintro vr aR ⟨fp,aq⟩;have iB:=aK.e4 (enc:=o.Ref.enc) (λ_=>rfl) fp;obtain⟨e1,gh,rfl,apw⟩:=iB.form;replace ao:=aq.obj ao;have Bc:=lR.ext aq DB;have bo:=aO.trans aq;have aw3:(fz m s).length<=2*4500+1:=by
  have:=MS m s (o.refs m).length
  unfold fz;split
  .simp
  .omega
 clear fp ao qm DB;refine I ?_;refine L_ 9 (fz m s).length [5,6,7] (λv:fk=>[(8,.slice v.1 v.2.1 v.2.2)]) (none,0,0) (λk v W=>Ext aR W/\∃cb:C_ (fv 3),cb.length=(((fz m s).take k).filter (lk m i)).length/\pA T.j 3 aR.heap.size W (.slice v.1 v.2.1 v.2.2) cb/\∀j (h1:j<cb.length) (J:j<(((fz m s).take k).filter (lk m i)).length),tr aR cb[j].1 (((fz m s).take k).filter (lk m i))[j]) a6 a6 ⟨Ext.refl _,[],rfl,aK.nil _ _ _ _ _,λj h=>absurd h (E3 _)⟩ ?_;rintro k nr S bg hk ⟨ar,cb,kA,dC,AL⟩;have anG:=lR.ext ar Bc;have sP:=iB.ext Flat.ext ar;refine I ?_;apply I_<;>intro g1;rotate_left
 .have gO:k=(fz m s).length:=Aw
  have ej:(fz m s).take k=fz m s:=MT Aw;simp only[ej] at kA AL;refine I ?_;exact⟨.inl ⟨bA,i,lb,by unfold ng;rw[if_neg g0];exact bm.D1 kA (aK.iR k8 dC) λj h1 J=>Rel.ext (R:=yo) ar (AL j h1 J)⟩,bo.trans ar⟩
 have a1:k<(fz m s).length:=Aw
 have lF:(((fz m s).take k).filter (lk m i)).length<=k:=Ns (AJ4 _ _) (by rw[H5];omega);obtain⟨am,rfl⟩:=Bc.addr;obtain⟨x,ah⟩:∃x,x=(fz m s)[k]:=⟨_,rfl⟩;have o8:x∈fz m s:=by rw[ah];exact E2 a1
 have axe:=ads bA.1 o8;obtain⟨kp,jQ,abI⟩:=anG.at k a1;rw[<-ah] at jQ abI;have anT:c3 aR kp x.to:=by
  obtain⟨afS,aaX,abJ⟩:=Bc.at k a1;rw[<-ah] at aaX abJ;have h1:=(aaX.ext ar) 2 afS rfl;have J:=jQ 2 kp rfl;rw[h1] at J;injection J with J
  rw[<-J];exact abJ
 obtain⟨qs,oW,rfl,_⟩:=abI.form;have zk:(((fz m s).take (k+1)).filter (lk m i))=(((fz m s).take k).filter (lk m i))++if lk m i x then [x] else []:=by
  rw[MR a1,AJ2,<-ah];congr 1;cases ak:lk m i x<;>simp[ak]
 refine I ?_;apply I_<;>intro g2;rotate_left
 .have gP:¬lk m i x=true:=by unfold lk;rw[AI0,decide_eq_true_eq];exact λcI=>g2 cI.1
  refine I ?_;exact⟨a1,aJ,nr,⟨aJ,trivial⟩,ar,by rw[zk,if_neg gP,S5];exact⟨cb,kA,dC,AL⟩⟩
 have ab8:x.cmd.toNat<(o.refs m).length:=Aw
 obtain⟨iN,rfl⟩:=iB.addr;have eh:zq m x.cmd.toNat=(o.refs m)[x.cmd.toNat].inst:=by unfold zq;rw[List.getElem?_eq_getElem ab8]
 refine I ?_;refine K_ x.cmd.toNat Aw ab8 ?_;refine I ?_;apply I_<;>intro g3;rotate_left
 .have gP:¬lk m i x=true:=by unfold lk;rw[AI0,decide_eq_true_eq,decide_eq_true_eq,eh];exact λcI=>g3 cI.2
  refine I ?_;exact⟨a1,aJ,nr,⟨aJ,trivial⟩,ar,by rw[zk,if_neg gP,S5];exact⟨cb,kA,dC,AL⟩⟩
 have gP:lk m i x=true:=by unfold lk;rw[AI0,decide_eq_true_eq,decide_eq_true_eq,eh];exact⟨g2,g3⟩
 have z5:=ar.size;clear g1 g2 g3;refine I ?_;intro bp dm e8 aC bS;refine I ?_;have dk:=dC.ext aC;have tk:=aC.size;refine S_ (enc:=lA) (y:=(⟨[.I x.cmd,.I x.k0,.slice qs x.to.length oW],rfl,by simp[Value.oneCell']⟩:fv 3)) dk bS rfl k8 yN Aw (by unfold maxLen;omega) Aw λaN n c bH KK jR=>?_;refine I ?_;refine⟨a1,aJ,(aN,n,c),⟨rfl,trivial⟩,(ar.trans aC).grown jR λj ay=>(aK.lt dk j ay).1,?_⟩;rw[zk,if_pos gP];refine⟨_,by rw[HO,HO,kA];rfl,KK,λj h1 J=>?_⟩;by_cases ay:j<cb.length
 .rw[AH3 ay,AH3 Aw];exact AL j ay Aw
 .have e:j=cb.length:=by simp at h1;omega
  subst e;rw[AH4 (E1 _),AH4 Aw];simp only[kA,Nat.sub_self,List.getElem_cons_zero];exact⟨_,rfl,anT⟩
end Go.Proofs.R
namespace ba
open Go Go.RowKit
theorem Zz{α β:Type}{R:α->β->Prop}{f:α->Bool}{g:β->Bool}:∀(l:C_ α) (r:C_ β),l.length=r.length->(∀i (h1:i<l.length) (J:i<r.length),R l[i] r[i]/\f l[i]=g r[i])->(l.filter f).length=(r.filter g).length/\∀i (h1:i<(l.filter f).length) (J:i<(r.filter g).length),R (l.filter f)[i] (r.filter g)[i]
 | [],[],_,_=>⟨rfl,λi h=>by cases h⟩
 | x :: l,[],h,_=>by simp at h
 | [],y :: r,h,_=>by simp at h
 | x :: l,y :: r,h,bA=>by
  obtain⟨ad,h1⟩:=bA 0 CC CC;obtain⟨cM,cW⟩:=Zz l r (by simpa using h) λi a b=>bA (i+1) (by simpa using a) (by simpa using b);simp only[List.getElem_cons_zero] at ad h1;by_cases aG:g y=true
  .have ax:=h1.trans aG;simp only[List.filter_cons_of_pos ax,List.filter_cons_of_pos aG];refine⟨by simp[cM],λi a b=>?_⟩;cases i with
   | zero=>exact ad
   | succ i=>exact cW i (by simpa using a) (by simpa using b)
  .have ax:¬f x=true:=λe=>aG (h1.symm.trans e);simp only[List.filter_cons_of_neg ax,List.filter_cons_of_neg aG];exact⟨cM,cW⟩
end ba
namespace Go.Proofs.R
open Go Go.RowKit ba o
def ag8(x:kK)(kp vr:B_)(m:o.Model)(i:Int)(ia dm:Nat)(w:A_)(iB:tu w vr (o.refs m))(hlen:(o.refs m).length<2147483648)(ah:x.cmd = -1\/(0<=x.cmd/\x.cmd.toNat<(o.refs m).length))(fl:c3 w kp x.to)
  (b3:w.heap[ia]? = some (.cells #[vr] T.g))(bS:w.heap[dm]? = some (.cells #[.I i] T.a)) :
  Ei F.b #[.agg #[.I x.cmd,.I x.k0,kp],.pointer (some ⟨ia,0,none⟩),.pointer (some ⟨dm,0,none⟩)] w λu w'=>u = .bool (!o.lk m i x)/\Ext w w':=by
 obtain⟨e1,gh,rfl,_⟩:=iB.form;obtain⟨ei,eZ,rfl,_⟩:=fl.form;refine bk E.b ?_;rcases ah with ah | ⟨pa,hb⟩
 .have au:lk m i x=false:=by unfold lk;rw[decide_eq_false Aw];rfl
  rw[au,ah];refine I ?_;intro w1 bV eX af a8;refine I ?_;intro az ai;refine I ?_;exact⟨aJ,af.trans ai⟩
 .obtain⟨k,hk⟩:∃k:Nat,x.cmd=k:=⟨x.cmd.toNat,Aw⟩;have o7:k<(o.refs m).length:=Aw
  obtain⟨iN,rfl⟩:=iB.addr;have au:lk m i x=decide ((o.refs m)[k].inst=i):=by
   unfold lk zq;rw[decide_eq_true pa,AJ5,hk,AG8,List.getElem?_eq_getElem o7]
  rw[au,hk];clear au hk pa hb;refine I ?_;intro w1 bV eX af a8;replace b3:=af.obj b3;replace bS:=af.obj bS;replace iB:=iB.ext Flat.ext af;refine I ?_;intro az ai;exact⟨aJ,af.trans ai⟩
def ai1(ae:H_ Addr)(c qR tI:Nat)(w:A_)(h:bm 3 (Flat lA) w (.slice ae 0 c) ([]:C_ (fv 3))) :
  Ei F.f #[.slice ae 0 c,.func (.func F.b) #[] #[.pointer (some ⟨qR,0,none⟩),.pointer (some ⟨tI,0,none⟩)]] w λv w'=>v = .slice ae 0 c/\Ext w w':=by
 refine wo E.f ?_;refine oR ?_;refine I ?_;refine J_ (SN l3 E.c2 _ ([]:C_ (fv 3)) w h F.b Cx [] [_,_] (λ_=>true) ?_) ?_
 .rintro i U;cases U
 rintro _ w1 ⟨rfl,af⟩;rw[show mu (λ_=>true) ([]:C_ (fv 3)) 0 = -1 from rfl];refine I ?_;exact⟨aJ,af⟩
def u7(m:o.Model)(i:Int)(c:fv 3):Bool:=match c.1 with
 | .int _ n :: _ => !(decide (0<=n)&&decide (zq m n.toNat=i))
 | _=>false
def OW(cs:C_ B_)(v:B_)(m:o.Model)(s:C_ Int)(w:A_)(h:dh w cs m)(aG:m.cr)(aS:gQ w)(aj:c3 w v s) :
  Ei F.IZ #[.agg cs.toArray,v] w λu w'=>((gE m s/\∃i,p7 m s i/\lR w' u (ng m s i))\/(¬gE m s/\u = .slice none 0 0))/\Ext w w':=by
 have b2:=h;obtain⟨bZ,bz,bN,c1,bT,c2,bW,bw,b1,bD,rfl,_⟩:=h.form;obtain⟨os,oX,rfl,_⟩:=aj.form;refine bk E.IZ ?_;refine I ?_;intro w1 bP c8 af ao;refine I ?_;refine J_ (ake _ _ m s w1 (b2.ext af) aG (aS.ext af) (aj.ext Flat.ext af)) ?_;rintro u az ⟨hO,ai⟩;replace ao:=ai.obj ao;have aD:=af.trans ai;rcases hO with ⟨bA,qm⟩ | ⟨bA,rfl⟩
 rotate_left
 .refine I ?_;refine J_ (OX _ _ m s az (b2.ext aD) aG (aS.ext aD) (aj.ext Flat.ext aD)) ?_;rintro _ aM ⟨⟨i,rfl,lb⟩,ag⟩;obtain rfl:=lb.bad bA;refine I ?_;intro wn dm e8 fc eI;refine I ?_;intro aR dT bS;have aq:=dT.ext fc e8;clear eI;refine I ?_;exact⟨.inr ⟨bA,aJ⟩,(aD.trans ag).trans aq⟩
 obtain⟨BG,sI,rfl,_⟩:=qm.form;have gN:=gU bA.1;have KM:=pn gN.lim;refine I ?_;refine J_ (OX _ _ m s az (b2.ext aD) aG (aS.ext aD) (aj.ext Flat.ext aD)) ?_;rintro _ aM ⟨⟨i,rfl,lb⟩,ag⟩;replace ao:=ag.obj ao;have aO:=aD.trans ag;refine I ?_;intro wn dm e8 fc eI;refine I ?_;intro aR dT bS;have aq:=dT.ext fc e8;replace bS:aR.heap[dm]? = some (.cells #[.I i] T.a):=bS;clear eI;replace ao:=aq.obj ao;have bo:=aO.trans aq;have Bc:=(qm.ext ag).ext aq;have cu:=i_ qm.lt trivial;have z24:az.heap.size<=aR.heap.size:=Ns ag.size aq.size;clear qm;refine I ?_;refine I_ (λU=>?_) (λU=>?_)
 .refine I ?_;exact⟨.inl ⟨bA,i,lb,by unfold ng;rw[if_pos U];exact Bc.iR⟩,bo⟩
 refine I ?_;refine J_ (zK _ m aR (b2.ext bo) gN.lim) ?_;rintro vr bg ⟨fp,ar⟩;have iB:=aK.e4 (enc:=o.Ref.enc) (λ_=>rfl) fp;obtain⟨e1,gh,rfl,_⟩:=iB.form;replace bS:=ar.obj bS;have bC:=bo.trans ar;refine I ?_;intro wn ia hi fc eI;refine I ?_;intro bp gJ b3;have aC:=gJ.ext fc hi;replace b3:bp.heap[ia]? = some (.cells #[.slice e1 (o.refs m).length gh] T.g):=b3;clear eI;replace bS:=aC.obj bS;replace iB:=iB.ext Flat.ext aC;have b5:=bC.trans aC;have G0:=i_ (aK.ext aC fp) trivial;have KD:=(Bc.ext ar).ext aC;obtain⟨cb,aE,dk,hY⟩:=KD.ex;clear Bc fp ao;refine I ?_;have Sb:∀t (h1:t<cb.length) (J:t<(fz m s).length),∃kp,cb[t].1=[.I (fz m s)[t].cmd,.I (fz m s)[t].k0,kp]:=λt h1 J=>by
  obtain⟨kp,ab,_⟩:=(hY t h1 J).here;exact⟨kp,ab⟩
 have Ko:∀t (h1:t<cb.length) (J:t<(fz m s).length),(!u7 m i cb[t])=lk m i (fz m s)[t]:=λt h1 J=>by
  obtain⟨kp,ab⟩:=Sb t h1 J;unfold u7;rw[ab];simp only[Bool.not_not];rfl
 by_cases ad:cb=[]
 .subst ad;have GA:(fz m s).length=0:=by rw[<-aE];rfl
  have Bf:fz m s=[]:=AF7 GA;have xq:ng m s i=fz m s:=by unfold ng;rw[if_neg U,Bf];rfl
  have jT:bm 3 (Flat lA) bp (.slice BG 0 sI) ([]:C_ (fv 3)):=by have:=aK.iR k8 dk;rw[GA] at this;exact this
  have q4:Ei F.f #[.slice BG (fz m s).length sI,.func (.func F.b) #[] #[.pointer (some ⟨ia,0,none⟩),.pointer (some ⟨dm,0,none⟩)]] bp λv w'=>v = .slice BG (fz m s).length sI/\Ext bp w':=by rw[GA];exact ai1 BG sI ia dm bp jT
  refine J_ q4 ?_;rintro _ bH ⟨rfl,bc⟩;have tZ:lR bH (.slice BG (fz m s).length sI) (ng m s i):=by rw[xq];exact(KD.ext bc).iR
  have de:=b5.trans bc;clear q4 jT KD dk hY Sb Ko;refine I ?_;exact⟨.inl ⟨bA,i,lb,tZ⟩,de⟩
 .obtain⟨b,c,aH,awv,kV,dN,oi⟩:=ap6 dk ad;injection aH with hB dL aov
  subst hB aov;have c8:b<aR.heap.size:=AH5 (cu.1 b rfl).2 z24;have n7:ia≠b:=λe=>by
   obtain⟨cur,c7,_⟩:=kV.ex;rw[<-e,b3] at c7;injection c7 with c7
   injection c7 with _ c7
   exact absurd c7 BS
  have n6:dm≠b:=λe=>by
   obtain⟨cur,c7,_⟩:=kV.ex;rw[<-e,bS] at c7;injection c7 with c7
   injection c7 with _ c7
   exact absurd c7 BS
  have Qu:∀t (h1:t<cb.length) (J:t<(fz m s).length) w',Mod (λk=>k=b) bp w'->tr w' cb[t].1 (fz m s)[t]:=λt h1 J w' hm=>(gY.mono (hY t h1 J) λk _ hk=>.inl (by rw[hk];rfl)) w' hm;have au:∀x∈cb,∀w',Mod (λk=>k=b) bp w'->Ei F.b #[.agg x.1.toArray,.pointer (some ⟨ia,0,none⟩),.pointer (some ⟨dm,0,none⟩)] w' λv bO=>v = .bool (u7 m i x)/\Ext w' bO:=λx ah w' hm=>by
   obtain⟨t,h1,rfl⟩:=List.mem_iff_getElem.1 ah;have J:t<(fz m s).length:=Aw
   obtain⟨kp,an,fl⟩:=Qu t h1 J w' hm;have alF:tu w' (.slice e1 (o.refs m).length gh) (o.refs m):=aK.e4 (enc:=o.Ref.enc) (λ_=>rfl) (aK.mod G0.1 hm λk hk e=>by have e':k=b:=e;have:=(aK.lt G0.1 k hk).1;omega);have bb:=Ko t h1 J;have hV:u7 m i cb[t] = !o.lk m i (fz m s)[t]:=by rw[<-bb,Bool.not_not]
   rw[an,hV];exact ag8 _ kp _ m i ia dm w' alF Aw (ads bA.1 (E2 J)) fl (hm.obj n7 b3) (hm.obj n6 bS)
  have q4:Ei F.f #[.slice (some ⟨b,0,none⟩) (fz m s).length sI,.func (.func F.b) #[] #[.pointer (some ⟨ia,0,none⟩),.pointer (some ⟨dm,0,none⟩)]] bp λv w'=>v = .slice (some ⟨b,0,none⟩) (cb.filter λx => !u7 m i x).length sI/\iM w' b (cb.filter λx => !u7 m i x)/\Mod (λk=>k=b) bp w':=by rw[<-aE];exact ai2 b sI ia dm cb (u7 m i) bp kV dN oi au
  refine J_ q4 ?_;rintro _ bH ⟨rfl,aoh,hl⟩;obtain⟨f1,f2⟩:=Zz (R:=λ(c:fv 3) x=>tr bH c.1 x) (f:=λx => !u7 m i x) (g:=lk m i) cb (fz m s) aE λt h1 J=>⟨Qu t h1 J bH hl,Ko t h1 J⟩;have xq:ng m s i=(fz m s).filter (lk m i):=by unfold ng;rw[if_neg U]
  have lF:(cb.filter λx => !u7 m i x).length<=sI:=Ns (AJ4 _ _) dN;have tZ:lR bH (.slice (some ⟨b,0,none⟩) (cb.filter λx => !u7 m i x).length sI) (ng m s i):=by rw[xq];exact bm.D1 f1 (aoh.iR lF oi) f2
  have de:Ext w bH:=hl.ext b5 λk hk e=>by have:=(cu.1 b rfl).1;have:=af.size;omega
  clear q4 au Qu KD dk hY Sb Ko;refine I ?_;exact⟨.inl ⟨bA,i,lb,tZ⟩,de⟩
def ash(v v2:B_)(l:C_ Int)(w:A_)(aE:c3 w v l)(hm:c3 w v2 l):Ei F.Li #[v,v2] w λu w'=>u = .bool true/\Ext w w':=by
 obtain⟨aN,fh,rfl,_⟩:=aE.form;obtain⟨ph,sG,rfl,_⟩:=hm.form;refine bk E.Li ?_;refine I ?_;refine _L [0,1] (λk:Nat=>[(5,.I k)]) 0 (λk W=>k<=l.length/\Ext w W) (λk=>l.length - k) a6 ⟨AF4 _,Ext.refl _⟩ ?_;rintro k S w1 ⟨hk,af⟩;have mZ:=aE.ext Flat.ext af;have pM:=hm.ext Flat.ext af;refine I ?_;apply I_<;>intro g1;rotate_left
 .refine I ?_;exact⟨aJ,af⟩
 have b8:k<l.length:=Aw
 obtain⟨a,rfl⟩:=aE.addr;obtain⟨a2,rfl⟩:=hm.addr;clear aE hm;refine I ?_;intro az ai;refine I ?_;exact⟨k+1,⟨aJ,trivial⟩,⟨Aw,af.trans ai⟩,Aw⟩
def atk(v v2:B_)(l:C_ kK)(w:A_)(aE:lR w v l)(hm:lR w v2 l):Ei F.MP #[v,v2] w λu w'=>u = .bool true/\Ext w w':=by
 obtain⟨aN,fh,rfl,_⟩:=aE.form;obtain⟨ph,sG,rfl,_⟩:=hm.form;refine bk E.MP ?_;refine I ?_;refine L_ 13 l.length [0,1,12] (λ_:Unit=>[]) () (λ_ _ W=>Ext w W) a6 a6 (Ext.refl _) ?_;rintro k _ S w1 hk af;have mZ:=lR.ext af aE;have pM:=lR.ext af hm;refine I ?_;apply I_<;>intro g1;rotate_left
 .refine I ?_;exact⟨aJ,af⟩
 have b8:k<l.length:=Aw
 obtain⟨a,rfl⟩:=aE.addr;obtain⟨a2,rfl⟩:=hm.addr;obtain⟨v1,d1,kj⟩:=mZ.at k b8;obtain⟨Es,d2,jD⟩:=pM.at k b8;clear aE hm mZ pM;refine I ?_;refine P_ (.bool true) (λw' e=>ash _ _ _ w' (kj.ext Flat.ext e) (jD.ext Flat.ext e)) ?_;refine I ?_;intro az ai;refine I ?_;exact⟨b8,aJ,(),trivial,af.trans ai⟩
end Go.Proofs.R
namespace o
open Go
def arw(m:Model)(s:C_ Int):∃i:Int,p7 m s i:=by
 by_cases bA:gE m s
 .by_cases de:∃j:Nat,j<(insts m).length/\mJ m s j
  .have key:∀n j:Nat,j<=n->mJ m s j->∃t:Nat,t<=j/\mJ m s t/\∀u:Nat,u<t->¬mJ m s u:=by
    intro n
    induction n with
    | zero=>exact λj ay he=>⟨j,E1 _,he,λu hu=>Aw⟩
    | succ n fq =>
     intro j ay he;by_cases ah:∃u:Nat,u<j/\mJ m s u
     .obtain⟨u,hu,ai⟩:=ah;obtain⟨t,h1,J,ab⟩:=fq u Aw ai;exact⟨t,Aw,J,ab⟩
     .exact⟨j,E1 _,he,λu hu aot=>ah ⟨u,hu,aot⟩⟩
   obtain⟨j,ay,he⟩:=de;obtain⟨t,h1,J,ab⟩:=key j j (E1 _) he;exact⟨t,⟨λh=>absurd bA h,λ_ h=>absurd h Aw,λ_ _=>⟨Aw,by simpa using J,by simpa using ab⟩⟩⟩
  .exact⟨-1,⟨λ_=>rfl,λ_ _=>⟨rfl,λj ay h=>de ⟨j,ay,h⟩⟩,λ_ h=>absurd h Aw⟩⟩
 .exact⟨-1,⟨λ_=>rfl,λh=>absurd h bA,λh=>absurd h bA⟩⟩
end o
namespace Go.Proofs.R
open Go Go.RowKit ba
def agr(w:A_):Prop := ∀w',Ext w w'->Ei F.Hn #[] w' λu bO=>u = .bool true/\Ext w' bO
end Go.Proofs.R
namespace o
open Go
def JD:C_ Node:=[⟨1,1⟩]
def wW:Act:=⟨3,0,0,[],JD⟩
def sM:dG:=⟨⟨#[117,112]⟩,0,1,[],[wW],false⟩
def wV:Var:=⟨⟨#[97]⟩,0,0,0,1,0⟩
def CR:dv:=⟨⟨#[80]⟩,0,2,[wV],[sM]⟩
def CS:dv:=⟨⟨#[81]⟩,0,2,[wV],[sM]⟩
def eG:Model:=⟨[],[],[],[CR,CS],[]⟩
def yP:(check eG).cJ=0:=by decide +kernel
theorem FF:insts eG=[⟨0,0⟩,⟨1,0⟩]:=by decide +kernel
theorem vd:refs eG=[⟨0,0⟩,⟨1,0⟩]:=by decide +kernel
def CQ:fe eG 0 0 0 0:=⟨yP,BS,by rw[vd];decide,by
 have e:∀h,(refs eG)[(0:Int).toNat]'h=⟨0,0⟩:=λh=>by simp[vd]
 rw[e];exact⟨by rw[FF];decide,rfl,by simp[FF],BS,rfl,BS⟩⟩
def JC:fe eG 1 1 1 0:=⟨yP,BS,by rw[vd];decide,by
 have e:∀h,(refs eG)[(1:Int).toNat]'h=⟨1,0⟩:=λh=>by simp[vd]
 rw[e];exact⟨by rw[FF];decide,rfl,by simp[FF],BS,rfl,BS⟩⟩
def ajR:qv eG 0 (bM eG 0 0) (bM eG 0 0).bL.length=[0]:=by decide +kernel
def ajV:kq eG 0 (bM eG 0 0) (bM eG 0 0).bL.length=[0,1]:=by decide +kernel
def ajS:qv eG 1 (bM eG 1 0) (bM eG 1 0).bL.length=[2]:=by decide +kernel
def ajW:kq eG 1 (bM eG 1 0) (bM eG 1 0).bL.length=[2,3]:=by decide +kernel
def ajT:tg eG=[]:=by decide +kernel
theorem ajU{L:C_ (C_ Int×C_ Int)}(h:ml eG (refs eG).length L):L=[([0],[0,1]),([2],[2,3])]:=by
 have aE:=h.len;rw[vd] at aE
 match L,aE with
 | [x,y],_ =>
  obtain⟨h1,J⟩:=(h.is 0 CC).there _ _ _ CQ;obtain⟨ab,aF⟩:=(h.is 1 CC).there _ _ _ JC;rw[ajR] at h1;rw[ajV] at J;rw[ajS] at ab;rw[ajW] at aF;have bG:=D9 _ [0] h1.lM BS h1.mem;have aD:=D9 _ [0,1] J.lM BS J.mem;have aO:=D9 _ [2] ab.lM BS ab.mem;have bo:=D9 _ [2,3] aF.lM BS aF.mem;simp only[List.getElem_cons_zero,List.getElem_cons_succ] at bG aD aO bo;obtain⟨ir,jn⟩:=x;obtain⟨jY,jK⟩:=y;simp only at bG aD aO bo;subst bG aD aO bo;rfl
def P2:fL eG 0 0:=CQ.inst
def ajK:fL eG 1 1:=JC.inst
theorem ajM{q:Nat}(av:q<2){t:Bool}{L:C_ (C_ Int×C_ Int)}(gS:ml eG (refs eG).length L)(h:k4 eG q 0 t):t=true:=by
 have dd:pz eG q 0:=by
  match q,av with
  | 0,_=>exact DQ yP P2 BS BS
  | 1,_=>exact DQ yP ajK BS BS
 have ck:=ajU gS;refine(h.there dd L gS).2 ?_;intro i U j ay cv x y ah bF;subst ck;have jy:j<2:=by rw[vd] at ay;exact ay
 obtain⟨eQ,p,k,br,bG,_⟩:=U;have l0:i<2:=by have:=br.told.2.2;rw[vd] at this;simp at this;omega
 have fm:=br.at_.nk;simp only[vd] at cv fm
 match i,l0,j,jy with
 | 0,_,0,_=>simp at cv fm;omega
 | 1,_,1,_=>simp at cv fm;omega
 | 0,_,1,_ =>
  simp only[List.getElem?_cons_zero,List.getElem?_cons_succ,Option.some.injEq] at ah bF;subst ah bF;decide
 | 1,_,0,_ =>
  simp only[List.getElem?_cons_zero,List.getElem?_cons_succ,Option.some.injEq] at ah bF;subst ah bF;decide
def ajZ:wW.cr:=by
 exact⟨pS (by simp[wW]),pS (by simp[wW]),pS (by simp[wW]),by simp[wW,ev],by simp[wW,JD,ev]⟩
def ajX:sM.cr:=by
 refine⟨pS (by simp[sM]),pS (by simp[sM]),by simp[sM,ev],by simp[sM,ev],?_⟩;intro b ak;simp[sM] at ak;subst ak;exact ajZ
def ajJ:eG.cr:=by
 refine⟨by simp[eG,ev],by simp[eG,ev],by simp[eG,ev],by simp[eG,ev],by simp[eG,ev],by simp[eG],by simp[eG],by simp[eG],?_,by simp[eG]⟩;have aH:∀a∈[wV],a.cr:=by
  intro a aY;simp at aY;subst aY;exact⟨pS (by simp[wV]),pS (by simp[wV]),pS (by simp[wV]),pS (by simp[wV]),pS (by simp[wV])⟩
 have an:∀c∈[sM],c.cr:=by
  intro c an;simp at an;subst an;exact ajX
 intro a aY;simp[eG] at aY;rcases aY with rfl | rfl
 .exact⟨pS (by simp[CR]),pS (by simp[CR]),by simp[CR,ev],by simp[CR,ev],aH,an⟩
 .exact⟨pS (by simp[CS]),pS (by simp[CS]),by simp[CS,ev],by simp[CS,ev],aH,an⟩
def ajN:(fz eG [1,1,1,1]).length=1:=by decide +kernel
def ajL:(cp eG).map (λc=>(c.aV,c.U))=[(0,1),(0,1),(0,1),(0,1)]:=by decide +kernel
theorem Zp{x:Int}(ad:0<=x)(h1:x<=1):Fits eG [x,x,x,x]:=by
 refine⟨by have:di eG=4:=(by decide +kernel);rw[this];rfl,λi h=>absurd h (E3 _),λi h bq=>?_⟩;have e:=congrArg (λl=>l[i]?) ajL;simp only[List.getElem?_map,List.getElem?_eq_getElem bq,Option.map_some] at e
 match i,h,bq,e with
 | 0,_,_,e=>simp at e;simp[e.1,e.2];omega
 | 1,_,_,e=>simp at e;simp[e.1,e.2];omega
 | 2,_,_,e=>simp at e;simp[e.1,e.2];omega
 | 3,_,_,e=>simp at e;simp[e.1,e.2];omega
 | n+4,h,_,_=>simp at h;omega
def Zs:gE eG [0,0,0,0]:=⟨yP,Zp BS BS⟩
def Zt:gE eG [1,1,1,1]:=⟨yP,Zp BS BS⟩
def ajI:mJ eG [0,0,0,0] 0:=by
 have aE:xJ eG [0,0,0,0] 0=0:=by decide +kernel
 refine⟨?_,λr aT=>?_,0,?_,?_⟩
 .rw[aE];unfold Hf;refine(@decide_eq_true_iff _ (Classical.propDecidable _)).2 ⟨DQ yP P2 BS BS,λL gS=>?_⟩;have dd:pz eG ((0:Nat):Int) 0:=DQ yP P2 BS BS
  have:=ajM (q:=0) BS gS (k4.of (t := @decide (Ce eG L ((0:Nat):Int) 0) (Classical.propDecidable _)) dd gS (@decide_eq_true_iff _ (Classical.propDecidable _)))
  exact @of_decide_eq_true _ (Classical.propDecidable _) this
 .obtain⟨q,p,k,br,_⟩:=aT;have J:=br.told.2.2;rw[vd] at J;unfold si;refine(@decide_eq_false_iff_not _ (Classical.propDecidable _)).2 ?_;rintro⟨eQ,gC,k',a,b,qX,bA,hk | ⟨x,_,hk⟩⟩
  .have:r=0\/r=1:=by simp at J;omega
   rcases this with rfl | rfl
   .obtain⟨rfl,rfl,rfl⟩:=qX.one CQ
    revert hk
    decide
   .obtain⟨rfl,rfl,rfl⟩:=qX.one JC
    revert hk
    decide
  .rw[ajT] at hk;cases hk
 .rw[aE];exact⟨0,0,0,CQ,rfl,rfl⟩
 .exact⟨0,0,0,CQ,by decide +kernel⟩
def Zr{i:Int}(h:p7 eG [0,0,0,0] i):i=0:=by
 have k:p7 eG [0,0,0,0] 0:=⟨λaw=>absurd Zs aw,λ_ h=>absurd h BS,λ_ _=>⟨by rw[FF];decide,ajI,λj ay=>absurd ay (E3 _)⟩⟩;exact h.eq k
def Zq:(ng eG [0,0,0,0] 0).map (·.cmd)=[0]:=by decide +kernel
def ajP:hS eG [1,1,1,1] 0 (bM eG 0 0)=none:=by decide +kernel
def ajQ:hS eG [1,1,1,1] 1 (bM eG 1 0)=none:=by decide +kernel
def ajO{i:Int}(h:p7 eG [1,1,1,1] i):(ng eG [1,1,1,1] i).length=1:=by
 by_cases U:i<0
 .unfold ng;rw[if_pos U];exact ajN
 .obtain⟨_,de,_⟩:=h.some Zt Aw;obtain⟨r,_,q,p,k,br,aw⟩:=de.on;have J:=br.told.2.2;rw[vd] at J
  have:r=0\/r=1:=by simp at J;omega
  rcases this with rfl | rfl
  .obtain⟨rfl,rfl,rfl⟩:=br.one CQ;exact absurd ajP aw
  .obtain⟨rfl,rfl,rfl⟩:=br.one JC;exact absurd ajQ aw
end o
namespace Go.Proofs.R
open Go Go.RowKit ba o
def apJ(w:A_)(aS:gQ w):Ei F.Hn #[] w λv w'=>v = .bool true/\Ext w w':=by
 refine bk E.Hn ?_;refine I ?_;intro w1 ia hi af al;refine I ?_;intro az b9 lZ ai ao;refine I ?_;intro aM mm xa ag a8;refine I ?_;intro aR tG Dh aq bn;refine I ?_;intro bg bP c8 ar bI;replace bI:bg.heap[bP]? = some (.cells #[.string ⟨#[80]⟩,.I 0,.I 2,.slice (some ⟨mm,0,none⟩) 1 1,.slice (some ⟨tG,0,none⟩) 1 1] T.l):=bI;refine I ?_;intro bp bV eX aC bS;replace bS:bp.heap[bV]? = some (.cells #[.string ⟨#[80]⟩,.I 0,.I 2,.slice (some ⟨mm,0,none⟩) 1 1,.slice (some ⟨tG,0,none⟩) 1 1] T.l):=bS;have amo:=aC.obj bI;refine I ?_;intro bH dz b3;replace b3:bH.heap[bV]? = some (.cells #[.string ⟨#[81]⟩,.I 0,.I 2,.slice (some ⟨mm,0,none⟩) 1 1,.slice (some ⟨tG,0,none⟩) 1 1] T.l):=b3;have bc:Ext bg bH:=dz.ext aC eX;have amp:=bc.obj bI;clear bS amo;refine I ?_;intro cB Yc awm bt cF;refine I ?_;intro cD cQ fD b0 cG;replace cG:cD.heap[cQ]? = some (.cells #[.slice none 0 0,.slice none 0 0,.slice none 0 0,.slice (some ⟨Yc,0,none⟩) 2 2,.slice none 0 0] T.f):=cG;have EH:=(bc.trans bt).trans b0;have fA:=(((af.trans ai).trans ag).trans aq).trans (ar.trans EH);have xD:=(((ai.trans ag).trans aq).trans (ar.trans EH)).obj al;have Hb:=((ag.trans aq).trans (ar.trans EH)).obj ao;have Ha:=(aq.trans (ar.trans EH)).obj a8;have acJ:=(ar.trans EH).obj bn;have acK:=b0.obj cF;have SX:h8 cD (.slice (some ⟨mm,0,none⟩) 1 1) [wV]:=h8.cy Ha rfl BS (by intro x ah;simp only[List.mem_singleton] at ah;subst ah;decide);have acN:eW cD (.slice (some ⟨ia,0,none⟩) 1 1) JD:=bm.cy (enc:=o.Node.enc) (λ_=>rfl) xD rfl BS λa x ah an=>⟨an,ajY x (by simp[JD] at ah;subst ah;simp)⟩;have acM:lP cD (.slice (some ⟨b9,0,none⟩) 1 1) [wW]:=bm.Pe [⟨wW.enc (.slice none 0 0) (.slice (some ⟨ia,0,none⟩) 1 1),rfl,by simp[o.Act.enc,Value.oneCell']⟩] Hb rfl rfl rfl BS (by
  intro i h1 J
  have:i=0:=by simp at h1;omega
  subst this;exact⟨_,_,rfl,bm.nil,acN⟩)
 have SV:su cD (.slice (some ⟨tG,0,none⟩) 1 1) [sM]:=bm.Pe [⟨sM.enc (.slice none 0 0) (.slice (some ⟨b9,0,none⟩) 1 1),rfl,by simp[dG.enc,Value.oneCell']⟩] acJ rfl rfl rfl BS (by
  intro i h1 J
  have:i=0:=by simp at h1;omega
  subst this;exact⟨(show jV sM.name by decide),_,_,rfl,bm.nil,acM⟩)
 have acO:rJ cD (.slice (some ⟨Yc,0,none⟩) 2 2) eG.procs:=bm.Pe [⟨CR.enc (.slice (some ⟨mm,0,none⟩) 1 1) (.slice (some ⟨tG,0,none⟩) 1 1),rfl,by simp[dv.enc,Value.oneCell']⟩,⟨CS.enc (.slice (some ⟨mm,0,none⟩) 1 1) (.slice (some ⟨tG,0,none⟩) 1 1),rfl,by simp[dv.enc,Value.oneCell']⟩] acK rfl rfl rfl BS (by
  intro i h1 J
  match i,h1 with
  | 0,_=>exact⟨(show jV ⟨#[80]⟩ by decide),_,_,rfl,SX,SV⟩
  | 1,_=>exact⟨(show jV ⟨#[81]⟩ by decide),_,_,rfl,SX,SV⟩
  | n+2,h1=>simp at h1;omega)
 have aL:dh cD _ eG:=⟨_,_,_,_,_,rfl,bm.nil,bm.nil,bm.nil,acO,bm.nil⟩;have aG:=ajJ;clear xD Hb Ha acJ acK SX acN acM SV acO al ao a8 bn bI b3 amp cF;refine I ?_;intro et IV awn cd gZ;replace gZ:et.heap[IV]? = some (.cells #[.I 0,.I 0,.I 0,.I 0] T.a):=gZ;replace cG:=cd.obj cG;have p3:=fA.trans cd;have aj:c3 et (.slice (some ⟨IV,0,none⟩) 4 4) [0,0,0,0]:=bm.cy (enc:=bX) (λ_=>rfl) gZ rfl BS λa x ah an=>an;refine I ?_;refine J_ (OW _ _ eG [0,0,0,0] et (aL.ext cd) aG (aS.ext p3) aj) ?_;rintro u ft ⟨hO,ef⟩;rcases hO with ⟨_,i,lb,qm⟩ | ⟨bA,_⟩
 rotate_left
 .exact absurd Zs bA
 obtain rfl:=Zr lb;have l4:(ng eG [0,0,0,0] 0).length=1:=by have:=congrArg List.length Zq;simpa using this
 obtain⟨BG,sI,rfl,_⟩:=qm.form;replace cG:=ef.obj cG;have j1:=p3.trans ef;have Qt:=(aL.ext cd).ext ef;clear gZ aL;refine I ?_;intro hf Ye awo dH ic;replace ic:hf.heap[Ye]? = some (.cells #[.I 0,.I 0,.I 0,.I 0] T.a):=ic;replace cG:=dH.obj cG;have mI:=j1.trans dH;have eo:c3 hf (.slice (some ⟨Ye,0,none⟩) 4 4) [0,0,0,0]:=bm.cy (enc:=bX) (λ_=>rfl) ic rfl BS λa x ah an=>an;refine I ?_;refine J_ (OX _ _ eG [0,0,0,0] hf (Qt.ext dH) aG (aS.ext mI) eo) ?_;rintro _ jX ⟨⟨i,rfl,aly⟩,fW⟩;obtain rfl:=Zr aly;replace cG:=fW.obj cG;have oI:=mI.trans fW;have aaf:=(Qt.ext dH).ext fW;have RI:=lR.ext fW (lR.ext dH qm);obtain⟨am,rfl⟩:=RI.addr;obtain⟨kp,ah,_⟩:=RI.at 0 Aw;have zo:(ng eG [0,0,0,0] 0)[0].cmd=0:=by
  have:=congrArg (λl=>l[0]?) Zq
  simp only[List.getElem?_map,List.getElem?_eq_getElem (show 0<(ng eG [0,0,0,0] 0).length by omega),AG3,List.getElem?_cons_zero] at this;injection this
 clear qm RI ic eo Qt;refine I ?_;refine K_ 0 rfl Aw ?_;refine I ?_;intro sm Yf awq lD o2;replace o2:sm.heap[Yf]? = some (.cells #[.I 1,.I 1,.I 1,.I 1] T.a):=o2;have zW:=oI.trans lD;have gT:c3 sm (.slice (some ⟨Yf,0,none⟩) 4 4) [1,1,1,1]:=bm.cy (enc:=bX) (λ_=>rfl) o2 rfl BS λa x ah an=>an;refine I ?_;refine J_ (OW _ _ eG [1,1,1,1] sm (aaf.ext lD) aG (aS.ext zW) gT) ?_;rintro u NV ⟨hO,q6⟩;rcases hO with ⟨_,i,alz,DB⟩ | ⟨bA,_⟩
 rotate_left
 .exact absurd Zt bA
 have anF:=ajO alz;obtain⟨ax2,avT,rfl,_⟩:=DB.form;clear gT o2 aaf DB;refine I ?_;exact⟨by first | trivial | rfl | (rw[anF];rfl),zW.trans q6⟩
def apI{w:A_}(aS:gQ w):agr w:=λw' e=>apJ w' (aS.ext e)
def adW{m:o.Model}{s:C_ Int}{w:A_}{u:B_}(h:(gE m s/\∃i,p7 m s i/\lR w u (ng m s i))\/(¬gE m s/\u = .slice none 0 0)){i:Int}(U:p7 m s i){l:C_ kK}
  (h1:gE m s->l=ng m s i)(J:¬gE m s->l=[]):lR w u l:=by
 rcases h with ⟨bA,j,ay,hm⟩ | ⟨bA,rfl⟩
 .rw[h1 bA,<-ay.eq U];exact hm
 .rw[J bA];exact bm.nil
def apo(cs:C_ B_)(v:B_)(m:o.Model)(s:C_ Int)(w:A_)(h:dh w cs m)(aG:m.cr)(aS:gQ w)(aj:c3 w v s) :
  Ei F.Hm #[.agg cs.toArray,v] w λu w'=>u = .bool true/\Ext w w':=by
 have b2:=h;obtain⟨bZ,bz,bN,c1,bT,c2,bW,bw,b1,bD,rfl,_⟩:=h.form;obtain⟨os,oX,rfl,_⟩:=aj.form;obtain⟨i,U⟩:=arw m s;obtain⟨l,h1,J⟩:∃l,(gE m s->l=ng m s i)/\(¬gE m s->l=[]):=by
  by_cases bA:gE m s
  .exact⟨_,λ_=>rfl,λh=>absurd bA h⟩
  .exact⟨[],λh=>absurd h bA,λ_=>rfl⟩
 have ck:=i_ (apI aS) trivial;refine bk E.Hm ?_;refine I ?_;intro w1 bP c8 af ao;refine I ?_;intro az ai;have aD:=af.trans ai;refine I ?_;refine J_ (OW _ _ m s az (b2.ext aD) aG (aS.ext aD) (aj.ext Flat.ext aD)) ?_;rintro u aM ⟨hO,ag⟩;have hu:=adW hO U h1 J;obtain⟨rr,mT,rfl,_⟩:=hu.form;refine⟨ag,?_⟩;clear hO;have aO:=aD.trans ag;refine I ?_;refine J_ (ags _ _ m s aM (b2.ext aO) aG (aj.ext Flat.ext aO)) ?_;rintro u aR ⟨hO,aq⟩;have DJ:=adW hO U h1 J;obtain⟨ax7,avY,rfl,_⟩:=DJ.form;clear hO;have bo:=aO.trans aq;refine I ?_;refine J_ (atk _ _ l aR (lR.ext aq hu) DJ) ?_;rintro _ bg ⟨rfl,ar⟩;have bC:=bo.trans ar;refine I ?_;refine J_ (ck.1 bg bC) ?_;rintro _ bp ⟨rfl,aC⟩;refine I ?_;exact⟨aJ,bC.trans aC⟩
end Go.Proofs.R
namespace ba
open Go Go.RowKit Go.ChangeShapes Go.WideShapes Go.Deep
section
variable{H:Type}{enc:TypeId×Value->H}{P:Program}{w:World}{base:Nat}{spare:Nat->Bool}{held:Bool}
def wZ{t:F_}{gH:Array Field}{n:Nat}{cs:C_ B_}{y:DataW H×C_ MemPlace}(aB:P.underlying t=some (.struct gH))(xm:oneCellFields P gH=true)(br:P.cellsOf t=gH.size)
  (h:DataW.trod enc P w base spare held n t cs=some y):cs.length=gH.size/\∃iO ds,y.1 = .agg ds/\∀(j:Nat) (f:Field),gH[j]? = some f->∃v z,cs[j]? = some v/\DataW.trod enc P w base spare held iO f.type [v]=some z/\ds[j]? = some z.1:=by
 obtain⟨ys,iO,KE,bF,hlen,axh,ax⟩:=DataW.trod_struct aB h;refine⟨Aw,iO,_,by rw[bF],λj f ay=>?_⟩;obtain⟨aS,hk⟩:=hone_of xm j f ay;have vx:j<gH.size:=(Array.getElem?_eq_some_iff.1 ay).1;have aH:cs[j]? = some (cs[j]' Aw):=List.getElem?_eq_getElem Aw;have h1:=ax j f ay;rw[aS,hk] at h1;have anW:(cs.drop j).take 1=[cs[j]' Aw]:=by
  rw[AF0 Aw];rfl
 rw[anW,List.getElem?_eq_getElem (l:=ys) Aw] at h1;exact⟨_,_,aH,h1,by rw[List.getElem?_map,List.getElem?_eq_getElem Aw];rfl⟩
def nD{gH:Array Field}{n:Nat}{cs:C_ B_}{ds:C_ (DataW H)}(ax:∀(j:Nat) (f:Field),gH[j]? = some f->∃v z,cs[j]? = some v/\DataW.trod enc P w base spare held n f.type [v]=some z/\ds[j]? = some z.1)(j:Nat){f:Field}(ay:gH[j]? = some f)
  (hu:P.underlying f.type=some (.int .i64):=by kernel_rfl):∃z,cs[j]? = some (.I z)/\(Lit.int .i64 z).wf=true:=by
 obtain⟨v,z,h1,J,_⟩:=ax j f ay;obtain⟨x,e,_,k⟩:=DataW.trod_int (k:=.i64) hu J;cases e;exact⟨x,h1,k⟩
def Small(P:D_)(t:F_)(d:DataW H):Prop := ∀q∈d.weights P t,q<=reachBytes
theorem Small.field{t u:F_}{gH:Array Field}{ds:C_ (DataW H)}{j:Nat}{d:DataW H}{f:Field}(h:Small P t (.agg ds))(aB:P.underlying t=some (.struct gH))(ax:gH[j]? = some f)(hu:f.type=u)(bb:ds[j]? = some d):Small P u d:=by
 subst hu;intro q av;refine h q ?_;simp only[DataW.weights,aB];exact DataW.weights_mem_each (j:=j) (by simp[ax]) bb q av
def ah7{α:Type}{R:A_->Addr->α->Prop}{t e:F_}{v:B_}{n:Nat}{z:DataW H×C_ MemPlace}(sz:Nat)(aB:P.underlying t=some (.slice e))(br:P.cellsOf e=sz)(gP:0<P.bytesOf e)
  (bA:∀(a:Addr) (cs:C_ B_) (n:Nat) (y:DataW H×C_ MemPlace),ff w a cs->cs.length=sz->DataW.trod enc P w 0 (λ_=>true) true n e cs=some y->∃x,R w a x)
  (h:DataW.trod enc P w 0 (λ_=>true) true n t [v]=some z):∃xs,bm sz R w v xs/\(Small P t z.1->xs.length<=140737488355328):=by
 rcases open_slice aB h with ⟨gx,_⟩ | ⟨a,len,cap,m,n,D,agz,gx,ak,aE,hm,GI,ah,U⟩
 .simp at gx;subst gx;exact⟨[],bm.nil,λ_=>CC⟩
 .simp at gx;subst gx;simp only[if_true] at GI;subst GI;obtain⟨xs,xx,uq⟩:=S8 len (λi x=>R w (a.add (i*sz)) x) λi cw=>by
   obtain⟨js,an,zl⟩:=U i Aw;rw[br] at an;obtain⟨_,dN,jP⟩:=World.cells?_some an;refine bA _ js n _ (λj u ay=>?_) dN zl;have RB:j<sz:=dN ▸ (List.getElem?_eq_some_iff.1 ay).1;rw[<-ay];exact jP j RB
  refine⟨xs,⟨some a,_,by rw[xx],Aw,hm,λ_=>rfl,λcx aY=>by injection aY with aY;subst aY;exact uq⟩,λaj=>?_⟩;have h1:=aj ((len+(m - len))*P.bytesOf e) (by rw[ah];simp[DataW.weights,aB]);have J:=reachBytes_lt;have ab:len<=(len+(m - len))*P.bytesOf e:=Ns (Nat.le_add_right len _) (Nat.le_mul_of_pos_right _ gP);rw[xx];omega
def ahd{r:Reach}{qP:Nat}{t e:F_}{v:B_}{d:DataW H}{p:C_ MemPlace}(aB:P.underlying t=some (.slice e))(xv:Value.okWide P w r qP t v)(h:DataW.Trod enc P w 0 (λ_=>true) true t v d p) :
  ∃n,DataW.trod enc P w 0 (λ_=>true) true n t [v]=some (d,p):=by
 obtain⟨a0,axR,avP,rfl⟩:=okWide_slice aB xv;obtain⟨n,aw⟩:=h;exact⟨n,aw⟩
end
end ba
namespace Go.Proofs.R
open Go Go.RowKit ba Go.ChangeShapes
variable{H:Type}{enc:TypeId×Value->H}{w:World}{cs:List Value}{n:Nat}{y:DataW H×List MemPlace}{v:Value}
def ns{z:Int}(h:(Lit.int .i64 z).wf=true):o.dZ z:=by
 simp only[Lit.wf,Bool.and_eq_true,decide_eq_true_eq] at h;exact⟨h.1,h.2⟩
theorem aqk(h:DataW.trod enc Tryz.prog w 0 (λ_=>true) true n T.e cs=some y):∃x:o.Node,cs=x.enc/\x.ok:=by
 obtain⟨aE,iO,ds,_,ax⟩:=wZ (t:=T.e) rfl Cx Cx h
 match cs,aE with
 | [bz,c1],_ =>
  obtain⟨z0,ej,fj⟩:=nD ax 0 rfl;obtain⟨fT,bG,cM⟩:=nD ax 1 rfl;cases ej;cases bG;exact⟨⟨z0,fT⟩,rfl,ns fj,ns cM⟩
end Go.Proofs.R