/- Texts joined: StaD StaE StaF StaG StaH StaI StaJ LiteI LiteJ LiteK LiteL StaK ReaR ModQ LabP LiteT StaL StaT StaW MovP StaU LiteU StaV StaX StaY MovA MovB ReaS ComA MovC MovD MovQ. -/
import Derived.Test.YtempnjgiohpopaaGreatDoorQlbd
import Derived.Test.YtempnjgiohpopaaGreatDoorQlbe
import Derived.Test.YtempnjgiohpopaaGreatDoorQlbg
import Derived.Test.YtempnjgiohpopaaGreatDoorQlbk
import Derived.Test.YtempnjgiohpopaaGreatDoorQlbm
import Derived.Laws.Bits64b
import Derived.Lib.AppendZerosOnto
set_option linter.all false
set_option maxRecDepth 8000
set_option maxHeartbeats 6400000
section
namespace o
open Classical in
noncomputable def BF(s:List Scalar)(c:dh)(l:List Int):Bool:=decide (nM s c l)
theorem Jd{s:List Scalar}{c:dh}{l:List Int}:BF s c l=true↔nM s c l:=by unfold BF;simp
theorem acn{s:List Scalar}{c:dh}{l:List Int}{t:Bool}(h:t=true↔nM s c l):t=BF s c l:=by
 rw[←Jd] at h;cases t<;>cases aJ:BF s c l<;>simp_all
end o
namespace Go.Proofs.R
open Go Go.RowKit bn
theorem ad2(cs:List Value)(m:o.Model)(v:Value)(s:List Int)(w:World)(h:o.eh w cs m)(aX:m.cM)(a1:gf w)(aw:gu w v s) :
  bw Tryz.prog F.zi #[.agg cs.toArray,v] w fun u w'=>(∃t:Bool,u = .bool t∧(t=true↔o.FI m s))∧Ext w w':=by
 have bP:=h;obtain⟨cG,bR,cu,c1,cA,c2,cw,bN,cP,bX,rfl,_⟩:=h.form;refine bO E.zi ?_;refine bH ?_;refine ao ?_;intro ar bz cN aE al;refine ao ?_;refine K.call (RL _ m ar (bP.ext aE) aX (a1.ext aE)) ?_;rintro _ aW ⟨ba,aF⟩;have aZ:=aE.trans aF;rcases ba with ⟨rfl,hk⟩ | ⟨b,rfl,hk,ba⟩
 ·refine ao ?_;refine K.aca (by kernel_rfl) ?_;refine ao ?_;exact⟨⟨false,rfl,by simp only[Bool.false_eq_true,false_iff];exact fun h=>hk h.1⟩,aZ⟩
 ·refine ao ?_;refine K.acb (by kernel_rfl) ?_;refine ao ?_;refine K.call (RR b _ s m aW ba (o.o6 hk) (aw.ext Flat.ext aZ)) ?_;rintro _ bh ⟨⟨t,rfl,aG⟩,av⟩;refine ao ?_;exact⟨⟨t,by cases t<;>rfl,aG.trans ⟨fun h=>⟨hk,h⟩,fun h=>h.2⟩⟩,aZ.trans av⟩
theorem Q9(cs:List Value)(m:o.Model)(w:World)(h:o.eh w cs m)(aX:m.cM) :
  bw Tryz.prog F.xZ #[.agg cs.toArray] w fun v w'=>v = .bool (decide ((o.check m).cY=0))∧Ext w w':=by
 obtain⟨cG,bR,cu,c1,cA,c2,cw,bN,cP,bX,rfl,_⟩:=h.form;refine bO E.xZ ?_;refine bH ?_;refine ao ?_;intro ar bz cN aE al;refine ao ?_;refine K.call (RM _ m ar (h.ext aE) aX) ?_;rintro _ aW ⟨rfl,aF⟩;unfold uW;refine ao ?_;refine K.kI (v:=.int .i64 (o.check m).cY) rfl ?_;refine ao ?_;exact⟨bq,aE.trans aF⟩
theorem acG(cs:List Value)(m:o.Model)(v:Value)(l:List Int)(i:Nat)(w:World)(h:o.eh w cs m)(bP:o.gF m)(ad:i<m.aK.length)(bg:gu w v l)(tx:l.length=1+m.aK[i].cap.toNat) :
  bw Tryz.prog F.Bh #[.agg cs.toArray,v,.int .i64 i] w fun u w'=>(∃t:Bool,u = .bool t∧(t=true↔o.nM m.scalars m.aK[i] l))∧Ext w w':=by
 obtain⟨cG,bR,cu,c1,cA,c2,cw,bN,cP,bX,rfl,ak,h1,U,ai,aL,et,dY,eg,dK,ed⟩:=h.form;obtain⟨e4,gN,rfl,fA⟩:=bg.form;have c4:=bP.chan _ (List.getElem_mem ad);have oX:=c4.cap;have hp:=bP.hp;obtain⟨ac,rfl⟩:=U.addr (by omega);obtain⟨ap,rfl⟩:=bg.addr (by omega);have ev:=(U.at i ad).cells;have aJ:=o.RF (s:=m.scalars) (c:=m.aK[i]) (l:=l) tx oX.1;obtain⟨bk,ky⟩:∃bk,bk=(o.fy m.aK[i].scalar m.aK[i].bk m.aK[i].ad m.scalars).bk:=⟨_,rfl⟩;obtain⟨cr,Ag⟩:∃ad,ad=(o.fy m.aK[i].scalar m.aK[i].bk m.aK[i].ad m.scalars).ad:=⟨_,rfl⟩;rw[←ky,←Ag] at aJ;refine bO E.Bh ?_;refine bH ?_;refine ao ?_;intro ar bz cN aE al;replace ev:=ev.ext aE;refine ao ?_;intro aW wM kO aF er;replace al:=aF.obj al;have aZ:=aE.trans aF;replace bg:=bg.ext Flat.ext aZ;clear ev;refine ao ?_;refine K.du 0 rfl (by omega) ?_;refine ao ?_;apply K.cond<;>intro g1
 ·refine ao ?_;intro bh av;refine ao ?_;exact⟨⟨false,rfl,by simp only[Bool.false_eq_true,false_iff];intro h;exact absurd (aJ.1 h).1 (by omega)⟩,aZ.trans av⟩
 refine ao ?_;refine K.du 0 rfl (by omega) ?_;refine ao ?_;intro bh av;replace al:=av.obj al;replace er:=av.obj er;replace bg:=bg.ext Flat.ext av;have bJ:=aZ.trans av;apply K.cond<;>intro g2
 ·refine ao ?_;exact⟨⟨false,rfl,by simp only[Bool.false_eq_true,false_iff];intro h;exact absurd (aJ.1 h).2.1 (by omega)⟩,bJ⟩
 refine ao ?_;refine K.call (Ji ⟨⟨#[]⟩,m.aK[i].scalar,0,m.aK[i].bk,m.aK[i].ad,0⟩ _ m.scalars bh (ak.ext bJ)) ?_;rintro _ bj ⟨rfl,aH⟩;have N0:((o.bounds ⟨⟨#[]⟩,m.aK[i].scalar,0,m.aK[i].bk,m.aK[i].ad,0⟩ m.scalars).1=bk)∧(o.bounds ⟨⟨#[]⟩,m.aK[i].scalar,0,m.aK[i].bk,m.aK[i].ad,0⟩ m.scalars).2=cr:=by
  rw[ky,Ag,show o.fy m.aK[i].scalar m.aK[i].bk m.aK[i].ad m.scalars=_ from o.wQ ⟨⟨#[]⟩,m.aK[i].scalar,0,m.aK[i].bk,m.aK[i].ad,0⟩ m.scalars];exact⟨rfl,rfl⟩
 rw[N0.1,N0.2];have G9:=aH.obj er;replace bg:=bg.ext Flat.ext aH;have b5:=bJ.trans aH;refine ao ?_;refine K.yz [1,7,8,9] (fun x:Nat=>[(10,.int .i64 ((x:Int)+1))]) 0 (fun x W=>Ext bj W∧(x:Int)≤m.aK[i].cap∧∀j (h:j+1<l.length),j<x→((j:Int)<l[0]→bk≤l[j+1]∧l[j+1]≤cr)∧(l[0]≤j→l[j+1]=0)) (fun x=>(m.aK[i].cap - x).toNat) bp ⟨Ext.refl _,by omega,fun j _ h=>absurd h (Nat.not_lt_zero _)⟩ ?_;clear al er;rintro k S bF ⟨a8,hk,c6⟩;have er:=a8.obj G9;have cf:=b5.trans a8;replace bg:=bg.ext Flat.ext a8;refine ao ?_;apply K.cond<;>intro g3
 ·have cp:k+1<l.length:=by omega
  have bad:¬(((k:Int)<l[0]→bk≤l[k+1]∧l[k+1]≤cr)∧(l[0]≤k→l[k+1]=0))→(false=true↔o.nM m.scalars m.aK[i] l):=fun h=>by
   simp only[Bool.false_eq_true,false_iff];exact fun cR=>h ((aJ.1 cR).2.2 k cp)
  refine ao ?_;refine K.du 0 rfl (by omega) ?_;refine ao ?_;apply K.cond<;>intro g4
  ·refine ao ?_;apply K.cond<;>intro g5
   ·refine ao ?_;exact⟨⟨false,rfl,bad fun h=>by have:=h.1 (by omega);omega⟩,cf⟩
   refine ao ?_;apply K.cond<;>intro g6
   ·refine ao ?_;exact⟨⟨false,rfl,bad fun h=>by have:=h.1 (by omega);omega⟩,cf⟩
   refine ao ?_;refine K.du 0 rfl (by omega) ?_;refine ao ?_;exact⟨k+1,bp,⟨a8,by omega,fun j h aP=>by
    by_cases fL:j=k
    ·subst fL;exact⟨fun _=>by omega,fun _=>by omega⟩
    ·exact c6 j h (by omega)⟩,by omega⟩
  ·refine ao ?_;refine K.du 0 rfl (by omega) ?_;refine ao ?_;apply K.cond<;>intro g5
   ·refine ao ?_;exact⟨k+1,bp,⟨a8,by omega,fun j h aP=>by
     by_cases fL:j=k
     ·subst fL;exact⟨fun _=>by omega,fun _=>by omega⟩
     ·exact c6 j h (by omega)⟩,by omega⟩
   ·refine ao ?_;exact⟨⟨false,rfl,bad fun h=>by have:=h.2 (by omega);omega⟩,cf⟩
 ·refine ao ?_;exact⟨⟨true,rfl,by simp only[true_iff];exact aJ.2 ⟨by omega,by omega,fun j h=>c6 j h (by omega)⟩⟩,cf⟩
theorem ac0(xs:List Value)(m:o.Model)(v:Value)(s:List Int)(w:World)(dM:o.h6 w xs (o.layout m))(bP:o.gF m)(aw:gu w v s)(aN:s.length=o.eA m) :
  bw Tryz.prog F.Bi #[.agg xs.toArray,v] w fun u w'=>(∃t:Bool,u = .bool t∧(t=true↔∀i (h:i<s.length) (bB:i<(o.b4 m).length),(o.b4 m)[i].bk≤s[i]∧s[i]≤(o.b4 m)[i].ad))∧Ext w w':=by
 obtain⟨km,d0,k4,d1,k5,d2,mV,d3,mc,d4,rfl,hd,fP,gI,hQ,kh⟩:=dM.form;obtain⟨e4,gN,rfl,fA⟩:=aw.form;have Od:(o.layout m).cells=(o.eA m:Int):=rfl;have f2:=o.QT m;have f3:=o.QR m;have u2:o.eA m≤64:=o.mO bP;have Px:(o.b4 m).length=s.length:=aN.symm;refine bO E.Bi ?_;refine bH ?_;refine ao ?_;intro ar bz cN aE al;have oW:=al;clear al;replace aw:=aw.ext Flat.ext aE;replace hQ:=hQ.ext Flat.ext aE;replace kh:=kh.ext Flat.ext aE;refine ao ?_;refine K.cV 5 s.length [1,2] (fun _:Unit=>[]) () (fun k _ W=>Ext ar W∧∀j (h:j<s.length) (bB:j<(o.b4 m).length),j<k→(o.b4 m)[j].bk≤s[j]∧s[j]≤(o.b4 m)[j].ad) bp bp ⟨Ext.refl _,fun j _ _ h=>absurd h (Nat.not_lt_zero _)⟩ ?_;rintro k _ S aW hk ⟨aF,c6⟩;have al:=aF.obj oW;refine ao ?_;apply K.cond<;>intro g3
 ·have bd:k<s.length:=by omega
  have kT:k<(o.b4 m).length:=by omega
  have dK:(o.layout m).bk[k]'(by omega)=(o.b4 m)[k].bk:=o.QS _ kT;have ed:(o.layout m).ad[k]'(by omega)=(o.b4 m)[k].ad:=o.QQ _ kT;obtain⟨wL,rfl⟩:=aw.addr (by omega);obtain⟨a3,rfl⟩:=hQ.addr (by omega);obtain⟨a4,rfl⟩:=kh.addr (by omega);have bad:¬((o.b4 m)[k].bk≤s[k]∧s[k]≤(o.b4 m)[k].ad)→(false=true↔∀i (h:i<s.length) (bB:i<(o.b4 m).length),(o.b4 m)[i].bk≤s[i]∧s[i]≤(o.b4 m)[i].ad):=fun h=>by
   simp only[Bool.false_eq_true,false_iff];exact fun cR=>h (cR k bd kT)
  have aZ:=aE.trans aF;refine ao ?_;apply K.cond<;>intro g4
  ·refine ao ?_;intro bh av;refine ao ?_;exact⟨⟨false,rfl,bad (by omega)⟩,aZ.trans av⟩
  refine ao ?_;intro bh av;apply K.cond<;>intro g5
  ·refine ao ?_;exact⟨⟨false,rfl,bad (by omega)⟩,aZ.trans av⟩
  refine ao ?_;refine⟨bd,bq,(),trivial,aF.trans av,fun j h bB aP=>?_⟩;by_cases fL:j=k
  ·subst fL;omega
  ·exact c6 j h bB (by omega)
 ·refine ao ?_;exact⟨⟨true,rfl,by simp only[true_iff];exact fun j h bB=>c6 j h bB (by omega)⟩,aE.trans aF⟩
theorem acw(cs xs:List Value)(m:o.Model)(v:Value)(s:List Int)(w:World)(h:o.eh w cs m)(dM:o.h6 w xs (o.layout m))(bP:o.gF m)(aw:gu w v s) :
  bw Tryz.prog F.Be #[.agg cs.toArray,.agg xs.toArray,v] w fun u w'=>(∃t:Bool,u = .bool t∧(t=true↔o.Fits m s))∧Ext w w':=by
 have gg:=h;have rK:=dM;obtain⟨cG,bR,cu,c1,cA,c2,cw,bN,cP,bX,rfl,ak,h1,U,ai,aL,et,dY,eg,dK,ed⟩:=h.form;obtain⟨km,d0,k4,d1,k5,d2,mV,d3,mc,d4,rfl,hd,fP,gI,hQ,kh⟩:=dM.form;obtain⟨e4,gN,rfl,fA⟩:=aw.form;have Od:(o.layout m).cells=(o.eA m:Int):=rfl;have u2:o.eA m≤64:=o.mO bP;have hp:=bP.hp;refine bO E.Be ?_;refine bH ?_;refine ao ?_;intro ar bz cN aE al;refine ao ?_;intro aW ch en aF aO;replace al:=aF.obj al;have aZ:=aE.trans aF;replace aw:=aw.ext Flat.ext aZ;refine ao ?_;apply K.cond<;>intro g1;rotate_left
 ·refine ao ?_;exact⟨⟨false,rfl,by simp only[Bool.false_eq_true,false_iff];intro h;have:=h.len;omega⟩,aZ⟩
 have aN:s.length=o.eA m:=by omega
 have oW:=al;have zZ:=aO;clear al aO;refine ao ?_;refine K.cV 7 m.aK.length [2,3,4] (fun _:Unit=>[]) () (fun k _ W=>Ext aW W∧∀j (h:j<m.aK.length),j<k→o.nM m.scalars m.aK[j] (o.s6 m j m.aK[j] s)) bp bp ⟨Ext.refl _,fun j _ h=>absurd h (Nat.not_lt_zero _)⟩ ?_;rintro k _ S bh hk ⟨av,c6⟩;have al:=av.obj oW;have aO:=av.obj zZ;have bJ:=aZ.trans av;have p0:=aw.ext Flat.ext av;refine ao ?_;apply K.cond<;>intro g2
 ·have bd:k<m.aK.length:=by omega
  obtain⟨jK,jJ⟩:=o.w4 bd;have vg:=o.zb bd;have hs:=o.qu m;have oX:=(bP.chan _ (List.getElem_mem bd)).cap;obtain⟨dF,rfl⟩:=fP.addr (by omega);obtain⟨a2,rfl⟩:=U.addr (by omega);have ahh:=fP.ext Flat.ext bJ;have ev:=((U.at k bd).cells).ext bJ;refine ao ?_;refine K.yk (k:=.i64) (k':=.i64) (o.gx m k) (o.gx m k+(1+m.aK[k].cap.toNat)) p0 (by simp[eS,ca,jJ]) (by simp[eS,ca,jJ];omega) (by omega) (by omega) fun aj c bg=>?_;rw[show o.gx m k+(1+m.aK[k].cap.toNat) - o.gx m k=1+m.aK[k].cap.toNat from by omega] at bg ⊢;replace bg:bE 1 (Flat eb) bh (.slice aj (1+m.aK[k].cap.toNat) c) (o.s6 m k m.aK[k] s):=bg;refine ao ?_;refine K.fj (.bool (o.BF m.scalars m.aK[k] (o.s6 m k m.aK[k] s))) (fun w' e=>(acG _ m _ _ k w' (gg.ext (bJ.trans e)) bP bd (bg.ext Flat.ext e) bg.len.1.symm).mono fun u bW ⟨⟨t,aG,aJ⟩,he⟩=>⟨by rw[aG,o.acn aJ],he⟩) ?_;refine ao ?_;intro bj aH;refine K.c3 (fun aJ=>?_) (fun aJ=>?_)
  ·refine ao ?_;refine⟨bd,bq,(),trivial,av.trans aH,fun j h aP=>?_⟩;by_cases fL:j=k
   ·subst fL;exact o.Jd.1 aJ
   ·exact c6 j h (by omega)
  ·refine ao ?_;exact⟨⟨false,rfl,by simp only[Bool.false_eq_true,false_iff];intro h;have:=o.Jd.2 (h.queue k bd);rw[aJ] at this;cases this⟩,bJ.trans aH⟩
 ·refine ao ?_;refine K.call (ac0 _ m _ s bh (rK.ext bJ) bP p0 aN) ?_;rintro _ bj ⟨⟨t,rfl,aG⟩,aH⟩;refine ao ?_;exact⟨⟨t,rfl,aG.trans ⟨fun h=>⟨aN,fun j aP=>c6 j aP (by omega),h⟩,fun h=>h.cell⟩⟩,bJ.trans aH⟩
end Go.Proofs.R
end
section
namespace bn
open Go Go.RowKit
def kX(l:List Int):List Value:=l.map (Value.int .i64)
theorem Qi(l:List Int):(kX l).length=l.length:=by simp[kX]
theorem Qj{l:List Int}{d j:Nat}{x:Int}(aP:j=d)(h:j<(kX l).toArray.size):(kX l).toArray.set j (.int .i64 x) h=(kX (l.set d x)).toArray:=by
 subst aP;simp[kX,List.map_set]
theorem ae3(n:Nat):oI (Value.int .i64 0).cells (n*1)=(kX (List.replicate n 0)).toArray:=by
 apply Array.ext_getElem?;intro i;by_cases h:i<n
 ·simp[oI,kX,Value.cells,h,Nat.mod_one]
 ·simp[oI,kX,h]
theorem K.Rb{cI:Value→World→Prop}{w:World}{e:TypeId}{n:Int}{t}(N:Nat)(aM:n=N)(aA:N≤1000000)(hk:∀ar b,w.heap.size≤b→Ext w ar→ar.heap[b]? = some (.cells (kX (List.replicate N 0)).toArray e)→cI (.slice (some ⟨b,0,none⟩) N N) ar) :
  wv e 1 8 (.int .i64 0) (.int .i64 n) (.int .i64 n) w cI t:=by
 subst aM;refine K.o7 ⟨by omega,by omega,by omega,by omega⟩ ?_;have h:=hk (w.alloc (.cells (kX (List.replicate N 0)).toArray e)) _ (Nat.le_refl _) ((Ext.refl w).alloc _) (heap_alloc_new w _);rw[Int.toNat_natCast,ae3];exact h
theorem Iu:∀l:List Int,kX l=l.flatMap eb
 | []=>rfl
 | x :: r=>by
  have:=Iu r
  simp only[kX,List.map_cons,List.flatMap_cons] at this ⊢;rw[this];rfl
theorem vM{w:World}{b n:Nat}{e:TypeId}{l:List Int}(h:w.heap[b]? = some (.cells (kX l).toArray e))(aM:n=l.length)(hm:l.length≤maxLen):bE 1 (Flat eb) w (.slice (some ⟨b,0,none⟩) n n) l :=
 bE.aR (enc:=eb) (fun _=>rfl) (by rw[h,Iu]) aM hm fun _ _ _ h=>h
end bn
namespace Go.Proofs.R
open Go Go.RowKit bn
def rl(w:World)(a:Addr)(l:List Int):Prop := ∃v,w.cell? a=some v∧gu w v l
theorem rl.ext(w w':World)(a:Addr)(l:List Int)(he:Ext w w')(h:rl w a l):rl w' a l:=let ⟨v,h1,U⟩:=h; ⟨v,he.cell h1,U.ext Flat.ext he⟩
abbrev oM(w:World)(v:Value)(l:List (List Int)):Prop:=bE 1 rl w v l
theorem acB(cs ys:List Value)(v:Value)(m:o.Model)(s:List Int)(p:Nat)(w:World)(h:o.eh w cs m)(aX:m.cM)(bP:o.gF m)(dM:o.h6 w ys (o.layout m))(aw:gu w v s)(aI:o.Fits m s)(bg:p<m.procs.length) :
  bw Tryz.prog F.Bg #[.agg cs.toArray,.agg ys.toArray,v,.int .i64 p] w fun u w'=>br eb T.a 1 w.heap.size w' u (o.ho m s p m.procs[p].cq (o.insts m).length)∧Ext w w':=by
 have gg:=h;obtain⟨cG,bR,cu,c1,cA,c2,cw,bN,cP,bX,rfl,ak,h1,U,ai,aL,et,dY,eg,dK,ed⟩:=h.form;obtain⟨km,d0,k4,d1,k5,d2,mV,d3,mc,d4,rfl,hd,fP,gI,hQ,kh,fN,da,cZ,fr⟩:=dM.form;obtain⟨e4,gN,rfl,fA⟩:=aw.form;have hlen:=aI.len;have u2:o.eA m≤64:=o.mO bP;have qK:(o.insts m).length≤30:=by have:=o.tF m;have:=bP.procs;omega
 have c4:=bP.proc _ (List.getElem_mem bg);have Py:=c4.cq;obtain⟨f6,f7,f8⟩:=o.IE m;obtain⟨a,rfl⟩:=ai.addr (by omega);obtain⟨lC,cF,ei,dR,eO,jN⟩:=ai.at p bg;refine bO E.Bg ?_;refine bH ?_;refine ao ?_;intro ar bz cN aE al;refine ao ?_;intro aW ch en aF aO;replace al:=aF.obj al;have aZ:=aE.trans aF;replace dR:=dR.ext aZ;unfold o.dx.enc at dR;refine ao ?_;refine K.Rb m.procs[p].cq.toNat (by omega) (by omega) ?_;intro bh sW XD av lv;rw[←o.Nb m s p] at lv;replace al:=av.obj al;replace aO:=av.obj aO;have bJ:=aZ.trans av;have z2:=aZ.size;clear dR;refine ao ?_;refine K.call (EG _ m bh (gg.ext bJ) aX) ?_;rintro cB nD ⟨fv,qI⟩;obtain⟨fw,ci,rfl,_⟩:=fv.form;replace aO:=qI.obj aO;replace lv:=qI.obj lv;have jR:sW≠ch:=by
  intro e;subst e;rw[aO] at lv;injection lv with lv;injection lv with _ lv;revert lv;decide
 have YJ:∀{W},Mod (fun k=>k=sW) nD W→dZ [T.a] nD W:=fun h=>dZ.mod h fun k c t ay a=>by
  subst a;rw[lv] at ay;injection ay with ay;injection ay with _ ay;rw[←ay];simp
 have Hy:∀{W:World},Mod (fun k=>k=sW) nD W→pt W (.slice fw (o.insts m).length ci) (o.insts m):=fun k=>br.lI (enc:=o.eL.enc) (fun _=>rfl) (fv.ij (YJ k) (by decide));have hZ:∀{W},Mod (fun k=>k=sW) nD W→W.heap[ch]? = nD.heap[ch]? := fun h=>h.block _ (cL aO) (Ne.symm jR);have gO:∀{W},Mod (fun k=>k=sW) nD W→Ext aW W:=fun h=>h.ext (av.trans qI) fun i ad e=>by omega
 rw[aO] at hZ;clear al aO;refine ao ?_;refine K.cV 11 (o.insts m).length [2,3,5,9,10] (fun _:Unit=>[]) () (fun k _ W=>Mod (fun i=>i=sW) nD W∧W.heap[sW]? = some (.cells (kX (o.ho m s p m.procs[p].cq k)).toArray T.a)) bp bp ⟨Mod.refl _ _,lv⟩ ?_;clear lv;rintro k _ S bj bd ⟨hm,lv⟩;have aO:=hZ hm;have fz:=Hy hm;have b5:=aZ.trans (gO hm);refine ao ?_;apply K.cond<;>intro g1
 ·have cp:k<(o.insts m).length:=by omega
  obtain⟨mq,rfl⟩:=fz.addr (by omega);have pY:=o.tG _ (List.getElem_mem cp);obtain⟨q,aJ,DU,nk⟩:=o.vu pY;have Ae:(o.insts m)[k]?.map (·.proc)=some (q:Int):=by rw[List.getElem?_eq_getElem cp,Option.map_some,DU]
  obtain⟨d,Aw,Yc⟩:=aI.loc cp aJ nk;obtain⟨kc,Ax⟩:=List.getElem?_eq_some_iff.1 Aw;obtain⟨agD,iy⟩:=o.xG cp;obtain⟨wL,rfl⟩:=aw.addr (by omega);obtain⟨a2,rfl⟩:=gI.addr (by omega);have mM:=aw.ext Flat.ext b5;have Jf:=gI.ext Flat.ext b5;refine ao ?_;apply K.cond<;>intro g2
  ·have Zj:q=p:=by omega
   subst Zj;have gk:d<m.procs[q].cq.toNat:=by omega
   have ov:=o.ru m s q m.procs[q].cq k;have HV:=o.y4 (m:=m) (s:=s) (p:=q) (k:=k) gk;have fK:=o.FX m s q d k;refine ao ?_;refine K.du (o.e3 m k) (by rw[iy]) (by rw[hlen];omega) ?_;refine ao ?_;have r0:gu bj (.slice (some ⟨sW,0,none⟩) m.procs[q].cq.toNat m.procs[q].cq.toNat) (o.ho m s q m.procs[q].cq k):=vM lv ov.symm (by rw[ov];unfold maxLen;omega);have Yd:d<(o.ho m s q m.procs[q].cq k).length:=by omega
   obtain⟨_,HW⟩:=List.getElem?_eq_some_iff.1 HV;refine K.du d Ax gk ?_;refine ao ?_;rw[HW];refine ao ?_;refine K.du d Ax gk ?_;refine ao ?_;refine K.st1 lv (by rw[List.size_toArray,Qi];omega) rfl fun bF eU cK=>?_;rw[Qj (Nat.mul_one _),←o.Na Ae Aw gk] at cK;refine ao ?_;exact⟨by omega,bq,(),trivial,hm.trans (eU.mod rfl),cK⟩
  ·refine ao ?_;refine⟨cp,bq,(),trivial,hm,?_⟩;rw[o.M9 (by rw[Ae];intro e;have:=Option.some.inj e;omega)];exact lv
 ·have vj:(o.insts m).length=k:=by omega
  refine ao ?_;exact⟨by rw[vj];exact br.low aZ.size (br.F1 _ lv XD (Iu _) (fun _=>rfl) (o.ru _ _ _ _ _).symm (by rw[o.ru];unfold maxLen;omega)),b5⟩
end Go.Proofs.R
end
section
namespace bn
open Go Go.RowKit
section
variable{P:Program}{cI:Value→World→Prop}{e:TypeId}{sz base:Nat}{w:World}{s x:Value}{xs ys:List (mZ sz)}
theorem K.M4{ty:TypeId}{b:Nat}{t}(aw:sM e sz base w s xs)(aD:bE sz (Flat qA) w x ys)(aA:(xs.length+ys.length)*b≤140737488355328)(ja:xs.length+ys.length≤maxLen)(ix:base≤w.heap.size)
  (hk:∀b7 w',sM e sz base w' b7 (xs++ys)→w.grownBy w' s.ownBlock→cI b7 w'):jZ P ty e sz b s x w cI t:=by
 obtain⟨bf,cap,rfl,h1,U,ai,aL⟩:=aD.ex;cases bf with
 | some a=>exact K.uI aw td (bE.flat td (fun _ _ h=>h) ⟨some a,cap,rfl,h1,U,ai,aL⟩) rfl GC aA ja ix fun b7 w' bt bM _=>hk b7 w' bt bM
 | none =>
  have:ys=[]:=Classical.byContradiction fun aM=>by have:=ai aM;cases this
  subst this;rw[List.append_nil] at hk;refine K.app fun⟨aG,i,z,ad,bK,xz,xl,vt,D0⟩=>?_;refine⟨ty,s,w,?_,hk s w aw ⟨rfl,rfl,rfl,Nat.le_refl _,fun _ _ _=>rfl⟩⟩;rcases aw.2 with ⟨rfl,ak⟩ | ⟨g,cap,cur,rfl,_,_,xu,_⟩
  ·simp[Builtin.append_,run_underlying aG,Go.sizeOf,typeInfo,ad,Builtin.lenOf,Builtin.firstCells]
  ·simp[Builtin.append_,run_underlying aG,Go.sizeOf,typeInfo,ad,Builtin.lenOf,Builtin.firstCells,xu,storeCells]
end
end bn
end
section
namespace bn
open Go Go.RowKit
structure aff{α:Type}(C:World→List Value→α→Prop)(e:TypeId)(sz base:Nat)(v:Value)(w0 ws:World)(xs:List α)(k:Nat)(x:List (mZ sz))(W:World):Prop where
 m:Mod (fun i=>v.ownBlock=some i) ws W
 aR:∀i,v.ownBlock=some i→base≤i∧i<ws.heap.size∧∃cur,ws.heap[i]? = some (.cells cur e)
 len:x.length=xs.length
 own:sM e sz base W v x
 new:∀i (h1:i<x.length) (U:i<xs.length),i<k→fu (fun j=>j<ws.heap.size) (fun w=>C w x[i].1 xs[i]) W
 jx:∀i (h1:i<x.length) (U:i<xs.length),k≤i→C w0 x[i].1 xs[i]
theorem K.Vv{α:Type}{P:Program}{cI:Value→World→Prop}{R:World→Addr→α→Prop}{C:World→List Value→α→Prop}{e:TypeId}{sz:Nat}[Rel R C sz]{w0 w lL:World}{x:Value}{xs:List α}{ty:TypeId}{b uK:Nat}{t}
  (aD:bE sz R w0 x xs)(dJ:Ext w0 w)(Dt:w.heap.size≤uK)(vd:Ext w lL)(Dy:lL.heap[uK]? = some (.cells #[] e))(aI:∀{w w':World} {cs x},C w cs x→C w' cs x)(aA:xs.length*b≤140737488355328)
  (hk:∀bf c w',ea w (fun w=>bE sz R w (.slice bf xs.length c) xs) w'→Ext w w'→Mod (fun i=>i=uK) lL w'→cI (.slice bf xs.length c) w'):jZ P ty e sz b (.slice (some ⟨uK,0,none⟩) 0 0) x lL cI t:=by
 obtain⟨eE,aN,nr,j5⟩:=aD.cells;have a1:sM e sz w.heap.size lL (.slice (some ⟨uK,0,none⟩) 0 0) []:=br.empty Dt Dy;have hm:eE.length≤maxLen:=by obtain⟨_,_,_,h1,U,_⟩:=nr.ex;omega
 refine K.M4 a1 (bE.ext Flat.ext (dJ.trans vd) nr) (by rw[List.length_nil,Nat.zero_add,aN];exact aA) (by rw[List.length_nil,Nat.zero_add];exact hm) vd.size fun b7 w' mK aX=>?_;rw[List.nil_append] at mK;have aM:ea w (fun w=>bE sz R w b7 xs) w':=ea.clone (R:=R) aN mK aI fun i h1 U=>aI (j5 i h1 U);obtain⟨bf,c,rfl,_⟩:=aM.here.form;exact hk bf c w' aM (br.jo a1 vd aX (Nat.le_refl _)) (Mod.grown (A:=fun i=>i=uK) aX fun k q=>by injection q with q;exact q.symm)
end bn
end
section
namespace Go.Proofs.R
open Go Go.RowKit bn
def Cz(w:World)(cs:List Value)(l:List Int):Prop := ∃v,cs=[v]∧gu w v l
instance agY:Rel rl Cz 1 where
 out h:=by
  obtain⟨v,h1,U⟩:=h;exact⟨[v],fun j u aP=>by cases j with | zero=>simp at aP;subst aP;rw[add_zero];exact h1 | succ j=>simp at aP,v,rfl,U⟩
 nw h k:=by
  obtain⟨v,rfl,k⟩:=k
  have:=h 0 v rfl
  rw[add_zero] at this;exact⟨v,this,k⟩
 len h:=by obtain⟨v,rfl,_⟩:=h;rfl
 one h:=by obtain⟨v,rfl,h⟩:=h;simpa using h.one
 ext e h:=let ⟨v,h1,U⟩:=h; ⟨v,h1,U.ext Flat.ext e⟩
def Ty(_:World)(cs:List Value)(x:Int):Prop:=cs=eb x
instance agX:Rel (Flat eb) Ty 1 where
 out h:=⟨_,h,rfl⟩
 nw h k:=by cases k;exact h
 len h:=by cases h;rfl
 one h:=by cases h;exact lV _
 ext _ h:=h
theorem _root_.bn.Mod.own{A:Nat→Prop}{a b c:World}{v:Value}(h:Mod A a b)(aX:b.grownBy c v.ownBlock)(aS:∀k,v.ownBlock=some k→a.heap.size≤k):Mod A a c :=
 h.comp (Mod.grown (A:=fun k=>v.ownBlock=some k) aX fun k hk=>hk) (fun _ _ a=>a) fun i ad e=>by have:=aS i e;omega
structure re(w:World)(cs:List Value)(x:o.Env):Prop where
 ex:∃v0 v1 v2 v3,cs=[v0,v1,v2,v3,.int .i64 x.self]∧oM w v0 x.vars∧gu w v1 x.lens∧gu w v2 x.locals∧oM w v3 x.at_
end Go.Proofs.R
namespace o
open Go
theorem ES(m:Model)(s:List Int)(inst:Int):(db m s inst).vars.length=m.vars.length:=by simp[db]
theorem ER{m:Model}{s:List Int}{inst:Int}{k:Nat}(h:k<m.vars.length):(db m s inst).vars[k]? = some ((s.drop (fF m k)).take (cells m.vars[k] m.scalars).toNat):=by
 have e:(cT m)[k]!.length=(cells m.vars[k] m.scalars).toNat:=by
  have bB:k<(cT m).length:=by simpa[cT] using h
  rw[getElem!_pos (cT m) k bB];simp[cT,yv]
 simp only[db,List.getElem?_map,List.getElem?_range h,Option.map_some,e]
theorem EO(m:Model)(s:List Int)(inst:Int):(db m s inst).lens.length=m.aK.length:=by simp[db]
theorem Sy{m:Model}{s:List Int}{inst:Int}{k:Nat}(h:k<m.aK.length)(aw:gx m k<s.length):(db m s inst).lens[k]? = some s[gx m k]:=by
 simp only[db,List.getElem?_map,List.getElem?_range h,Option.map_some];rw[getElem!_pos s (gx m k) aw]
theorem EP{m:Model}{s:List Int}{inst:Int}(h:inst<0):(db m s inst).locals=[]∧(db m s inst).self=0:=by
 simp only[db,sy,ga (.inl h),and_self]
theorem BT{m:Model}(s:List Int){q n:Nat}(h:q<(insts m).length)(aM:n=(jO m (insts m)[q]).length - 1):(db m s q).locals=(s.drop (e3 m q+1)).take n∧(db m s q).self=(insts m)[q].elem:=by
 simp only[db,sy,iP (show(0:Int)≤q by omega) (show(q:Int)<(insts m).length by omega),Int.toNat_natCast,aM,and_self]
theorem JA(m:Model)(s:List Int)(inst:Int):(db m s inst).at_.length=m.procs.length:=by simp[db]
theorem Sx{m:Model}{s:List Int}{inst:Int}{k:Nat}(h:k<m.procs.length):(db m s inst).at_[k]? = some (ho m s k m.procs[k].cq (insts m).length):=by
 simp only[db,List.getElem?_map,List.getElem?_range h,Option.map_some,List.getElem?_eq_getElem h,Option.getD_some]
end o
namespace Go.Proofs.R
open Go Go.RowKit bn
theorem adf(cs ys:List Value)(v:Value)(m:o.Model)(s:List Int)(inst:Int)(w:World)(h:o.eh w cs m)(aX:m.cM)(bP:o.gF m)(dM:o.h6 w ys (o.layout m))(aw:gu w v s)(aI:o.Fits m s)(h1 : -1≤inst)(U:inst<(o.insts m).length) :
  bw Tryz.prog F.Bf #[.agg cs.toArray,.agg ys.toArray,v,.int .i64 inst] w fun u w'=>(∃es,u = .agg es.toArray∧ea w (fun w=>re w es (o.db m s inst)) w')∧Ext w w':=by
 have gg:=h;have rK:=dM;have PO:=aw;obtain⟨cG,bR,cu,c1,cA,c2,cw,bN,cP,bX,rfl,ak,h1,U,ai,aL,et,dY,eg,dK,ed⟩:=h.form;obtain⟨km,d0,k4,d1,k5,d2,mV,d3,mc,d4,rfl,hd,fP,gI,hQ,kh⟩:=dM.form;obtain⟨e4,gN,rfl,fA⟩:=aw.form;have hlen:=aI.len;have u2:o.eA m≤64:=o.mO bP;have hp:=bP.hp;have qK:(o.insts m).length≤30:=by have:=o.tF m;have:=bP.procs;omega
 refine bO E.Bf ?_;refine bH ?_;refine ao ?_;intro ar bz cN aE al;refine ao ?_;intro aW ch en aF aO;replace al:=aF.obj al;refine ao ?_;intro bh cE gh av bA;replace al:=av.obj al;replace aO:=av.obj aO;have bJ:=(aE.trans aF).trans av;refine ao ?_;refine K.call (EG _ m bh (gg.ext bJ) aX) ?_;rintro cB bj ⟨fv,aH⟩;obtain⟨fw,ci,rfl,_⟩:=fv.form;have fz:pt bj _ _:=br.lI (enc:=o.eL.enc) (fun _=>rfl) fv;replace al:=aH.obj al;replace aO:=aH.obj aO;replace bA:=aH.obj bA;have b5:=bJ.trans aH;refine ao ?_;intro bF eX XC a8 dd;have o3:∀{W},Ext bj W→W.heap[bz]? = _:=fun e=>e.obj al;have hZ:∀{W},Ext bj W→W.heap[ch]? = _:=fun e=>e.obj aO;have J7:=cL dd;have od:∀{W},Mod (fun i=>i=eX) bF W→Ext bj W:=fun h=>h.ext a8 fun i ad e=>by omega
 refine K.cV 11 m.vars.length [2,3,4,5,8,9,10] (fun _:gv=>[]) (none,0,0) (fun k v W=>(Mod (fun i=>i=eX) bF W∧W.heap[eX]? = some (.cells #[.slice v.1 v.2.1 v.2.2,.slice none 0 0,.slice none 0 0,.slice none 0 0,.int .i64 0] T.aj))∧fe Cz T.b 1 bF.heap.size W (.slice v.1 v.2.1 v.2.2) (((o.db m s inst).vars).take k)) bp bp ⟨⟨Mod.refl _ _,dd⟩,by simpa using fe.nil _ _ _ _ _⟩ ?_;clear dd;rintro k v S bV hk ⟨⟨ha,dd⟩,dH⟩;have al:=o3 (od ha);have aO:=hZ (od ha);have iq:=b5.trans (od ha);refine ao ?_;apply K.cond<;>intro g1
 ·have cp:k<m.vars.length:=by omega
  obtain⟨a,rfl⟩:=h1.addr (by omega);have fK:=o.s4 m.vars[k] m.scalars;have vg:=o.E5 cp;have hs:=o.qu m;obtain⟨fv,iy⟩:=o.yt cp;have ev:=((h1.at k cp).cells).ext iq;refine ao ?_;refine K.fj _ (fun w' e=>EF m.vars[k] _ m.scalars w' (ak.ext (iq.trans e))) ?_;refine ao ?_;intro cc bY;replace al:=bY.obj al;replace aO:=bY.obj aO;replace dd:=bY.obj dd;have dk:=dH.ext bY;have iF:=iq.trans bY;have hI:Mod (fun i=>i=eX) bF cc:=ha.trans bY.mod;have ih:=aw.ext Flat.ext iF;have Je:=hd.ext Flat.ext iF;obtain⟨a0,rfl⟩:=hd.addr (by omega);clear ev;refine ao ?_;intro dq cj;replace al:=cj.obj al;replace aO:=cj.obj aO;replace dd:=cj.obj dd;have gn:=dk.ext cj;have h4:=iF.trans cj;have hb:Mod (fun i=>i=eX) bF dq:=hI.trans cj.mod;have vp:=ih.ext Flat.ext cj;have ahg:=Je.ext Flat.ext cj;clear ih Je dH dk;refine ao ?_;refine K.yk (k:=.i64) (k':=.i64) (o.fF m k) (o.fF m k+(o.cells m.vars[k] m.scalars).toNat) vp (by simp[eS,ca,iy]) (by simp[eS,ca,iy];omega) (by omega) (by omega) fun aj c bg=>?_;refine ao ?_;intro dE iY kv cv eY;refine⟨cv,?_⟩;rw[show o.fF m k+(o.cells m.vars[k] m.scalars).toNat - o.fF m k=(o.cells m.vars[k] m.scalars).toNat from by omega] at bg ⊢;have r3:=o.ER (s:=s) (inst:=inst) cp;refine K.Vv bg (Ext.refl _) kv cv eY (fun h=>h) (by simp;omega) fun bf jG fl l4 cO _=>?_;refine⟨cO,?_⟩;refine ao ?_;intro gd sU zV fg ig;refine⟨cO.trans fg,?_⟩;have z58:=hb.size;have ahQ:=cO.size;have Ca:=fg.size;have nt:=gn.ext (cO.trans fg);have cb:(((o.db m s inst).vars).take k).length≤12:=by rw[List.length_take,o.ES];omega
  refine K.wI (x:=(s.drop (o.fF m k)).take (o.cells m.vars[k] m.scalars).toNat) (cs:=[.slice bf ((s.drop (o.fF m k)).take (o.cells m.vars[k] m.scalars).toNat).length jG]) nt (gM ig)
   (((ea.own l4 gn (by omega)).imp fun w h=>⟨_,rfl,h⟩).ext fg fun i ad hk=>by have:=gn.under (by omega) i hk;omega) rfl (by simp[Value.oneCell']) (by omega) (by unfold maxLen;omega) (by omega) fun b7 k3 ba tu=>?_
  have OY:=nt.box tu ((cO.trans fg).obj dd) (by decide);have om:=((hb.trans cO.mod).trans fg.mod).own tu fun q aJ=>(nt.lt q aJ).1;obtain⟨kf,mu,rfl,_⟩:=ba.form;clear dd l4 nt gn ig eY bg;refine ao ?_;intro nC hM hF;refine ao ?_;refine⟨cp,bq,(kf,_,mu),trivial,⟨om.trans (hM.mod rfl),hF⟩,?_⟩;rw[List.take_succ,r3];exact ba.wr hM J7
 have j9:m.vars.length=k:=by omega
 rw[List.take_of_length_le (by rw[o.ES];omega)] at dH;have lr:=dH.new (R:=rl);obtain⟨gK,k1,jG⟩:=v;have yC:=cL dd;have ue:=ha.size;have ae7:=od ha;have kN:∀{W},Mod (fun i=>i=eX) bV W→Ext bj W:=fun h=>od (ha.trans h);clear al aO dH;refine ao ?_;refine K.cV 13 m.aK.length [2,3,4,5,8,9,10] (fun _:gv=>[]) (none,0,0) (fun k v W=>(Mod (fun i=>i=eX) bV W∧W.heap[eX]? = some (.cells #[.slice gK k1 jG,.slice v.1 v.2.1 v.2.2,.slice none 0 0,.slice none 0 0,.int .i64 0] T.aj))∧br eb T.a 1 bV.heap.size W (.slice v.1 v.2.1 v.2.2) (((o.db m s inst).lens).take k)) bp bp ⟨⟨Mod.refl _ _,dd⟩,by simpa using br.nil _ _ _ _ _⟩ ?_;clear dd;rintro k v S cc hk ⟨⟨hI,dd⟩,dk⟩;have al:=o3 (kN hI);have aO:=hZ (kN hI);have iF:=b5.trans (kN hI);refine ao ?_;apply K.cond<;>intro g1
 ·have cp:k<m.aK.length:=by omega
  have vg:=o.zb cp;have hs:=o.qu m;obtain⟨fv,jJ⟩:=o.w4 cp;obtain⟨dF,rfl⟩:=fP.addr (by omega);obtain⟨T7,rfl⟩:=aw.addr (by omega);have ih:=aw.ext Flat.ext iF;have BG:=fP.ext Flat.ext iF;refine ao ?_;intro dq cj;replace aO:=cj.obj aO;replace dd:=cj.obj dd;have gn:=dk.ext cj;have hb:Mod (fun i=>i=eX) bV dq:=hI.trans cj.mod;have vp:=ih.ext Flat.ext cj;have acu:=BG.ext Flat.ext cj;clear ih BG dk al;refine ao ?_;refine K.du (o.gx m k) (by rw[jJ]) (by omega) ?_;refine ao ?_;intro dE iY kv cv eY;refine⟨cv,?_⟩;have fq:o.gx m k<s.length:=by omega
  have r3:=o.Sy (inst:=inst) cp fq;have YL:(((o.db m s inst).lens).take k).length≤12:=by rw[List.length_take,o.EO];omega
  have hK:=gn.ext cv;have J6:=hb.size;have Fo:=cv.size;refine K.kq (y:=s[o.gx m k]) hK eY rfl (fun _=>rfl) lV (by omega) (by unfold maxLen;omega) (by omega) fun bf n c fl mL l3=>?_;have XW:=hK.box l3 (cv.obj dd) (by decide);have ns:=(hb.trans cv.mod).own l3 fun q aJ=>(hK.lt q aJ).1;clear dd hK gn eY;refine ao ?_;intro gd hL ig;refine ao ?_;refine⟨cp,bq,(bf,n,c),trivial,⟨ns.trans (hL.mod rfl),ig⟩,?_⟩;rw[List.take_succ,r3];exact mL.mod (hL.mod (A:=fun i=>i=eX) rfl) fun q aJ e=>by have:=(mL.lt q aJ).1;omega
 have oi:m.aK.length=k:=by omega
 rw[List.take_of_length_le (by rw[o.EO];omega)] at dk;have OG:fu (fun i=>i<bF.heap.size) (fun w=>oM w (.slice gK k1 jG) (o.db m s inst).vars) cc:=lr.move hI (fun i _ e=>by omega) fun i _ e=>e;have zR:ea bV (fun w=>gu w (.slice v.1 v.2.1 v.2.2) (o.db m s inst).lens) cc:=br.new (fun _=>rfl) dk;clear lr;obtain⟨B5,jS,uP⟩:=v;have Tk:=cL dd;have z67:=hI.size;have ni:∀{W},Mod (fun i=>i=eX) cc W→Ext bj W:=fun h=>kN (hI.trans h);clear al aO dk;refine ao ?_;refine K.cV 14 m.procs.length [2,3,4,5,8,9,10] (fun _:gv=>[]) (none,0,0) (fun k v W=>(Mod (fun i=>i=eX) cc W∧W.heap[eX]? = some (.cells #[.slice gK k1 jG,.slice B5 jS uP,.slice none 0 0,.slice v.1 v.2.1 v.2.2,.int .i64 0] T.aj))∧fe Cz T.b 1 cc.heap.size W (.slice v.1 v.2.1 v.2.2) (((o.db m s inst).at_).take k)) bp bp ⟨⟨Mod.refl _ _,dd⟩,by simpa using fe.nil _ _ _ _ _⟩ ?_;clear dd;rintro k v S dq hk ⟨⟨hb,dd⟩,gn⟩;have al:=o3 (ni hb);have aO:=hZ (ni hb);have h4:=b5.trans (ni hb);refine ao ?_;apply K.cond<;>intro g1
 ·have cp:k<m.procs.length:=by omega
  refine ao ?_;intro dE cv;replace al:=cv.obj al;replace aO:=cv.obj aO;replace dd:=cv.obj dd;have hK:=gn.ext cv;have k8:=h4.trans cv;have hJ:Mod (fun i=>i=eX) cc dE:=hb.trans cv.mod;clear gn;refine ao ?_;refine K.call (acB _ _ _ m s k dE (gg.ext k8) aX bP (rK.ext k8) (PO.ext Flat.ext k8) aI cp) ?_;rintro _ fl ⟨l4,cO⟩;obtain⟨bf,jG,rfl,_⟩:=l4.form;replace l4:ea dE (fun w=>gu w (.slice bf (o.ho m s k m.procs[k].cq (o.insts m).length).length jG) (o.ho m s k m.procs[k].cq (o.insts m).length)) fl:=br.new (enc:=eb) (sz:=1) (fun _=>rfl) l4;refine⟨cO,?_⟩;have r3:=o.Sx (s:=s) (inst:=inst) cp;refine ao ?_;intro gd sU zV fg ig;refine⟨cO.trans fg,?_⟩;have z79:=hJ.size;have Fp:=cO.size;have Ca:=fg.size;have nt:=hK.ext (cO.trans fg);have cb:(((o.db m s inst).at_).take k).length≤12:=by rw[List.length_take,o.JA];have:=bP.procs;omega
  refine K.wI (x:=o.ho m s k m.procs[k].cq (o.insts m).length) (cs:=[.slice bf (o.ho m s k m.procs[k].cq (o.insts m).length).length jG]) nt (gM ig)
   (((ea.own l4 hK (by omega)).imp fun w h=>⟨_,rfl,h⟩).ext fg fun i ad hk=>by have:=hK.under (by omega) i hk;omega) rfl (by simp[Value.oneCell']) (by omega) (by unfold maxLen;omega) (by omega) fun b7 k3 ba tu=>?_
  have OY:=nt.box tu ((cO.trans fg).obj dd) (by decide);have om:=((hJ.trans cO.mod).trans fg.mod).own tu fun q aJ=>(nt.lt q aJ).1;obtain⟨kf,mu,rfl,_⟩:=ba.form;clear dd l4 nt hK ig;refine ao ?_;intro nC hM hF;refine ao ?_;refine⟨cp,bq,(kf,_,mu),trivial,⟨om.trans (hM.mod rfl),hF⟩,?_⟩;rw[List.take_succ,r3];exact ba.wr hM Tk
 have DM:m.procs.length=k:=by omega
 rw[List.take_of_length_le (by rw[o.JA];omega)] at gn;have OH:fu (fun i=>i<bF.heap.size) (fun w=>oM w (.slice gK k1 jG) (o.db m s inst).vars) dq:=OG.move hb (fun i _ e=>by omega) fun i _ e=>e;have OD:ea bV (fun w=>gu w (.slice B5 jS uP) (o.db m s inst).lens) dq:=zR.move hb (fun i _ e=>by omega) fun i _ e=>e;have rI:=gn.new (R:=rl);clear OG zR;obtain⟨Fa,IS,Gd⟩:=v;have ahO:=cL dd;have z78:=hb.size;have j6:∀{W},Mod (fun i=>i=eX) dq W→Ext bj W:=fun h=>ni (hb.trans h);clear gn;have h4:=b5.trans (j6 (Mod.refl _ _));have z3:=cL bA;have z45:=a8.size;have ahC:=(aE.trans aF).size;replace bA:=(j6 (Mod.refl _ _)).obj bA;refine ao ?_;apply K.cond<;>intro g2;rotate_left
 ·refine ao ?_;intro dE ow eY;refine ao ?_;obtain⟨dJ,bS⟩:=o.EP (m:=m) (s:=s) (inst:=inst) (by omega);refine⟨⟨_,rfl,fun W hW=>⟨_,_,_,_,by rw[bS],?_,?_,?_,?_⟩⟩,ow.ext h4 (by omega)⟩
  ·exact(OH.move (A':=fun i=>i<w.heap.size) (ow.mod (A:=fun i=>i=cE) rfl) (fun i _ e=>by omega) fun i _ e=>by omega) W hW
  ·exact(OD.move (A':=fun i=>i<w.heap.size) (ow.mod (A:=fun i=>i=cE) rfl) (fun i _ e=>by omega) fun i _ e=>by omega) W hW
  ·rw[dJ];exact bE.nil
  ·exact(rI.move (A':=fun i=>i<w.heap.size) (ow.mod (A:=fun i=>i=cE) rfl) (fun i _ e=>by omega) fun i _ e=>by omega) W hW
 ·obtain⟨q,rfl⟩:=Int.eq_ofNat_of_zero_le (show 0≤inst by omega);have aJ:q<(o.insts m).length:=by omega
  have vg:=o.Ip aJ;obtain⟨fv,iy⟩:=o.xG aJ;obtain⟨a2,rfl⟩:=gI.addr (by omega);have acv:=gI.ext Flat.ext h4;have al:=o3 (j6 (Mod.refl _ _));have aO:=hZ (j6 (Mod.refl _ _));obtain⟨mq,rfl⟩:=fz.addr (by omega);have Yy:=fz.ext Flat.ext (j6 (Mod.refl _ _));have pY:=o.tG _ (List.getElem_mem aJ);obtain⟨p,bg,fi,nk⟩:=o.vu pY;have G5:(o.jO m (o.insts m)[q]).length=1+m.procs[p].vars.length:=by rw[nk,o.vQ]
  obtain⟨a,rfl⟩:=ai.addr (by omega);obtain⟨lC,cF,ei,dR,eO,jN⟩:=ai.at p bg;obtain⟨Rs,NF,rfl,Q5⟩:=eO.form;obtain⟨Ro,Nq,rfl,QU⟩:=jN.form;replace dR:=dR.ext h4;unfold o.dx.enc at dR;refine ao ?_;refine K.du p fi bg ?_;refine ao ?_;intro S6 tp dE Yg;have cv:=tp.trans Yg;replace al:=cv.obj al;replace aO:=cv.obj aO;replace dd:=cv.obj dd;replace bA:=cv.obj bA;have k8:=h4.trans cv;have Zr:=aw.ext Flat.ext k8;have Fo:=cv.size;clear dR Yy acv;refine ao ?_;refine K.yk (k:=.i64) (k':=.i64) (o.e3 m q+1) (o.e3 m q+1+m.procs[p].vars.length) Zr (by simp[eS,ca,iy]) (by simp[eS,ca,iy]) (by omega) (by omega) fun aj c Av=>?_;rw[show o.e3 m q+1+m.procs[p].vars.length - (o.e3 m q+1)=m.procs[p].vars.length from by omega] at Av ⊢;obtain⟨eE,aN,nr,j5⟩:=Av.cells;have fK:eE.length≤64:=by rw[aN,List.length_take,List.length_drop];omega
  refine ao ?_;refine K.M4 (sz:=1) (base:=dE.heap.size) (br.nil _ _ _ _ _) nr (by rw[List.length_nil];omega) (by rw[List.length_nil];unfold maxLen;omega) (Nat.le_refl _) fun b7 fl mL l3=>?_;rw[List.nil_append] at mL;have l4:ea dE (fun w=>gu w b7 ((s.drop (o.e3 m q+1)).take m.procs[p].vars.length)) fl:=ea.clone (R:=Flat eb) aN mL (fun h=>h) fun i h1 U=>j5 i h1 U;have cO:Ext dE fl:=(Ext.refl _).grown l3 fun k hk=>by simp[Value.ownBlock] at hk
  replace aO:=cO.obj aO;replace dd:=cO.obj dd;replace bA:=cO.obj bA;have Fp:=cO.size;obtain⟨ol,cl,rfl,_⟩:=l4.here.form;clear al;refine ao ?_;intro gd hL ig;have xr:Mod (fun i=>i=eX) dq gd:=(cv.mod.trans cO.mod).trans (hL.mod rfl);have agi:=fz.ext Flat.ext (j6 xr);replace bA:=hL.obj bA (by omega);refine ao ?_;intro k3 kW kx;have om:Mod (fun i=>i=eX) dq k3:=xr.trans (kW.mod rfl);replace bA:=kW.obj bA (by omega);refine ao ?_;intro nC hM hF;refine ao ?_;obtain⟨dJ,bS⟩:=o.BT s aJ (n:=m.procs[p].vars.length) (by omega);have Ca:=hL.size;have Tj:=kW.size;refine⟨⟨_,rfl,fun W hW=>⟨_,_,_,_,by rw[bS];rfl,?_,?_,?_,?_⟩⟩,hM.ext (b5.trans (j6 om)) (by omega)⟩
  ·exact(OH.move (A':=fun i=>i<w.heap.size) (om.comp (B:=fun i=>i=eX∨i=cE) (hM.mod (A:=fun i=>i=cE) rfl) (fun i _ e=>.inl e) fun i _ e=>.inr e) (fun i _ e=>by omega) fun i _ e=>by omega) W hW
  ·exact(OD.move (A':=fun i=>i<w.heap.size) (om.comp (B:=fun i=>i=eX∨i=cE) (hM.mod (A:=fun i=>i=cE) rfl) (fun i _ e=>.inl e) fun i _ e=>.inr e) (fun i _ e=>by omega) fun i _ e=>by omega) W hW
  ·rw[dJ];exact((((l4.wr hL (by omega)).wr kW (by omega)).wr hM (by omega)).mono fun i _ e=>by omega) W hW
  ·exact(rI.move (A':=fun i=>i<w.heap.size) (om.comp (B:=fun i=>i=eX∨i=cE) (hM.mod (A:=fun i=>i=cE) rfl) (fun i _ e=>.inl e) fun i _ e=>.inr e) (fun i _ e=>by omega) fun i _ e=>by omega) W hW
end Go.Proofs.R
end
section
namespace o
open Go
theorem R2{f g:Node→List Int→Int×Int}{e:List Node}(h:∀k (hk:k<e.length) st,eJ f (e.take k) []=(0,st)→eI e[k].op≤st.length→f e[k] st=g e[k] st):∀n,n≤e.length→eJ f (e.take n) []=eJ g (e.take n) []
 | 0,_=>by simp[eJ]
 | n+1,aM=>by
  have eo:=R2 h n (by omega);by_cases ak:(eJ f (e.take n) []).1=0
  ·have bS:eJ f (e.take n) []=(0,(eJ f (e.take n) []).2):=Prod.ext ak rfl;have aZ:eJ g (e.take n) []=(0,(eJ f (e.take n) []).2):=by rw[←eo];exact bS
   rw[tY (by omega) bS,tY (by omega) aZ];exact ad4 fun _ aN=>by rw[h n (by omega) _ bS aN];exact⟨rfl,fun _=>rfl⟩
  ·rw[List.take_succ_eq_append_getElem (by omega),BJ,BJ,←eo,if_pos ak,if_pos ak]
theorem adh{f g:Node→List Int→Int×Int}{e:List Node}(h:∀k (hk:k<e.length) st,eJ f (e.take k) []=(0,st)→eI e[k].op≤st.length→f e[k] st=g e[k] st):jV f e=jV g e:=by
 have:=R2 h e.length (Nat.le_refl _)
 rw[List.take_length] at this;unfold jV;rw[this]
def oJ(s t:List Int)(l:List Int):Prop := ∀x∈l,s[x.toNat]? = t[x.toNat]?
theorem oJ.row{s t:List Int}{a n:Nat}(h:oJ s t (gb a n)){k:Nat}(hk:k<n):s[a+k]? = t[a+k]? := by
 have:=h ((a+k:Nat):Int) (yf.2 (by omega))
 rw[Int.toNat_natCast] at this;exact this
theorem oJ.one{s t:List Int}{a:Nat}(h:oJ s t (gb a 1)):s[a]? = t[a]? := h.row (k:=0) (by omega)
theorem oJ.sub{s t:List Int}{l r:List Int}(h:oJ s t l)(aw:∀x∈r,x∈l):oJ s t r:=fun x aD=>h x (aw x aD)
theorem adL{s t:List Int}{a n:Nat}(h:∀k,k<n→s[a+k]? = t[a+k]?):(s.drop a).take n=(t.drop a).take n:=by
 apply List.ext_getElem?;intro i;rw[List.getElem?_take,List.getElem?_take];split
 ·rw[List.getElem?_drop,List.getElem?_drop];exact h i ‹_›
 ·rfl
theorem S2{l r:List Int}{n:Int}(h:0≤n→l[n.toNat]? = r[n.toNat]?):fG l n=fG r n:=by
 unfold fG nth;by_cases ak:0≤n
 ·rw[if_pos ak,if_pos ak,h ak]
 ·rw[if_neg ak,if_neg ak]
theorem S3{s t:List Int}{a n:Nat}{k:Int}(h:0≤k→s[a+k.toNat]? = t[a+k.toNat]?):fG ((s.drop a).take n) k=fG ((t.drop a).take n) k:=by
 refine S2 fun ak=>?_;rw[List.getElem?_take,List.getElem?_take,List.getElem?_drop,List.getElem?_drop];split
 ·exact h ak
 ·rfl
theorem Ua{m:Model}{p:Int}{n j:Nat}(aP:j<n)(h:(insts m)[j]?.map (·.proc)=some p):((e3 m j:Nat):Int)∈lU m p n:=by
 unfold lU;refine List.mem_flatMap.2 ⟨j,List.mem_range.2 aP,?_⟩;rw[if_pos h,yg];exact List.mem_singleton.2 rfl
theorem Ub{m:Model}{s t:List Int}{p l:Int}{k:Nat}(h:oJ s t (lU m p k)):nX m s p l k=nX m t p l k:=by
 unfold nX;congr 1;refine List.filter_congr fun i ad=>?_;have ad:=List.mem_range.1 ad;by_cases bg:(insts m)[i]?.map (·.proc)=some p
 ·have:=h _ (Ua ad bg)
  rw[Int.toNat_natCast] at this;rw[this]
 ·simp[bg]
theorem Uc{m:Model}{s t:List Int}{p:Nat}{n:Int}{k:Nat}(h:oJ s t (lU m p k)):ho m s p n k=ho m t p n k:=by
 unfold ho;exact List.map_congr_left fun l _=>by rw[Ub h]
theorem adZ{m:Model}{s t:List Int}{inst:Int}{n:Nat}(h:s[gx m n]? = t[gx m n]?):(db m s inst).lens[n]? = (db m t inst).lens[n]? := by
 simp only[db,List.getElem?_map];cases ba:(List.range m.aK.length)[n]? with
 | none=>rfl
 | some i =>
  have:i=n:=by
   obtain⟨h1,U⟩:=List.getElem?_eq_some_iff.1 ba;rw[List.getElem_range] at U;exact U.symm
  subst this;simp only[Option.map_some,Option.some.injEq];rw[List.getElem!_eq_getElem?_getD,List.getElem!_eq_getElem?_getD,h]
theorem aaA{m:Model}{s t:List Int}{sc:Scope}{x:Node}{q:Nat}{inst top:Int}{own:Bool}(aS:sc.vars=m.vars)(aD:Cy sc x)(ad:inst=q∨(inst<0∧own=false))
  (a1:own=true→q<(insts m).length∧1≤(db m s inst).self∧top=(db m s inst).self)(h:oJ s t (e0 m q own x)):fC x (db m s inst) top=fC x (db m t inst) top:=by
 have Zs:(db m s inst).self=(db m t inst).self:=by
  simp only[db,sy];split<;>rfl
 unfold fC;by_cases h1:x.op=1
 ·rw[if_pos h1,if_pos h1]
 rw[if_neg h1,if_neg h1];by_cases U:x.op=2
 ·rw[if_pos U,if_pos U];obtain⟨fN,v,da,cZ⟩:=aD.var U;rw[aS] at da;obtain⟨fr,iO⟩:=List.getElem?_eq_some_iff.1 da;unfold e0 at h;rw[if_pos U] at h;have aM:∀s:List Int,nth (db m s inst).vars x.n=some ((s.drop (fF m x.n.toNat)).take (cells m.vars[x.n.toNat] m.scalars).toNat):=fun s=>by
   unfold nth;rw[if_pos fN,ER fr]
  rw[aM s,aM t];exact S3 fun _=>h.one
 rw[if_neg U,if_neg U];by_cases ai:x.op=3
 ·rw[if_pos ai,if_pos ai];obtain⟨fN,fr⟩:=aD.item ai;rw[aS] at fr;unfold e0 xI at h;rw[if_neg U,if_pos ai] at h;have aM:∀s:List Int,nth (db m s inst).vars x.n=some ((s.drop (fF m x.n.toNat)).take (cells m.vars[x.n.toNat] m.scalars).toNat):=fun s=>by
   unfold nth;rw[if_pos fN,ER fr]
  rw[aM s,aM t];cases own with
  | false =>
   simp only[Bool.false_eq_true,if_false] at h;rw[xQ fr] at h;rw[adL fun k hk=>h.row hk]
  | true =>
   simp only[if_true] at h;obtain⟨aJ,cu,cA⟩:=a1 rfl;have HS:inst=q:=by
    rcases ad with ad | ad
    ·exact ad
    ·cases ad.2
   subst HS;have Ay:(db m s q).self=(insts m)[q].elem:=(BT s aJ rfl).2;rw[Ay] at cu cA;rw[VO aJ] at h;have cR:=h.one;have e:∀s:List Int,nth ((s.drop (fF m x.n.toNat)).take (cells m.vars[x.n.toNat] m.scalars).toNat) (top - 1)=if (top - 1).toNat<(cells m.vars[x.n.toNat] m.scalars).toNat then s[fF m x.n.toNat+(insts m)[q].elem.toNat - 1]? else none:=fun s=>by
    unfold nth;rw[if_pos (by omega),List.getElem?_take,List.getElem?_drop];rw[show fF m x.n.toNat+(top - 1).toNat=fF m x.n.toNat+(insts m)[q].elem.toNat - 1 from by omega]
   simp only[e s,e t,cR]
 rw[if_neg ai,if_neg ai];by_cases aL:x.op=4
 ·rw[if_pos aL,if_pos aL];unfold e0 at h;rw[if_neg U,if_neg ai,if_pos aL] at h;rcases ad with rfl | ad
  ·by_cases aJ:q<(insts m).length
   ·rw[(BT s aJ rfl).1,(BT t aJ rfl).1];exact S3 fun _=>h.one
   ·have:nth (insts m) (q:Int)=none:=ga (.inr (by omega))
    simp only[db,sy,this]
  ·rw[(EP ad.1).1,(EP ad.1).1]
 rw[if_neg aL,if_neg aL];by_cases bM:x.op=6
 ·rw[if_pos bM,if_pos bM];unfold e0 at h;rw[if_neg U,if_neg ai,if_neg aL,if_pos bM] at h;exact S2 fun _=>adZ h.one
 rw[if_neg bM,if_neg bM];by_cases bt:x.op=5
 ·rw[if_pos bt,if_pos bt,Zs]
 rw[if_neg bt,if_neg bt];by_cases b6:x.op=7
 ·rw[if_pos b6,if_pos b6];unfold e0 at h;rw[if_neg U,if_neg ai,if_neg aL,if_neg bM,if_pos b6] at h;by_cases aM:0≤x.n
  ·rw[if_pos aM,if_pos aM];have bx:x.n.tdiv 16=((x.n.tdiv 16).toNat:Nat):=(Int.toNat_of_nonneg (Int.tdiv_nonneg aM (by omega))).symm;rw[bx] at h ⊢;have e:nth (db m s inst).at_ ((x.n.tdiv 16).toNat:Nat)=nth (db m t inst).at_ ((x.n.tdiv 16).toNat:Nat):=by
    unfold nth;rw[if_pos (by omega),if_pos (by omega),Int.toNat_natCast];simp only[db,List.getElem?_map];cases ba:(List.range m.procs.length)[(x.n.tdiv 16).toNat]? with
    | none=>rfl
    | some i =>
     have:i=(x.n.tdiv 16).toNat:=by
      obtain⟨h1,U⟩:=List.getElem?_eq_some_iff.1 ba;rw[List.getElem_range] at U;exact U.symm
     subst this;simp only[Option.map_some,Option.some.injEq];exact Uc h
   rw[e]
  ·rw[if_neg aM,if_neg aM]
 ·rw[if_neg b6,if_neg b6]
def pb(m:Model)(e:List Node):List Int:=e.flatMap (e0 m 0 false)
theorem V7{m:Model}{s t:List Int}{sc:Scope}{e:List Node}(aS:sc.vars=m.vars)(he:wo sc e)(h:oJ s t (pb m e)):eval e (db m s (-1))=eval e (db m t (-1)):=by
 refine adh fun k hk st mN _=>?_;unfold hC;cases fS e[k].op with
 | some aj=>rfl
 | none=>exact aaA (q:=0) (own:=false) aS (he.node k hk).1 (.inr ⟨by omega,rfl⟩) (fun h=>by cases h) (h.sub fun x aD=>List.mem_flatMap.2 ⟨_,List.getElem_mem hk,aD⟩)
theorem CY{m:Model}(h:(check m).cY=0):(data m).cY=0∧(jU m).cY=0∧(ma m).cY=0:=by
 unfold check at h;by_cases h1:(data m).cY≠0
 ·rw[if_pos h1] at h;exact absurd h h1
 rw[if_neg h1] at h;by_cases U:(jU m).cY≠0
 ·rw[if_pos U] at h;exact absurd h U
 rw[if_neg U] at h;exact⟨by simpa using h1,by simpa using U,h⟩
def kZ:List Bool→Nat
 | []=>0
 | b :: r=>b.toNat+2*kZ r
theorem IM:∀l:List Bool,kZ l<2 ^ l.length
 | []=>Nat.one_pos
 | b :: r=>by
  have eo:=IM r;have aA:b.toNat≤1:=by cases b<;>decide
  simp only[kZ,List.length_cons,Nat.pow_succ];omega
theorem IL:∀(l:List Bool) (b:Bool),kZ (l++[b])=kZ l+b.toNat*2 ^ l.length
 | [],b=>by simp[kZ]
 | c :: r,b=>by
  have eo:=IL r b;simp only[List.cons_append,kZ,eo,List.length_cons,Nat.pow_succ];rw[Nat.mul_add,←Nat.mul_assoc,Nat.mul_comm (b.toNat) (2 ^ r.length*2),Nat.mul_comm (2*b.toNat),Nat.mul_comm (2 ^ r.length) 2];rw[Nat.mul_comm 2 (2 ^ r.length),Nat.mul_assoc,←Nat.add_assoc]
theorem aaR(l:List Bool):kZ l ||| 2 ^ l.length=kZ (l++[true]):=by
 rw[IL,Nat.or_comm];have h:=Nat.two_pow_add_eq_or_of_lt (IM l) 1;rw[Nat.mul_one] at h;rw[←h];simp[Nat.add_comm]
theorem aaS(l:List Bool):kZ l=kZ (l++[false]):=by rw[IL];simp
theorem Q8:∀(l:List Bool) (k:Nat),k≤l.length→kZ l % 2 ^ k=kZ (l.take k)
 | l,0,_=>by simp[kZ,Nat.mod_one]
 | [],k+1,h=>by simp at h
 | b :: r,k+1,h=>by
  have eo:=Q8 r k (by simpa using h);have aA:b.toNat<2:=by cases b<;>decide
  simp only[kZ,List.take_succ_cons];rw[Nat.pow_succ,Nat.mul_comm (2 ^ k) 2,Nat.mod_mul,Nat.add_mul_mod_self_left,Nat.mod_eq_of_lt aA,Nat.add_mul_div_left _ _ (by decide:0<2),Nat.div_eq_of_lt aA,Nat.zero_add,eo]
def sB(m:Model)(s:List Int)(e:List Node):Bool:=decide ((eval e (db m s (-1))).2=0∧(eval e (db m s (-1))).1≠0)
def q7(m:Model)(s:List Int):List Bool:=m.props.map fun p=>sB m s p.expr
def told(m:Model)(s:List Int):Nat:=kZ (q7 m s)
def kk(m:Model)(s:List Int)(k:Nat):Nat:=kZ ((q7 m s).take k)
theorem JJ(m:Model)(s:List Int):(q7 m s).length=m.props.length:=by simp[q7]
theorem JN(m:Model)(s:List Int):kk m s m.props.length=told m s:=by
 unfold kk told;rw[List.take_of_length_le (by rw[JJ];exact Nat.le_refl _)]
theorem SK{m:Model}{s:List Int}{k:Nat}(h:k<m.props.length):kk m s (k+1)=if sB m s m.props[k].expr then kk m s k ||| 2 ^ k else kk m s k:=by
 have aN:k<(q7 m s).length:=by rw[JJ];exact h
 have hk:((q7 m s).take k).length=k:=by rw[List.length_take];omega
 have aX:(q7 m s)[k]=sB m s m.props[k].expr:=by simp[q7]
 unfold kk;rw[List.take_succ_eq_append_getElem aN,aX];cases sB m s m.props[k].expr with
 | true =>
  rw[if_pos rfl,←aaR,hk]
 | false =>
  rw[if_neg (by simp),←aaS]
theorem JO(m:Model)(s:List Int)(k:Nat):kk m s k<2 ^ k:=by
 refine Nat.lt_of_lt_of_le (IM _) (Nat.pow_le_pow_right (by decide) ?_);rw[List.length_take];omega
theorem SM(m:Model)(s:List Int):told m s<2 ^ m.props.length:=by rw[←JN];exact JO m s _
theorem aeg{m:Model}{s:List Int}{k:Nat}(h:k≤m.props.length):told m s % 2 ^ k=kk m s k:=by
 unfold told kk;rw[Q8 _ _ (by rw[JJ];exact h)]
noncomputable def fE(m:Model)(s:List Int):Nat×Int:=open Classical in if (check m).cY≠0 then (0,2) else if Fits m s then (told m s,0) else (0,3)
def hq(m:Model)(k:Nat):Model:=⟨m.scalars,m.vars,m.aK,m.procs,m.props.take k⟩
theorem Qe(m:Model)(k:Nat):∀(l:List dx) (i:Nat),jc (hq m k) l i=jc m l i
 | [],_=>rfl
 | p :: r,i=>by
  have eo:=Qe m k r (i+1);simp only[jc];rw[eo];rfl
theorem Qh(m:Model)(k:Nat):insts (hq m k)=insts m:=Qe m k m.procs 0
theorem P6(m:Model)(k:Nat):eB (hq m k)=eB m:=by
 unfold eB;rw[Qh];rfl
theorem QM(m:Model)(k:Nat):b4 (hq m k)=b4 m:=by
 unfold b4;rw[P6];rfl
theorem ZO(m:Model)(k i:Nat):e3 (hq m k) i=e3 m i:=by
 unfold e3;rw[P6];rfl
theorem adY(m:Model)(k:Nat)(s:List Int)(i:Int):db (hq m k) s i=db m s i:=by
 unfold db sy ho nX;simp only[Qh,ZO];rfl
theorem aei(m:Model)(s:List Int)(k:Nat):told (hq m k) s=kk m s k:=by
 unfold told kk q7;rw[←List.map_take];show kZ (List.map (fun p=>sB (hq m k) s p.expr) (m.props.take k))=_;congr 2;funext p;unfold sB;rw[adY]
theorem WH{m:Model}{s:List Int}{k:Nat}(h:Fits m s):Fits (hq m k) s:=by
 refine⟨by unfold eA;rw[QM];exact h.len,h.queue,?_⟩;rw[QM];exact h.cell
theorem aa3{m:Model}{k j:Nat}(h:j<k):mP (hq m k) j=mP m j:=by
 unfold mP En;have e:(hq m k).props.take j=m.props.take j:=by simp only[hq,List.take_take,Nat.min_eq_left (Nat.le_of_lt h)]
 rw[e];rfl
theorem Vi{m:Model}(h:(check m).cY=0){k:Nat}(hk:k≤m.props.length):(check (hq m k)).cY=0:=by
 obtain⟨h1,U,ai⟩:=CY h;have ba:=BB ai;have bS:data (hq m k)=data m:=rfl;have aZ:jU (hq m k)=jU m:=rfl;have aN:(hq m k).props.length=k:=by simp[hq];omega
 have hold:∀j,j<k→jn (hq m k) j=0:=fun j aP=>by
  have bJ:(hq m k).props[j]? = m.props[j]? := by simp[hq,List.getElem?_take,aP]
  have e:jn (hq m k) j=jn m j:=by
   unfold jn;rw[bJ,aa3 aP];rfl
  rw[e];exact ba j (by omega)
 unfold check;rw[bS,aZ,if_neg (by simpa using h1),if_neg (by simpa using U)];unfold ma;rw[aN,if_neg (by rw[lW hold];simp)];rfl
theorem BA{m:Model}(h:(check m).cY=0):m.props.length≤8:=by
 obtain⟨_,_,ai⟩:=CY h;have ba:=BB ai;refine Classical.byContradiction fun aM=>?_;have c9:=ba 8 (by omega);rw[zE (by omega),if_pos (by omega)] at c9;cases c9
theorem Ey{m:Model}(h:(check m).cY=0){j:Nat}(aP:j<m.props.length):wo (ik m) m.props[j].expr:=by
 obtain⟨_,_,ai⟩:=CY h;have c9:=BB ai j aP;rw[zE aP] at c9;refine Z6 (Classical.byContradiction fun aM=>?_)
 repeat' split at c9
 all_goals first | omega | (exact absurd c9 aM) | skip
 all_goals contradiction
theorem AJ{m:Model}{s:List Int}(h:¬(check m).cY=0):fE m s=(0,2):=by unfold fE;rw[if_pos h]
theorem tK{m:Model}{s:List Int}(h:(check m).cY=0)(aI:¬Fits m s):fE m s=(0,3):=by unfold fE;rw[if_neg (by simpa using h),if_neg aI]
theorem sa{m:Model}{s:List Int}(h:(check m).cY=0)(aI:Fits m s):fE m s=(told m s,0):=by unfold fE;rw[if_neg (by simpa using h),if_pos aI]
theorem aej{m:Model}{s t:List Int}(h:(check m).cY=0)(bD:∀p∈m.props,oJ s t (pb m p.expr)):told m s=told m t:=by
 unfold told q7;congr 1;refine List.map_congr_left fun p bg=>?_;obtain⟨j,aP,rfl⟩:=List.mem_iff_getElem.1 bg;unfold sB;rw[V7 (sc:=ik m) rfl (Ey h aP) (bD _ bg)]
def sr(m:Model):List Int:=m.props.flatMap fun p=>pb m p.expr
def iB(m:Model):List Bool:=if (check m).cY=0 then (List.range (eA m)).map fun(c:Nat)=>decide ((c:Int)∈sr m) else []
structure lh(n:Nat)(L:List Int)(aj:List Bool):Prop where
 len:aj.length=n
 at_:∀(c:Nat) (h:c<aj.length),aj[c]=decide ((c:Int)∈L)
theorem lh.start(n:Nat):lh n [] (List.replicate n false):=⟨by simp,fun c h=>by simp⟩
theorem lh.put{n c:Nat}{L:List Int}{aj:List Bool}(h:lh n L aj)(ay:c<n):lh n (L++[(c:Int)]) (aj.set c true):=by
 refine⟨by rw[List.length_set];exact h.len,fun d bx=>?_⟩;rw[List.length_set] at bx;rw[List.getElem_set];by_cases e:c=d
 ·subst e;simp
 ·rw[if_neg e,h.at_ d bx]
  have:¬(d:Int)=(c:Int):=by omega
  simp[this]
theorem lh.congr{n:Nat}{L nJ:List Int}{aj:List Bool}(h:lh n L aj)(e:∀x,x∈L↔x∈nJ):lh n nJ aj:=⟨h.len,fun c ay=>by rw[h.at_ c ay];exact decide_eq_decide.2 (e _)⟩
theorem lh.eq{n:Nat}{L:List Int}{aj o':List Bool}(h:lh n L aj)(bB:lh n L o'):aj=o':=by
 refine List.ext_getElem (by rw[h.len,bB.len]) fun c h1 U=>by rw[h.at_ c h1,bB.at_ c U]
theorem lh.Si{m:Model}{aj:List Bool}(hk:(check m).cY=0)(h:lh (eA m) (sr m) aj):aj=iB m:=by
 unfold iB;rw[if_pos hk];exact h.eq ⟨by simp,fun c ay=>by simp⟩
end o
end
section
namespace bn
open Go Go.RowKit
def qz(d:Nat):List Value:=[.int .u8 d]
theorem VR(d:Nat):∀u∈qz d,u.oneCell'=true:=by simp[qz,Value.oneCell']
def F6(l:List Nat):List Value:=l.map fun(d:Nat)=>Value.int .u8 (d:Int)
theorem F7:∀l:List Nat,F6 l=l.flatMap qz
 | []=>rfl
 | x :: r=>by
  have:=F7 r
  simp only[F6,List.map_cons,List.flatMap_cons] at this ⊢;rw[this];rfl
section
variable{P:Program}{ax:Value→Prop}{ty:TypeId}{cz cD:Operand}
theorem K.Ff{n:Int}{t}(x:Nat)(aM:n=x)(aD:x<18446744073709551616)(hk:ax (.int .u64 (x:Int))):lR .u64 n ax t:=by
 subst aM;exact K.Tf (IntWalk.u64_in _ (by omega)) hk
theorem K.acZ{x b:Nat}{k:IntKind}{t}(aA:1≤b)(hk:ax (.int k ((x % b:Nat):Int))):eW P .rem ty cz cD (.int k x) (.int k b) ax t:=by
 refine K.rem (by omega) ?_;rw[Int.tmod_eq_emod_of_nonneg (by omega),←Int.natCast_emod];exact hk
end
theorem K.acY{P:Program}{ax:Value→Prop}{ty:TypeId}{cz cD:Operand}{k:IntKind}{a b:Int}{t}(x y:Nat)(bD:a=x)(aA:b=y)(h1:1≤y)(hk:ax (.int k ((x % y:Nat):Int))):eW P .rem ty cz cD (.int k a) (.int k b) ax t:=by
 subst bD aA;exact K.acZ h1 hk
end bn
end
section
namespace o
open Go
def Env.x6:Env:=⟨[],[],[],[],0⟩
noncomputable def oa(m:Model)(s:List Int)(inst:Int):Env:=open Classical in if FI m s ∧ -1≤inst∧inst<(insts m).length then db m s inst else Env.x6
end o
namespace Go.Proofs.R
open Go Go.RowKit bn
theorem re.zero(w:World):re w [.slice none 0 0,.slice none 0 0,.slice none 0 0,.slice none 0 0,.int .i64 0] o.Env.x6:=⟨_,_,_,_,rfl,bE.nil,bE.nil,bE.nil,bE.nil⟩
end Go.Proofs.R
end
section
namespace o
open Go
def uU(x:Nat×Nat):List Value:=[.slice (some ⟨x.1,0,none⟩) x.2 x.2]
def np(m:Model)(bs:List Nat):List (Nat×Nat):=bs.zip (m.procs.map fun p=>p.cq.toNat)
theorem tq{m:Model}{bs:List Nat}(h:bs.length≤m.procs.length):(np m bs).length=bs.length:=by simp[np];omega
theorem Aa{m:Model}{bs:List Nat}{k:Nat}(h:k<bs.length)(bg:k<m.procs.length):(np m bs)[k]? = some (bs[k],m.procs[k].cq.toNat):=by
 simp[np,List.getElem?_zip_eq_some,h,bg]
theorem Yj{m:Model}{bs:List Nat}{b:Nat}(bg:bs.length<m.procs.length):np m (bs++[b])=np m bs++[(b,m.procs[bs.length].cq.toNat)]:=by
 apply List.ext_getElem?;intro i;by_cases h1:i<bs.length
 ·rw[Aa (by simp;omega) (by omega),List.getElem?_append_left (by rw[tq (by omega)];exact h1),Aa h1 (by omega)];simp[List.getElem_append_left h1]
 ·by_cases U:i=bs.length
  ·subst U;rw[Aa (by simp) bg,List.getElem?_append_right (by rw[tq (by omega)];exact Nat.le_refl _),tq (by omega)];simp
  ·rw[List.getElem?_eq_none (by rw[tq (by simp;omega)];simp;omega),List.getElem?_eq_none (by rw[List.length_append,tq (by omega)];simp;omega)]
end o
namespace Go.Proofs.R
open Go Go.RowKit bn
theorem P7(v:Value)(xs:List Int)(w:World)(h:gu w v xs)(aA:o.dW xs.length 8) :
  bw Tryz.prog F.c1 #[v] w fun b7 w'=>(∃bf c,b7 = .slice bf xs.length c)∧ea w (fun w=>gu w b7 xs) w'∧Ext w w' :=
 zj lz E.c1 (by kernel_rfl) (fun h=>h) v xs w h (by unfold o.dW at aA;omega)
structure k6(m:o.Model)(base:Nat)(bs:List Nat)(kG:Nat→List Int)(v:Value)(W:World):Prop where
 row:br o.uU T.b 1 base W v (o.np m bs)
 low:∀b∈bs,base≤b
 nodup:bs.Nodup
 aR:∀p (h:p<bs.length),W.heap[bs[p]]? = some (.cells (kX (kG p)).toArray T.a)
theorem k6.ext{m:o.Model}{base:Nat}{bs:List Nat}{kG:Nat→List Int}{v:Value}{w w':World}(h:k6 m base bs kG v w)(he:Ext w w'):k6 m base bs kG v w' :=
 ⟨h.row.ext he,h.low,h.nodup,fun p bg=>he.obj (h.aR p bg)⟩
theorem k6.mod{m:o.Model}{base:Nat}{bs:List Nat}{kG:Nat→List Int}{v:Value}{w w':World}{A:Nat→Prop}(h:k6 m base bs kG v w)(hm:Mod A w w')(eT:∀k,A k→k<base):k6 m base bs kG v w' :=
 ⟨h.row.mod hm fun k hk a=>by have:=(h.row.lt k hk).1;have:=eT k a;omega,h.low,h.nodup,fun p bg=>hm.obj (fun a=>by have:=h.low _ (List.getElem_mem bg);have:=eT _ a;omega) (h.aR p bg)⟩
theorem abg{l:List Nat}(h:l.Nodup){i j:Nat}(ad:i<l.length)(aP:j<l.length)(e:l[i]=l[j]):i=j:=by
 rcases Nat.lt_trichotomy i j with h1 | h1 | h1
 ·exact absurd e (List.pairwise_iff_getElem.1 h i j ad aP h1)
 ·exact h1
 ·exact absurd e.symm (List.pairwise_iff_getElem.1 h j i aP ad h1)
theorem VS(x:Nat×Nat):∀u∈o.uU x,u.oneCell'=true:=by simp[o.uU,Value.oneCell']
theorem k6.step{m:o.Model}{base:Nat}{bs:List Nat}{kG Gj:Nat→List Int}{v:Value}{w w':World}{q:Nat}(h:k6 m base bs kG v w)(aJ:q<bs.length)(hw:dT bs[q] w w')(ay:w'.heap[bs[q]]? = some (.cells (kX (Gj q)).toArray T.a))
  (aw:∀p,p<bs.length→p≠q→Gj p=kG p):k6 m base bs Gj v w':=by
 refine⟨h.row.mod (hw.mod (A:=fun i=>i=bs[q]) rfl) fun k hk e=>?_,h.low,h.nodup,fun p bg=>?_⟩
 ·obtain⟨cur,h1⟩:=h.row.aR k hk;have U:=h.aR q aJ;rw[e,U] at h1;injection h1 with h1
  injection h1 with _ h1
  revert h1;decide
 ·by_cases e:p=q
  ·subst e;exact ay
  ·rw[aw p bg e];exact hw.obj (h.aR p bg) fun aZ=>e (abg h.nodup bg aJ aZ)
theorem k6.snoc{m:o.Model}{base:Nat}{bs:List Nat}{kG:Nat→List Int}{v b7:Value}{w w':World}{b:Nat}(h:k6 m base bs kG v w)(hk:bs.length<m.procs.length)(r0:br o.uU T.b 1 base w' b7 (o.np m bs++[(b,m.procs[bs.length].cq.toNat)]))
  (aX:w.grownBy w' v.ownBlock)(aA:base≤b)(YY:∀p (bg:p<bs.length),bs[p]≠b)(ay:w.heap[b]? = some (.cells (kX (kG bs.length)).toArray T.a)):k6 m base (bs++[b]) kG b7 w':=by
 refine⟨by rw[o.Yj hk];exact r0,fun x aD=>?_,?_,fun p bg=>?_⟩
 ·rcases List.mem_append.1 aD with aD | aD
  ·exact h.low x aD
  ·rw[List.mem_singleton] at aD;omega
 ·rw[List.nodup_append];refine⟨h.nodup,by simp,fun a bD c ay e=>?_⟩;rw[List.mem_singleton] at ay;obtain⟨p,bg,rfl⟩:=List.mem_iff_getElem.1 bD;exact YY p bg (by rw[e,ay])
 ·by_cases vn:p<bs.length
  ·rw[List.getElem_append_left vn];exact h.row.box aX (h.aR p vn) (by decide)
  ·have e:p=bs.length:=by simp at bg;omega
   subst e;rw[List.getElem_append_right (Nat.le_refl _)];simpa using h.row.box aX ay (by decide)
theorem k6.abj{m:o.Model}{base:Nat}{bs:List Nat}{kG:Nat→List Int}{v:Value}{W:World}{L:List (List Int)}(h:k6 m base bs kG v W)(aA:bs.length=m.procs.length)(dM:L.length=m.procs.length)
  (aN:∀p (bg:p<m.procs.length),(kG p).length=m.procs[p].cq.toNat∧m.procs[p].cq.toNat≤12)(ay:∀p,p<m.procs.length→L[p]? = some (kG p)):oM W v L:=by
 obtain⟨bf,cap,rfl,h1,U,ai,aL⟩:=(br.pf (enc:=o.uU) (sz:=1) (fun _=>rfl) h.row).ex;have cR:=o.tq (m:=m) (bs:=bs) (by omega);refine⟨bf,cap,by rw[cR,aA,dM],by omega,U,fun aM=>ai (by intro e;rw[e] at cR;simp at cR;exact aM (List.eq_nil_of_length_eq_zero (by omega))),fun a bD i ad=>?_⟩;have cr:i<m.procs.length:=by omega
 have aX:=o.Aa (m:=m) (bs:=bs) (k:=i) (by omega) cr;obtain⟨cb,Hu⟩:=List.getElem?_eq_some_iff.1 aX;have kP:=aL a bD i cb 0 _ (show(o.uU (o.np m bs)[i])[0]? = some _ from rfl);rw[Hu,add_zero] at kP;refine⟨_,kP,?_⟩;obtain⟨_,Xr⟩:=List.getElem?_eq_some_iff.1 (ay i cr);rw[Xr];exact vM (h.aR i (by omega)) (aN i cr).1.symm (by have:=aN i cr;unfold maxLen;omega)
theorem V0(cs:List Value)(v:Value)(m:o.Model)(s:List Int)(inst:Int)(w:World)(h:o.eh w cs m)(aX:m.cM)(a1:gf w)(aw:gu w v s) :
  bw Tryz.prog F.cl #[.agg cs.toArray,v,.int .i64 inst] w fun u w'=>(∃es,u = .agg es.toArray∧ea w (fun w=>re w es (o.oa m s inst)) w')∧Ext w w':=by
 have gg:=h;have PO:=aw;obtain⟨cG,bR,cu,c1,cA,c2,cw,bN,cP,bX,rfl,ak,h1,U,ai,aL,et,dY,eg,dK,ed⟩:=h.form;obtain⟨e4,gN,rfl,fA⟩:=aw.form;refine bO E.cl ?_;refine bH ?_;refine ao ?_;intro ar cE gh aE bA;refine ao ?_;intro aW ia gi aF cW;have ahJ:=cL bA;replace bA:=aF.obj bA;have yC:=cL cW;have fx:=aE.size;have aZ:=aE.trans aF;refine ao ?_;refine K.call (RL _ m aW (gg.ext aZ) aX (a1.ext aZ)) ?_;rintro _ bh ⟨ba,av⟩;replace bA:=av.obj bA;replace cW:=av.obj cW;have bJ:=aZ.trans av;have z2:=av.size;rcases ba with ⟨rfl,hk⟩ | ⟨b,rfl,hk,ba⟩
 ·have aM:o.oa m s inst=o.Env.x6:=by unfold o.oa;rw[if_neg];intro h;exact hk h.1.1
  refine ao ?_;refine K.ab8 (by kernel_rfl) ?_;refine ao ?_;intro bj ew b0;refine ao ?_;exact⟨⟨_,rfl,by rw[aM];exact fu.of fun _=>re.zero _⟩,ew.ext bJ (by omega)⟩
 have bP:=o.o6 hk;refine ao ?_;refine K.ab9 (by kernel_rfl) ?_;refine ao ?_;refine K.call (RR b _ s m bh ba bP (aw.ext Flat.ext bJ)) ?_;rintro _ bj ⟨⟨t,rfl,aG⟩,aH⟩;replace bA:=aH.obj bA;replace cW:=aH.obj cW;have b5:=bJ.trans aH;have z3:=aH.size;cases t with
 | false =>
  have aM:o.oa m s inst=o.Env.x6:=by unfold o.oa;rw[if_neg];intro h;have:=aG.2 h.1.2;cases this
  refine ao ?_;intro bF eU cK;refine ao ?_;exact⟨⟨_,rfl,by rw[aM];exact fu.of fun _=>re.zero _⟩,eU.ext b5 (by omega)⟩
 | true =>
 have aI:=aG.1 rfl;obtain⟨km,d0,k4,d1,k5,d2,mV,d3,mc,d4,hP,g0,fM,g1,gR,g2,iR,g3,jT,g4,fw,ci,aA,hd,fP,gI,hQ,kh,fN,da,cZ,fr,ct⟩:=ba.form;replace aA:=aH.obj aA;replace hd:=hd.ext Flat.ext aH;replace fP:=fP.ext Flat.ext aH;replace gI:=gI.ext Flat.ext aH;replace ct:=ct.ext Flat.ext aH;refine ao ?_;apply K.cond<;>intro g1
 ·have aM:o.oa m s inst=o.Env.x6:=by unfold o.oa;rw[if_neg];intro h;omega
  refine ao ?_;intro bF eU cK;refine ao ?_;exact⟨⟨_,rfl,by rw[aM];exact fu.of fun _=>re.zero _⟩,eU.ext b5 (by omega)⟩
 refine ao ?_;apply K.cond<;>intro g2
 ·have aM:o.oa m s inst=o.Env.x6:=by unfold o.oa;rw[if_neg];intro h;omega
  refine ao ?_;intro bF eU cK;refine ao ?_;exact⟨⟨_,rfl,by rw[aM];exact fu.of fun _=>re.zero _⟩,eU.ext b5 (by omega)⟩
 have aM:o.oa m s inst=o.db m s inst:=by unfold o.oa;rw[if_pos ⟨⟨hk,aI⟩,by omega,by omega⟩]
 refine ao ?_;intro bF eX XC a8 dd;have D6:∀{W},Ext bj W→W.heap[cE]? = _:=fun e=>e.obj bA;have D8:∀{W},Ext bj W→W.heap[b]? = _:=fun e=>e.obj aA;have J7:=cL dd;have od:∀{W},Mod (fun i=>i=eX) bF W→Ext bj W:=fun h=>h.ext a8 fun i ad e=>by omega
 have hlen:=aI.len;have u2:o.eA m≤64:=o.mO bP;have hp:=bP.hp;have qK:(o.insts m).length≤30:=by have:=o.tF m;have:=bP.procs;omega
 clear ba a1 hQ kh fN da cZ fr;refine ao ?_;refine K.cV 46 m.vars.length [1,2,3,6,7,8,44,45] (fun _:gv=>[]) (none,0,0) (fun k v W=>(Mod (fun i=>i=eX) bF W∧W.heap[eX]? = some (.cells #[.slice v.1 v.2.1 v.2.2,.slice none 0 0,.slice none 0 0,.slice none 0 0,.int .i64 0] T.aj))∧fe Cz T.b 1 bF.heap.size W (.slice v.1 v.2.1 v.2.2) (((o.db m s inst).vars).take k)) bp bp ⟨⟨Mod.refl _ _,dd⟩,by simpa using fe.nil _ _ _ _ _⟩ ?_;clear dd;rintro k v S bV hk ⟨⟨ha,dd⟩,dH⟩;have bA:=D6 (od ha);have aA:=D8 (od ha);have iq:=b5.trans (od ha);refine ao ?_;apply K.cond<;>intro g1
 ·have cp:k<m.vars.length:=by omega
  obtain⟨a,rfl⟩:=h1.addr (by omega);have fK:=o.s4 m.vars[k] m.scalars;have vg:=o.E5 cp;have hs:=o.qu m;obtain⟨fv,iy⟩:=o.yt cp;have ev:=((h1.at k cp).cells).ext iq;refine ao ?_;intro wn y7 Ds hX X3;refine ao ?_;intro cc ec rN;have bY:Ext bV cc:=ec.ext hX Ds;replace rN:cc.heap[y7]? = some (.cells m.vars[k].enc.toArray T.h):=rN;replace bA:=bY.obj bA;replace aA:=bY.obj aA;replace dd:=bY.obj dd;have dk:=dH.ext bY;have iF:=iq.trans bY;have hI:Mod (fun i=>i=eX) bF cc:=ha.trans bY.mod;clear ec hX X3 ev dH;obtain⟨a0,rfl⟩:=hd.addr (by omega);have Je:=hd.ext Flat.ext ((od ha).trans bY);refine ao ?_;intro dq cj;replace dd:=cj.obj dd;have gn:=dk.ext cj;have h4:=iF.trans cj;have hb:Mod (fun i=>i=eX) bF dq:=hI.trans cj.mod;have vp:=aw.ext Flat.ext h4;refine ao ?_;refine K.call (CV m.vars[k] _ m.scalars dq (ak.ext h4)) ?_;rintro _ dE ⟨rfl,cv⟩;refine⟨cv,?_⟩;refine ao ?_;refine K.yk (k:=.i64) (k':=.i64) (o.fF m k) (o.fF m k+(o.cells m.vars[k] m.scalars).toNat) vp (by simp[eS,ca,iy]) (by simp[eS,ca,iy];omega) (by omega) (by omega) fun aj c bg=>?_;rw[show o.fF m k+(o.cells m.vars[k] m.scalars).toNat - o.fF m k=(o.cells m.vars[k] m.scalars).toNat from by omega] at bg ⊢;have r3:=o.ER (s:=s) (inst:=inst) cp;refine ao ?_;refine K.call (P7 _ _ dE (bg.ext Flat.ext cv) (by unfold o.dW;simp;omega)) ?_;rintro _ fl ⟨⟨bf,jG,rfl⟩,l4,cO⟩;refine⟨cv.trans cO,?_⟩;refine ao ?_;intro gd sU zV fg ig;refine⟨(cv.trans cO).trans fg,?_⟩;have z58:=hb.size;have Fo:=cv.size;have Fp:=cO.size;have Ca:=fg.size;have GA:Ext dq gd:=(cv.trans cO).trans fg;have nt:=gn.ext GA;have cb:(((o.db m s inst).vars).take k).length≤12:=by rw[List.length_take,o.ES];omega
  refine K.wI (x:=(s.drop (o.fF m k)).take (o.cells m.vars[k] m.scalars).toNat) (cs:=[.slice bf ((s.drop (o.fF m k)).take (o.cells m.vars[k] m.scalars).toNat).length jG]) nt (gM ig)
   (((ea.own l4 (gn.ext cv) (by omega)).imp fun w h=>⟨_,rfl,h⟩).ext fg fun i ad hk=>by have:=(gn.ext cv).under (by omega) i hk;omega) rfl (by simp[Value.oneCell']) (by omega) (by unfold maxLen;omega) (by omega) fun b7 k3 ba tu=>?_
  have OY:=nt.box tu (GA.obj dd) (by decide);have om:=(hb.trans GA.mod).own tu fun q aJ=>(nt.lt q aJ).1;obtain⟨kf,mu,rfl,_⟩:=ba.form;clear dd l4 nt gn dk ig bg bA aA rN;refine ao ?_;intro nC hM hF;refine ao ?_;refine⟨cp,bq,(kf,_,mu),trivial,⟨om.trans (hM.mod rfl),hF⟩,?_⟩;rw[List.take_succ,r3];exact ba.wr hM J7
 have j9:m.vars.length=k:=by omega
 rw[List.take_of_length_le (by rw[o.ES];omega)] at dH;have lr:=dH.new (R:=rl);obtain⟨gK,k1,jG⟩:=v;have ahK:=cL dd;have ue:=ha.size;have kN:∀{W},Mod (fun i=>i=eX) bV W→Ext bj W:=fun h=>od (ha.trans h);clear dH;refine ao ?_;clear bA aA;refine K.cV 78 m.aK.length [1,2,3,6,7,8,76,77] (fun _:gv=>[]) (none,0,0) (fun k v W=>(Mod (fun i=>i=eX) bV W∧W.heap[eX]? = some (.cells #[.slice gK k1 jG,.slice v.1 v.2.1 v.2.2,.slice none 0 0,.slice none 0 0,.int .i64 0] T.aj))∧br eb T.a 1 bV.heap.size W (.slice v.1 v.2.1 v.2.2) (((o.db m s inst).lens).take k)) bp bp ⟨⟨Mod.refl _ _,dd⟩,by simpa using br.nil _ _ _ _ _⟩ ?_;clear dd;rintro k v S cc hk ⟨⟨hI,dd⟩,dk⟩;have bA:=D6 (kN hI);have aA:=D8 (kN hI);have iF:=b5.trans (kN hI);refine ao ?_;apply K.cond<;>intro g1
 ·have cp:k<m.aK.length:=by omega
  have vg:=o.zb cp;have hs:=o.qu m;obtain⟨fv,jJ⟩:=o.w4 cp;obtain⟨dF,rfl⟩:=fP.addr (by omega);obtain⟨T7,rfl⟩:=aw.addr (by omega);have ih:=aw.ext Flat.ext iF;have BG:=fP.ext Flat.ext (kN hI);refine ao ?_;intro dq cj;replace dd:=cj.obj dd;have gn:=dk.ext cj;have hb:Mod (fun i=>i=eX) bV dq:=hI.trans cj.mod;have vp:=ih.ext Flat.ext cj;have acu:=BG.ext Flat.ext cj;replace aA:=cj.obj aA;clear ih dk bA BG;refine ao ?_;refine K.du (o.gx m k) (by rw[jJ]) (by omega) ?_;refine ao ?_;intro dE iY kv cv eY;refine⟨cv,?_⟩;have fq:o.gx m k<s.length:=by omega
  have r3:=o.Sy (inst:=inst) cp fq;have YL:(((o.db m s inst).lens).take k).length≤12:=by rw[List.length_take,o.EO];omega
  have hK:=gn.ext cv;have J6:=hb.size;have Fo:=cv.size;refine K.kq (y:=s[o.gx m k]) hK eY rfl (fun _=>rfl) lV (by omega) (by unfold maxLen;omega) (by omega) fun bf n c fl mL l3=>?_;have XW:=hK.box l3 (cv.obj dd) (by decide);have ns:=(hb.trans cv.mod).own l3 fun q aJ=>(hK.lt q aJ).1;clear dd hK gn eY;refine ao ?_;intro gd hL ig;refine ao ?_;refine⟨cp,bq,(bf,n,c),trivial,⟨ns.trans (hL.mod rfl),ig⟩,?_⟩;rw[List.take_succ,r3];exact mL.mod (hL.mod (A:=fun i=>i=eX) rfl) fun q aJ e=>by have:=(mL.lt q aJ).1;omega
 have oi:m.aK.length=k:=by omega
 rw[List.take_of_length_le (by rw[o.EO];omega)] at dk;have zR:ea bV (fun w=>gu w (.slice v.1 v.2.1 v.2.2) (o.db m s inst).lens) cc:=br.new (fun _=>rfl) dk;obtain⟨B5,jS,uP⟩:=v;have ahM:=cL dd;have z67:=hI.size;have ni:∀{W},Mod (fun i=>i=eX) cc W→Ext bj W:=fun h=>kN (hI.trans h);clear dk;refine ao ?_;clear bA aA;refine K.cV 101 m.procs.length [1,2,3,6,7,8,99,100] (fun _:gv=>[]) (none,0,0) (fun k v W=>(Mod (fun i=>i=eX) cc W∧W.heap[eX]? = some (.cells #[.slice gK k1 jG,.slice B5 jS uP,.slice none 0 0,.slice v.1 v.2.1 v.2.2,.int .i64 0] T.aj))∧∃bs:List Nat,bs.length=k∧k6 m cc.heap.size bs (fun p=>o.ho m s p (m.procs[p]?.map (·.cq) |>.getD 0) 0) (.slice v.1 v.2.1 v.2.2) W) bp bp ⟨⟨Mod.refl _ _,dd⟩,[],rfl,⟨br.nil _ _ _ _ _,(fun b h=>nomatch h),List.nodup_nil,(fun p h=>nomatch h)⟩⟩ ?_;clear dd;rintro k v S dq hk ⟨⟨hb,dd⟩,bs,xj,rI⟩;have bA:=D6 (ni hb);have aA:=D8 (ni hb);have h4:=b5.trans (ni hb);refine ao ?_;apply K.cond<;>intro g1
 ·have cp:k<m.procs.length:=by omega
  obtain⟨a,rfl⟩:=ai.addr (by omega);obtain⟨lC,cF,ei,dR,eO,jN⟩:=ai.at k cp;obtain⟨Rs,NF,rfl,Q5⟩:=eO.form;obtain⟨Ro,Nq,rfl,QU⟩:=jN.form;have c4:=(bP.proc _ (List.getElem_mem cp)).cq;replace dR:=dR.ext h4;refine ao ?_;intro dE Nc G3 cv rO;replace dd:=cv.obj dd;have u3:=rI.ext cv;have hJ:Mod (fun i=>i=eX) cc dE:=hb.trans cv.mod;clear dR rI;refine ao ?_;intro fl cO;replace dd:=cO.obj dd;replace rO:=cO.obj rO;have xe:=u3.ext cO;have ns:Mod (fun i=>i=eX) cc fl:=hJ.trans cO.mod;refine ao ?_;refine K.Rb m.procs[k].cq.toNat (by omega) (by omega) ?_;intro gd sU zV fg ig;refine⟨fg,?_⟩;refine ao ?_;intro k3 CM pS gy kx;refine⟨fg.trans gy,?_⟩;have w7:=fg.trans gy;have zO:=xe.ext w7;have Ys:=o.tq (m:=m) (bs:=bs) (by omega);have afN:=bP.procs;have ahN:=ns.size;have ahD:=w7.size;refine K.kq (y:=(sU,m.procs[k].cq.toNat)) zO.row kx rfl (fun _=>rfl) VS (by omega) (by unfold maxLen;omega) (by omega) fun bf n c nC Y1 Hr=>?_;have agb:=zO.row.box Hr (w7.obj dd) (by decide);have DO:=(ns.trans w7.mod).own Hr fun q aJ=>(zO.row.lt q aJ).1;have Xj:k6 m cc.heap.size (bs++[sU]) _ (.slice bf n c) nC:=zO.snoc (by omega) (by subst xj;exact Y1) Hr (by omega) (fun p bg e=>by have:=cL (xe.aR p bg);omega) (by
   subst xj;rw[o.Nb];simp only[List.getElem?_eq_getElem cp,Option.map_some,Option.getD_some];exact gy.obj ig)
  clear dd zO xe u3 kx;refine ao ?_;intro yw xC rO;refine ao ?_;exact⟨cp,bq,(bf,n,c),trivial,⟨DO.trans (xC.mod rfl),rO⟩,bs++[sU],by simp[xj],Xj.mod (xC.mod (A:=fun i=>i=eX) rfl) fun i e=>by omega⟩
 have DM:m.procs.length=k:=by omega
 subst DM;obtain⟨Fa,IS,Gd⟩:=v;have ahP:=cL dd;have z78:=hb.size;have j6:∀{W},Mod (fun i=>i∈bs) dq W→Ext bj W:=fun h=>h.ext (ni hb) fun i ad e=>by have:=rI.low i e;have:=(kN hI).size;omega
 have afV:=cL bA;have af6:=cL aA;have Xm:¬eX∈bs:=fun h=>by have:=rI.low _ h;omega
 have YG:∀{W},Mod (fun i=>i∈bs) dq W→W.heap[eX]? = _:=fun h=>h.obj Xm dd;refine ao ?_;refine K.cV 119 (o.insts m).length [1,2,3,6,7,8,117,118] (fun _:Unit=>[]) () (fun k _ W=>Mod (fun i=>i∈bs) dq W∧k6 m cc.heap.size bs (fun p=>o.ho m s p (m.procs[p]?.map (·.cq) |>.getD 0) k) (.slice Fa IS Gd) W) bp bp ⟨Mod.refl _ _,rI⟩ ?_;clear rI dd bA aA;rintro k _ S dE hk ⟨hJ,u3⟩;have bA:=D6 (j6 hJ);have aA:=D8 (j6 hJ);have dd:=YG hJ;have k8:=b5.trans (j6 hJ);refine ao ?_;apply K.cond<;>intro g1
 ·have cp:k<(o.insts m).length:=by omega
  have Dp:=ct.ext Flat.ext (j6 hJ);obtain⟨mq,rfl⟩:=ct.addr (by omega);have pY:=o.tG _ (List.getElem_mem cp);obtain⟨q,aJ,DU,nk⟩:=o.vu pY;have Ae:(o.insts m)[k]?.map (·.proc)=some (q:Int):=by rw[List.getElem?_eq_getElem cp,Option.map_some,DU]
  obtain⟨d,Aw,Yc⟩:=aI.loc cp aJ nk;obtain⟨kc,Ax⟩:=List.getElem?_eq_some_iff.1 Aw;obtain⟨fv,iy⟩:=o.xG cp;obtain⟨wL,rfl⟩:=aw.addr (by omega);obtain⟨a2,rfl⟩:=gI.addr (by omega);have c4:=(bP.proc _ (List.getElem_mem aJ)).cq;refine ao ?_;intro wn FZ OM hX X4;refine ao ?_;intro fl vr j7;have cO:Ext dE fl:=vr.ext hX OM;replace j7:fl.heap[FZ]? = some (.cells #[.int .i64 q,.int .i64 (o.insts m)[k].elem] T.m):=by rw[←DU];exact j7
  replace dd:=cO.obj dd;replace aA:=cO.obj aA;have xe:=u3.ext cO;have ns:Mod (fun i=>i∈bs) dq fl:=hJ.trans cO.mod;have PM:=aw.ext Flat.ext (k8.trans cO);have EB:=gI.ext Flat.ext ((j6 hJ).trans cO);clear vr hX X4 Dp bA u3;refine ao ?_;intro gd fg;replace dd:=fg.obj dd;replace aA:=fg.obj aA;replace j7:=fg.obj j7;have GV:=xe.ext fg;have xr:Mod (fun i=>i∈bs) dq gd:=ns.trans fg.mod;have PN:=PM.ext Flat.ext fg;have ahi:=EB.ext Flat.ext fg;clear PM EB xe;have Ys:=o.tq (m:=m) (bs:=bs) (by omega);have r0:=br.pf (enc:=o.uU) (sz:=1) (fun _=>rfl) GV.row;obtain⟨qp,rfl⟩:∃a,Fa=some a:=r0.addr (by omega);have vm:=r0.len.1;obtain⟨agh,Pl⟩:=List.getElem?_eq_some_iff.1 (o.Aa (m:=m) (bs:=bs) (k:=q) (by omega) aJ);have gk:d<m.procs[q].cq.toNat:=by omega
  have OB:(o.np m bs)[q].1=bs[q]:=by rw[Pl]
  have GX:(o.np m bs)[q].2=m.procs[q].cq.toNat:=by rw[Pl]
  have hblk:=GV.aR q (by omega);simp only[List.getElem?_eq_getElem aJ,Option.map_some,Option.getD_some] at hblk;rw[←OB] at hblk;have ov:=o.ru m s q m.procs[q].cq k;have HV:=o.y4 (m:=m) (s:=s) (p:=q) (k:=k) gk;have fK:=o.FX m s q d k;have agx:gu gd (.slice (some ⟨(o.np m bs)[q].1,0,none⟩) (o.np m bs)[q].2 (o.np m bs)[q].2) (o.ho m s q m.procs[q].cq k):=vM hblk (by rw[GX,ov]) (by rw[ov];unfold maxLen;omega);have Yd:d<(o.ho m s q m.procs[q].cq k).length:=by omega
  obtain⟨_,HW⟩:=List.getElem?_eq_some_iff.1 HV;refine ao ?_;refine K.du (o.e3 m k) (by rw[iy]) (by rw[hlen];omega) ?_;refine ao ?_;refine K.du d Ax (by rw[GX];exact gk) ?_;refine ao ?_;refine K.du d Ax (by rw[GX];exact gk) ?_;refine ao ?_;refine K.st1 hblk (by rw[List.size_toArray,Qi];omega) rfl fun k3 kW kx=>?_;rw[Qj (Nat.mul_one _),HW,←o.Na Ae Aw gk] at kx;rw[OB] at kW kx;refine ao ?_;refine⟨cp,bq,(),trivial,xr.trans (kW.mod (List.getElem_mem _)),GV.step (q:=q) (by omega) kW (by simp only[List.getElem?_eq_getElem aJ,Option.map_some,Option.getD_some];exact kx) fun p bg DT=>?_⟩;have Y7:p<m.procs.length:=by omega
  simp only[List.getElem?_eq_getElem Y7,Option.map_some,Option.getD_some];exact o.M9 (by rw[Ae];intro e;have:=Option.some.inj e;omega)
 have vj:(o.insts m).length=k:=by omega
 subst vj;have PE:Mod (fun i=>i=eX) cc dE:=hb.comp hJ (fun i _ e=>e) fun i ad e=>by have:=u3.low i e;omega
 have PD:Mod (fun i=>i=eX) bV dE:=hI.trans PE;have OI:fu (fun i=>i<bF.heap.size) (fun w=>oM w (.slice gK k1 jG) (o.db m s inst).vars) dE:=lr.move PD (fun i _ e=>by omega) fun i _ e=>e;have OE:ea bV (fun w=>gu w (.slice B5 jS uP) (o.db m s inst).lens) dE:=zR.move PE (fun i _ e=>by omega) fun i _ e=>e;have eT:∀{W},Mod (fun i=>i<bV.heap.size) dE W→oM W (.slice Fa IS Gd) (o.db m s inst).at_:=fun {W} hW=>(u3.mod hW fun i e=>by omega).abj xj (o.JA m s inst) (fun p bg=>by
   simp only[List.getElem?_eq_getElem bg,Option.map_some,Option.getD_some];exact⟨o.ru _ _ _ _ _,by have:=(bP.proc _ (List.getElem_mem bg)).cq;omega⟩) fun p bg=>by
   simp only[List.getElem?_eq_getElem bg,Option.map_some,Option.getD_some];exact o.Sx bg
 have z9:=PD.size;clear lr zR;refine ao ?_;apply K.cond<;>intro g2;rotate_left
 ·obtain⟨dJ,bS⟩:=o.EP (m:=m) (s:=s) (inst:=inst) (by omega);have pT:=(j6 hJ).obj cW;refine ao ?_;intro fl vr rN;refine ao ?_;have ns:Mod (fun i=>i=ia) dE fl:=vr.mod rfl;refine⟨⟨_,rfl,fun W hW=>?_⟩,vr.ext (b5.trans (j6 hJ)) (by omega)⟩;have u4:Mod (fun i=>i<bF.heap.size) dE W:=(ns.oG fun i e=>by omega).trans (hW.oG fun i e=>by omega);rw[aM];refine⟨_,_,_,_,by rw[bS],OI _ u4,OE _ (u4.oG fun i e=>by omega),?_,eT (u4.oG fun i e=>by omega)⟩;rw[dJ];exact bE.nil
 ·obtain⟨q,rfl⟩:=Int.eq_ofNat_of_zero_le (show 0≤inst by omega);have aJ:q<(o.insts m).length:=by omega
  have vg:=o.Ip aJ;obtain⟨fv,iy⟩:=o.xG aJ;obtain⟨a2,rfl⟩:=gI.addr (by omega);have RI:=gI.ext Flat.ext (j6 hJ);obtain⟨mq,rfl⟩:=ct.addr (by omega);have Dp:=ct.ext Flat.ext (j6 hJ);have pY:=o.tG _ (List.getElem_mem aJ);obtain⟨p,bg,fi,nk⟩:=o.vu pY;have G5:(o.jO m (o.insts m)[q]).length=1+m.procs[p].vars.length:=by rw[nk,o.vQ]
  obtain⟨a,rfl⟩:=ai.addr (by omega);obtain⟨lC,cF,ei,dR,eO,jN⟩:=ai.at p bg;obtain⟨Rs,NF,rfl,Q5⟩:=eO.form;obtain⟨Ro,Nq,rfl,QU⟩:=jN.form;have pT:=(j6 hJ).obj cW;refine ao ?_;intro fl cO;replace dd:=cO.obj dd;replace aA:=cO.obj aA;replace bA:=cO.obj bA;replace pT:=cO.obj pT;have EB:=RI.ext Flat.ext cO;have Xp:=Dp.ext Flat.ext cO;clear RI Dp;refine ao ?_;intro gd Nd XA fg ig;refine⟨fg,?_⟩;refine K.jh ig rfl rfl (by simp[Value.oneCell',o.eL.enc]) fun k3 kW kx=>?_;have gy:Ext fl k3:=kW.ext fg XA;refine⟨gy,?_⟩;replace kx:k3.heap[Nd]? = some (.cells #[.int .i64 p,.int .i64 (o.insts m)[q].elem] T.m):=by rw[←fi];exact kx
  replace dd:=gy.obj dd;replace bA:=gy.obj bA;replace pT:=gy.obj pT;have om:Mod (fun i=>i=eX) dE k3:=cO.mod.trans gy.mod;have ahR:=om.size;have Tp:Ext bj k3:=(j6 hJ).trans (cO.trans gy);clear ig kW Xp EB aA;refine ao ?_;intro nC hM hF;have KS:Ext bj nC:=hM.ext Tp (by omega);have DO:Mod (fun i=>i=eX) dE nC:=om.trans (hM.mod rfl);replace bA:=hM.obj bA (by omega);replace pT:=hM.obj pT (by omega);have n17:Nd≠eX:=by have:=cO.size;omega
  replace kx:=hM.obj kx n17;replace dR:=dR.ext (b5.trans KS);unfold o.dx.enc at dR;have Zp:=aw.ext Flat.ext (b5.trans KS);clear dd;refine ao ?_;refine K.yk (k:=.i64) (k':=.i64) (o.e3 m q+1) (o.e3 m q+1+m.procs[p].vars.length) Zp (by simp[eS,ca,iy]) (by simp[eS,ca,iy]) (by omega) (by omega) fun aj c Av=>?_;rw[show o.e3 m q+1+m.procs[p].vars.length - (o.e3 m q+1)=m.procs[p].vars.length from by omega] at Av ⊢;refine ao ?_;refine K.call (P7 _ _ nC Av (by unfold o.dW;simp;omega)) ?_;rintro _ yw ⟨⟨bf,jG,rfl⟩,YX,l2⟩;replace hF:=l2.obj hF;replace pT:=l2.obj pT;have YV:Mod (fun i=>i=eX) dE yw:=DO.trans l2.mod;have ahG:=l2.size;have ahS:=DO.size;refine ao ?_;intro Fc D3 qE;have HL:Mod (fun i=>i=eX) dE Fc:=YV.trans (D3.mod rfl);replace pT:=D3.obj pT (by omega);refine ao ?_;intro aeR D4 j7;refine ao ?_;have ahH:=D3.size;have ags:Mod (fun i=>i<bV.heap.size) dE aeR:=(HL.oG fun i e=>by omega).trans (D4.mod (by omega));obtain⟨dJ,bS⟩:=o.BT s aJ (n:=m.procs[p].vars.length) (by omega);refine⟨⟨_,rfl,fun W hW=>?_⟩,D4.ext (b5.trans (HL.ext (j6 hJ) fun i ad e=>by omega)) (by omega)⟩;have u4:Mod (fun i=>i<bF.heap.size) dE W:=(((HL.oG (B:=fun i=>i=eX∨i=ia) fun i e=>.inl e).trans (D4.mod (.inr rfl))).oG fun i e=>by omega).trans (hW.oG fun i e=>by omega);rw[aM];refine⟨_,_,_,_,by rw[bS];rfl,OI _ u4,OE _ (u4.oG fun i e=>by omega),?_,eT (u4.oG fun i e=>by omega)⟩;rw[dJ];exact((YX.wr D3 (by omega)).wr D4 (by omega)) _ (hW.oG fun i e=>by omega)
end Go.Proofs.R
end
section
namespace o
open Go
theorem QK{s w:Int}:∀{l:List dg} {k:Nat} {x:Cell},x∈eP s w l k→∃b∈l,x.bk=b.bk∧x.ad=b.ad
 | [],_,_,h=>by cases h
 | b :: l,k,x,h=>by
  rcases List.mem_cons.1 h with rfl | h
  ·exact⟨b,by simp,rfl,rfl⟩
  ·obtain⟨ng,h1,U⟩:=QK h;exact⟨ng,by simp[h1],U⟩
theorem CU{s:Int}:∀{ls:List (List dg)} {i:Nat} {x:Cell},x∈cellsOf s ls i→∃l∈ls,∃b∈l,x.bk=b.bk∧x.ad=b.ad
 | [],_,_,h=>by cases h
 | l :: r,i,x,h=>by
  rcases List.mem_append.1 h with h | h
  ·obtain⟨b,h1,U⟩:=QK h;exact⟨l,by simp,b,h1,U⟩
  ·obtain⟨xN,h1,U⟩:=CU h;exact⟨xN,by simp[h1],U⟩
def ra(bk ad:Int):Prop := -1048576≤bk∧bk≤ad∧ad≤1048576
theorem F0{sc bk ad:Int}{s:List Scalar}(h:sc=0→ra bk ad):ra (fy sc bk ad s).bk (fy sc bk ad s).ad:=by
 unfold fy;by_cases ak:sc=0
 ·rw[if_pos ak];exact h ak
 ·rw[if_neg ak]
  have:=size_le sc s
  unfold ra;simp only;omega
theorem Rg{bk ad:Int}(h:narrow bk ad=true):ra bk ad:=by have:=Rf h;unfold ra;omega
theorem UQ{m:Model}(h:gF m):∀x∈b4 m,ra x.bk x.ad:=fun x aD=>by
 unfold b4 at aD;rcases List.mem_append.1 aD with aD | aD
 ·rcases List.mem_append.1 aD with aD | aD
  ·obtain⟨l,aN,b,aA,bS,aZ⟩:=CU aD;obtain⟨v,aS,rfl⟩:=List.mem_map.1 aN;rw[(List.mem_replicate.1 aA).2] at bS aZ;rw[bS,aZ];exact F0 fun ak=>Rg ((h.var v aS).Ep ak)
  ·obtain⟨l,aN,b,aA,bS,aZ⟩:=CU aD;obtain⟨c,ay,rfl⟩:=List.mem_map.1 aN;rw[bS,aZ];have c4:=h.chan c ay;have oX:=c4.cap;rcases List.mem_cons.1 aA with rfl | aA
   ·unfold ra;simp only;omega
   ·rw[(List.mem_replicate.1 aA).2];exact F0 fun ak=>by
     have:=Rf (c4.Ep ak)
     unfold ra;omega
 ·obtain⟨l,aN,b,aA,bS,aZ⟩:=CU aD;obtain⟨we,tD,rfl⟩:=List.mem_map.1 aN;rw[bS,aZ];unfold jO at aA;split at aA
  ·rename_i p bg;have hm:p∈m.procs:=by
    unfold nth at bg;split at bg
    ·exact List.mem_of_getElem? bg
    ·cases bg
   have c4:=h.proc p hm;rcases List.mem_cons.1 aA with rfl | aA
   ·have:=c4.cq;unfold ra;simp only;omega
   ·obtain⟨v,aS,rfl⟩:=List.mem_map.1 aA;exact F0 fun ak=>Rg ((c4.var v aS).Ep ak)
  ·cases aA
end o
end
section
namespace bn
open Go Go.RowKit
theorem WJ(l:List Nat)(k x:Nat):(l.flatMap qz).set k (.int .u8 x)=(l.set k x).flatMap qz:=by
 rw[←F7,←F7];simp[F6,List.map_set]
theorem K.kj{e:TypeId}{base:Nat}{w:World}{l:List Nat}{a:Addr}{n c k x:Nat}{gr:World→Prop}{t}(h:br qz e 1 base w (.slice (some a) n c) l)(hk:k<l.length)
  (cR:∀ar,dT a.block w ar→br qz e 1 base ar (.slice (some a) n c) (l.set k x)→gr ar):pz (.pointer (some (a.add (k*1)))) (.int .u8 (x:Nat)) w gr t:=by
 rcases h.2 with ⟨aM,ak⟩ | ⟨g,cap,cur,h1,U,ai,aL,bt,bM,b6⟩
 ·cases aM
 ·injection h1 with bS aZ bJ
  injection bS with bS
  subst bS bJ;have cb:k<cur.size:=by omega
  have ic:Addr.add ⟨g,0,none⟩ (k*1)=⟨g,k,none⟩:=by rw[add_eq,Nat.mul_one,Nat.zero_add]
  have ay:w.cell? (Addr.add ⟨g,0,none⟩ (k*1))=some cur[k]:=eZ ai (by rw[Nat.mul_one];exact Array.getElem?_eq_getElem cb);rw[ic] at ay ⊢;have bB:w.ownsRow base e 1 (.slice (some ⟨g,0,none⟩) l.length c) l.length (l.flatMap qz):=by unfold br at h;rw[aZ] at h;exact h
  have aw:=World.ownsRow.stored bB k (.int .u8 (x:Nat));rw[WJ] at aw;refine K.st ay (by simp[World.frozen?,ai]) (by simp[Value.oneCell']) (cR _ (dT.setCell w ⟨g,k,none⟩ _) ?_);unfold br;rw[List.length_set,aZ];exact aw.1
theorem K.T3{α:Type}{P:Program}{cI:Value→World→Prop}{enc:α→List Value}{e:TypeId}{sz base:Nat}{w:World}{s x:Value}{xs ys:List α}{R:World→Addr→α→Prop}[k7 R enc]{ty:TypeId}{b:Nat}{t}(aw:br enc e sz base w s xs)(aD:bE sz R w x ys)(c5:∀x,(enc x).length=sz)(h1:∀y,∀u∈enc y,u.oneCell'=true)
  (aA:(xs.length+ys.length)*b≤140737488355328)(ja:xs.length+ys.length≤maxLen)(ix:base≤w.heap.size)(hk:∀b7 w',br enc e sz base w' b7 (xs++ys)→w.grownBy w' s.ownBlock→cI b7 w'):jZ P ty e sz b s x w cI t:=by
 obtain⟨bf,cap,rfl,oc,U,ai,aL⟩:=aD.ex;cases bf with
 | some a=>exact K.T2 aw ⟨some a,cap,rfl,oc,U,ai,aL⟩ c5 h1 aA ja ix hk
 | none =>
  have:ys=[]:=Classical.byContradiction fun aM=>by have:=ai aM;cases this
  subst this;rw[List.append_nil] at hk;refine K.app fun⟨aG,i,z,ad,bK,xz,xl,vt,D0⟩=>?_;refine⟨ty,s,w,?_,hk s w aw ⟨rfl,rfl,rfl,Nat.le_refl _,fun _ _ _=>rfl⟩⟩;rcases aw.2 with ⟨rfl,ak⟩ | ⟨g,cap,cur,rfl,_,_,xu,_⟩
  ·simp[Builtin.append_,run_underlying aG,Go.sizeOf,typeInfo,ad,Builtin.lenOf,Builtin.firstCells]
  ·simp[Builtin.append_,run_underlying aG,Go.sizeOf,typeInfo,ad,Builtin.lenOf,Builtin.firstCells,xu,storeCells]
end bn
end
section
namespace o
open Go
structure KE(m:Model)(ref:Int)(q p k:Nat):Prop where
 ok:(check m).cY=0
 bk:0≤ref
 ad:ref.toNat<(refs m).length
 at_:TE m ((refs m)[ref.toNat]) q p k
def Told(m:Model)(ref:Int):Prop:=(check m).cY=0∧0≤ref∧ref<(refs m).length
def zl(m:Model)(p k:Nat):ft:=((m.procs[p]?.map (·.c7[k]?)).join).getD ⟨⟨#[]⟩,0,0,[],[],false⟩
structure afe(m:Model)(ref:Int)(a b:List Int):Prop where
 there:∀q p k,KE m ref q p k→FJ (acI m q (zl m p k) (zl m p k).di.length) a∧FJ (ae0 m q (zl m p k) (zl m p k).di.length) b
 none:¬Told m ref→a=[]∧b=[]
structure ae8(m:Model)(ref:Int)(a:List Int):Prop where
 there:∀q p k,KE m ref q p k→FJ (Ox m q (zl m p k)) a
 none:¬Told m ref→a=[]
end o
end
section
namespace Go.Proofs.R
open Go Go.RowKit bn
structure afm(w:World)(cs:List Value)(m:o.Model):Prop where
 ex:∃ms ys cB S4,cs=ms++ys++[cB,S4]∧o.eh w ms m∧o.h6 w ys (o.layout m)∧pt w cB (o.insts m)∧TF w S4 (o.refs m)
end Go.Proofs.R
end
section
end