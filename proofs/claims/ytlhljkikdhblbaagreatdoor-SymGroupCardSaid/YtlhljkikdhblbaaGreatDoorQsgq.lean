/- Parts. -/
import Derived.Test.YtlhljkikdhblbaaGreatDoorQsgp
set_option linter.all false
set_option maxRecDepth 8000
set_option maxHeartbeats 16000000
namespace o
open Go
def AY(x:Nat×Nat):C_ B_:=[.slice (some ⟨x.1,0,none⟩) x.2 x.2]
def rC(m:Model)(bs:C_ Nat):C_ (Nat×Nat):=bs.zip (m.procs.map λa=>a.cb.toNat)
theorem zt{m:Model}{bs:C_ Nat}(h:bs.length<=m.procs.length):(rC m bs).length=bs.length:=by simp[rC];omega
def GS{m:Model}{bs:C_ Nat}{k:Nat}(h:k<bs.length)(a:k<m.procs.length):(rC m bs)[k]? = some (bs[k],m.procs[k].cb.toNat):=by
 simp[rC,List.getElem?_zip_eq_some,h,a]
def apW{m:Model}{bs:C_ Nat}{b:Nat}(d:bs.length<m.procs.length):rC m (bs++[b])=rC m bs++[(b,m.procs[bs.length].cb.toNat)]:=by
 apply List.ext_getElem?;intro c;by_cases a:c<bs.length
 .rw[GS (by simp;omega) AW,List.getElem?_append_left (by rw[zt AW];exact a),GS a AW];simp[List.getElem_append_left a]
 .by_cases e:c=bs.length
  .subst e;rw[GS Ah d,List.getElem?_append_right (by rw[zt AW];exact Fy _),zt AW];simp
  .rw[List.getElem?_eq_none (by rw[zt (by simp;omega)];simp;omega),List.getElem?_eq_none (by rw[Jv,zt AW];simp;omega)]
end o
namespace Go.Proofs.R
open Go Go.RowKit a8 o
structure oU(m:o.Model)(base:Nat)(bs:List Nat)(oA:Nat->List Int)(v:Value)(W:World):Prop where
 row:aR AY T.b 1 base W v (rC m bs)
 low:∀b∈bs,base<=b
 nodup:bs.Nodup
 b0:∀p (h:p<bs.length),W.heap[bs[p]]? = some (.cells (fB (oA p)).toArray T.a)
theorem oU.ext{m:o.Model}{base:Nat}{bs:C_ Nat}{a:Nat->C_ Int}{v:B_}{w w':A_}(h:oU m base bs a v w)(b:Ext w w'):oU m base bs a v w' :=
 ⟨h.row.ext b,h.low,h.nodup,λc d=>b.obj (h.b0 c d)⟩
def oU.mod{m:o.Model}{base:Nat}{bs:C_ Nat}{c:Nat->C_ Int}{v:B_}{w w':A_}{A:Nat->Prop}(h:oU m base bs c v w)(d:Mod A w w')(e:∀a,A a->a<base):oU m base bs c v w' :=
 ⟨h.row.mod d λa g b=>by have:=(h.row.lt a g).1;have:=e a b;omega,h.low,h.nodup,λi f=>d.obj (λb=>by have:=h.low _ (ID f);have:=e _ b;omega) (h.b0 i f)⟩
def aud{l:C_ Nat}(h:l.Nodup){i j:Nat}(a:i<l.length)(b:j<l.length)(e:l[i]=l[j]):i=j:=by
 rcases AK8 i j with I | I | I
 .exact absurd e (List.pairwise_iff_getElem.1 h i j a b I)
 .exact I
 .exact absurd e.symm (List.pairwise_iff_getElem.1 h j i b a I)
def amr(x:Nat×Nat):∀a∈AY x,a.oneCell'=true:=by simp[AY,Value.oneCell']
def oU.step{m:o.Model}{base:Nat}{bs:C_ Nat}{f d:Nat->C_ Int}{v:B_}{w w':A_}{q:Nat}(h:oU m base bs f v w)(g:q<bs.length)(i:dY bs[q] w w')(j:w'.heap[bs[q]]? = some (.cells (fB (d q)).toArray T.a))
  (k:∀a,a<bs.length->a≠q->d a=f a):oU m base bs d v w':=by
 refine⟨h.row.mod (i.mod (A:=λl=>l=bs[q]) rfl) λn p c=>?_,h.low,h.nodup,λa e=>?_⟩
 .obtain⟨cur,b⟩:=h.row.b0 n p;have r:=h.b0 q g;rw[c,r] at b;injection b with b
  injection b with _ b
  revert b;decide
 .by_cases c:a=q
  .subst c;exact j
  .rw[k a e c];exact i.obj (h.b0 a e) λs=>c (aud h.nodup e g s)
def oU.snoc{m:o.Model}{base:Nat}{bs:C_ Nat}{f:Nat->C_ Int}{v i:B_}{w w':A_}{b:Nat}(h:oU m base bs f v w)(l:bs.length<m.procs.length)(n:aR AY T.b 1 base w' i (rC m bs++[(b,m.procs[bs.length].cb.toNat)]))
  (j:w.grownBy w' v.ownBlock)(s:base<=b)(p:∀a (d:a<bs.length),bs[a]≠b)(e:w.heap[b]? = some (.cells (fB (f bs.length)).toArray T.a)):oU m base (bs++[b]) f i w':=by
 refine⟨by rw[apW l];exact n,λq c=>?_,?_,λa d=>?_⟩
 .rcases List.mem_append.1 c with c | c
  .exact h.low q c
  .rw[AH0] at c;omega
 .rw[List.nodup_append];refine⟨h.nodup,Ah,λt r u e g=>?_⟩;rw[AH0] at e;obtain⟨a,d,rfl⟩:=List.mem_iff_getElem.1 r;exact p a d (by rw[g,e])
 .by_cases k:a<bs.length
  .rw[AJ3 k];exact h.row.box j (h.b0 a k) Ae
  .have g:a=bs.length:=by simp at d;omega
   subst g;rw[AJ4 (Fy _)];simpa using h.row.box j e Ae
def oU.aui{m:o.Model}{base:Nat}{bs:C_ Nat}{d:Nat->C_ Int}{v:B_}{g:A_}{e:C_ (C_ Int)}(h:oU m base bs d v g)(k:bs.length=m.procs.length)(l:e.length=m.procs.length)
  (i:∀a (G:a<m.procs.length),(d a).length=m.procs[a].cb.toNat/\m.procs[a].cb.toNat<=12)(n:∀a,a<m.procs.length->e[a]? = some (d a)):hB g v e:=by
 obtain⟨p,q,rfl,H,r,s,t⟩:=(aR.iw (enc:=AY) (sz:=1) (λ_=>rfl) h.row).ex;have f:=zt (m:=m) (bs:=bs) AW;refine⟨p,q,by rw[f,k,l],AW,r,λu=>s (by intro w;rw[w] at f;simp at f;exact u (AG1 AW)),λx y b I=>?_⟩;have c:b<m.procs.length:=AW
 have z:=GS (m:=m) (bs:=bs) (k:=b) AW c;obtain⟨A,B⟩:=List.getElem?_eq_some_iff.1 z;have j:=t x y b A 0 _ (show(AY (rC m bs)[b])[0]? = some _ from rfl);rw[B,add_zero] at j;refine⟨_,j,?_⟩;obtain⟨_,C⟩:=List.getElem?_eq_some_iff.1 (n b c);rw[C];exact UF (h.b0 b AW) (i b c).1.symm (by have:=i b c;unfold maxLen;omega)
end Go.Proofs.R
namespace o
def as0(m:Model):(layout m).ay.length=m.ay.length:=by simp[layout,BS,cn,rU]
end o
namespace Go.Proofs.R
open Go Go.RowKit a8 o
theorem ql.ext{w w':A_}{cs:C_ B_}{l:C_ Int}(a:Ext w w')(h:ql w cs l):ql w' cs l:=let ⟨b,c,d⟩:=h; ⟨b,c,d.ext Flat.ext a⟩
def anf(a7 a9 q p:Nat)(v:B_)(m:o.Model)(s:C_ Int)(w:A_)(e:w.heap[a7]? = some (.cells #[.pointer (some ⟨a9,0,none⟩),.I q,v] T.yW))(ba:qo w a9 m)(c2:(o.check m).bN=0)(J:cH w v s)(bX:o.Fits m s)(c3:hI m q p) :
  EG F.gt #[.pointer (some ⟨a7,0,none⟩)] w λc4 bY=>(∃bZ,c4 = .agg bZ.toArray/\Pm bY bZ (cd m s q))/\Ext w bY:=by
 obtain⟨e8,f,b0⟩:=ba;obtain⟨e9,fc,ff,fh,fi,fk,fo,fq,fs,ft,fu,fy,fz,bg,fA,bj,fC,fD,fF,fI,fJ,fM,fN,fO,rfl,_,_,b1,b3,au,_,_,c5,W,av,aH,aI,c9⟩:=b0.form;obtain⟨fP,fS,rfl,fV⟩:=J.form;have X:=g6 c2;have db:=bX.len;have fW:cG m<=64:=iq X;have fX:=X.g2;have fY:(o.layout m).ay.length=m.ay.length:=as0 m;have ga:(o.insts m).length<=30:=by have:=tz m;have:=X.procs;omega
 clear b0 c9;refine bm E.gt ?_;refine aa ?_;intro gb dc gd bb bf;refine aa ?_;intro C g gf aJ d;have gh:=ca bf;have dd:=ca d;have gj:=aJ.size;have bk:∀{b},Mod (λa=>a=g) C b->Ext w b:=λj=>bb.trans (j.ext aJ λa u h=>AW);have b4:∀{b},Mod (λa=>a=g) C b->b.heap[dc]? = _:=λj=>(j.ext aJ λa u h=>AW).obj bf;have aK:∀{b},Ext w b->b.heap[a7]? = _:=λh=>h.obj e;have aM:∀{b},Ext w b->b.heap[a9]? = _:=λh=>h.obj f;have b5:=bb.trans aJ;replace e:=b5.obj e;replace f:=b5.obj f;clear bf;refine aa ?_;refine K_ 24 m.vars.length [0,2,3,22,23] (λ_:ef=>[]) (none,0,0) (λc v b=>(Mod (λa=>a=g) C b/\b.heap[g]? = some (.cells #[.slice v.1 v.2.1 v.2.2,.slice none 0 0,.slice none 0 0,.slice none 0 0,.I 0] T.s))/\∃Y:C_ (hp 1),Y.length=c/\ng T.b 1 C.heap.size b (.slice v.1 v.2.1 v.2.2) Y/\∀a (W:a<Y.length) (av:a<(cd m s q).vars.length),ql w Y[a].1 (cd m s q).vars[a]) aV aV ⟨⟨Mod.refl _ _,d⟩,[],rfl,aR.nil _ _ _ _ _,λa j=>absurd j (Og _)⟩ ?_;clear d e f;rintro c v bn G bo ⟨⟨aw,d⟩,Y,aP,ax,bp⟩;have ks:=bk aw;have e:=aK ks;have f:=aM ks;refine aa ?_;apply I_<;>intro br
 .have k:c<m.vars.length:=AW
  obtain⟨az,rfl⟩:=W.addr;have de:=sg m.vars[c] m.scalars;have b6:=qZ k;have df:=nu m;obtain⟨bt,Z⟩:=Al k;have dg:=((W.at c k).cells).ext ks;refine aa ?_;intro dh di dj aA dr;refine aa ?_;intro A b8 aB;have ai:Ext G A:=b8.ext aA dj;replace aB:A.heap[di]? = some (.cells m.vars[c].enc.toArray T.i):=aB;replace e:=ai.obj e;replace f:=ai.obj f;replace d:=ai.obj d;have O:=ax.ext ai;have hh:=ks.trans ai;have ab:Mod (λa=>a=g) C A:=aw.trans ai.mod;clear b8 aA dr dg ax;obtain⟨gr,rfl⟩:=b1.addr;have dt:=b1.ext Flat.ext hh;refine aa ?_;intro I y;replace d:=y.obj d;replace e:=y.obj e;replace f:=y.obj f;replace aB:=y.obj aB;have aC:=O.ext y;have jc:=hh.trans y;have K:Mod (λa=>a=g) C I:=ab.trans y.mod;have du:=J.ext Flat.ext jc;clear dt O;refine aa ?_;refine J_ (C5 m.vars[c] _ m.scalars I (c5.ext jc)) ?_;rintro _ t ⟨rfl,z⟩;refine⟨z,?_⟩;refine aa ?_;refine _Y (k:=.i64) (k':=.i64) (dU m c) (dU m c+(o.cells m.vars[c] m.scalars).toNat) J (by simp[dy,bS,Z]) (by simp[dy,bS,Z];omega) AW AW λbu P B=>?_;rw[show dU m c+(o.cells m.vars[c] m.scalars).toNat - dU m c=(o.cells m.vars[c] m.scalars).toNat from AW] at B ⊢;have bw:=Cj (s:=s) (inst:=q) k;refine aa ?_;intro ae aQ dv r Q;refine⟨z.trans r,?_⟩;have dw:=z.size;have gv:=r.size;have bx:Ext I ae:=z.trans r;have aS:=aC.ext bx;have gw:=K.size;refine T_ (enc:=iO) (y:=(⟨[.slice bu (o.cells m.vars[c] m.scalars).toNat P],rfl,by simp[Value.oneCell']⟩:hp 1)) aS Q rfl hs rp AW (by unfold maxLen;omega) AW λaj ak dx af dz b9=>?_;have gx:=aS.box b9 (bx.obj d) Ae;have aT:=(K.trans bx.mod).own b9 λa u=>(aS.lt a u).1;clear d aS aC Q aB e f;refine aa ?_;intro aD cb dB;refine aa ?_;refine⟨k,aZ,(aj,ak,dx),trivial,⟨aT.trans (cb.mod rfl),dB⟩,_,by simp[aP],dz.wr cb dd,λa W av=>?_⟩;by_cases u:a<Y.length
  .rw[AJ3 u];exact bp a u av
  .have h:a=Y.length:=by simp at W;omega
   subst h;rw[AJ4 (Fy _)];obtain⟨_,dC⟩:=List.getElem?_eq_some_iff.1 bw;subst aP;rw[dC];exact⟨.slice bu _ P,Ah,B⟩
 have dF:m.vars.length=c:=AW
 subst dF;obtain⟨bz,bA,bB⟩:=v;have gy:=ca d;have gz:=aw.size;have dG:∀{b},Mod (λa=>a<C.heap.size) G b->Ext w b->hB b (.slice bz bA bB) (cd m s q).vars:=λ{b} j dJ =>
  a4.B4 (by rw[aP,OF]) (aR.iw hs (aR.mod ax j λa u az=>by have:=(ax.lt a u).1;omega)) λa W av=>(bp a W av).ext dJ
 clear ax bp aP;have cc:∀{b},Mod (λa=>a=g) G b->Mod (λa=>a=g) C b:=λj=>aw.trans j;refine aa ?_;clear e f;refine K_ 73 m.ay.length [0,2,3,71,72] (λ_:ef=>[]) (none,0,0) (λc v b=>(Mod (λa=>a=g) G b/\b.heap[g]? = some (.cells #[.slice bz bA bB,.slice v.1 v.2.1 v.2.2,.slice none 0 0,.slice none 0 0,.I 0] T.s))/\aR da T.a 1 G.heap.size b (.slice v.1 v.2.1 v.2.2) (((cd m s q).lens).take c)) aV aV ⟨⟨Mod.refl _ _,d⟩,by simpa using aR.nil _ _ _ _ _⟩ ?_;clear d;rintro c v bn A bo ⟨⟨ab,d⟩,O⟩;have hh:=bk (cc ab);have e:=aK hh;have f:=aM hh;refine aa ?_;apply I_<;>intro br
 .have k:c<m.ay.length:=AW
  have b6:=ud k;have df:=nu m;obtain⟨bt,dK⟩:=AP k;obtain⟨gA,rfl⟩:=b3.addr;obtain⟨gG,rfl⟩:=J.addr;have ch:=J.ext Flat.ext hh;have dL:=b3.ext Flat.ext hh;refine aa ?_;intro I y;replace d:=y.obj d;replace e:=y.obj e;replace f:=y.obj f;have aC:=O.ext y;have K:Mod (λa=>a=g) G I:=ab.trans y.mod;have du:=ch.ext Flat.ext y;clear ch O dL;refine aa ?_;refine M_ (bT m c) (by rw[dK]) AW ?_;refine aa ?_;intro t gH gK z cj;refine⟨z,?_⟩;have dN:bT m c<s.length:=AW
  have bw:=ahR (inst:=q) k dN;have gL:(((cd m s q).lens).take c).length<=12:=by rw[NU,OE];omega
  have aU:=aC.ext z;have gM:=K.size;have dw:=z.size;refine T_ (y:=s[bT m c]) aU cj rfl (λ_=>rfl) je AW (by unfold maxLen;omega) AW λaj ak P S ck cm=>?_;have gN:=aU.box cm (z.obj d) Ae;have al:=(K.trans z.mod).own cm λa u=>(aU.lt a u).1;clear d aU aC cj e f;refine aa ?_;intro ae cp Q;refine aa ?_;refine⟨k,aZ,(aj,ak,P),trivial,⟨al.trans (cp.mod rfl),Q⟩,?_⟩;rw[AJ8,bw];exact ck.mod (cp.mod (A:=λa=>a=g) rfl) λa u h=>by have:=(ck.lt a u).1;omega
 have gQ:m.ay.length=c:=AW
 rw[Im (by rw[OE];omega)] at O;have cq:ei G (λw=>cH w (.slice v.1 v.2.1 v.2.2) (cd m s q).lens) A:=aR.new (λ_=>rfl) O;obtain⟨cr,ct,cu⟩:=v;have gR:=ca d;have gU:=ab.size;have dP:∀{b},Mod (λa=>a=g) A b->Mod (λa=>a=g) C b:=λj=>cc (ab.trans j);clear O;refine aa ?_;clear e f;refine K_ 99 m.procs.length [0,2,3,97,98] (λ_:ef=>[]) (none,0,0) (λc v b=>(Mod (λa=>a=g) A b/\b.heap[g]? = some (.cells #[.slice bz bA bB,.slice cr ct cu,.slice none 0 0,.slice v.1 v.2.1 v.2.2,.I 0] T.s))/\∃l:C_ Nat,l.length=c/\oU m A.heap.size l (λp=>ka m s p (m.procs[p]?.map (·.cb) |>.getD 0) 0) (.slice v.1 v.2.1 v.2.2) b) aV aV ⟨⟨Mod.refl _ _,d⟩,[],rfl,⟨aR.nil _ _ _ _ _,(λg1 j=>nomatch j),AL1,(λp j=>nomatch j)⟩⟩ ?_;clear d;rintro c v bn I bo ⟨⟨K,d⟩,l,aW,an⟩;have jc:=bk (dP K);have e:=aK jc;have f:=aM jc;refine aa ?_;apply I_<;>intro br
 .have k:c<m.procs.length:=AW
  obtain⟨az,rfl⟩:=aH.addr;obtain⟨dQ,dR,dI,N,bC,bE⟩:=aH.at c k;obtain⟨dS,dT,rfl,dV⟩:=bC.form;obtain⟨dW,dX,rfl,dZ⟩:=bE.form;have ea:=(X.proc _ (ID k)).cb;replace N:=N.ext jc;refine aa ?_;intro t g2 g3 z aX;replace d:=z.obj d;have U:=an.ext z;have ao:Mod (λa=>a=g) A t:=K.trans z.mod;clear N an e f;refine aa ?_;intro S i;replace d:=i.obj d;replace aX:=i.obj aX;have aq:=U.ext i;have al:Mod (λa=>a=g) A S:=ao.trans i.mod;refine aa ?_;refine _Z m.procs[c].cb.toNat AW AW ?_;intro ae aQ dv r Q;refine⟨r,?_⟩;refine aa ?_;intro af g4 g5 L x;refine⟨r.trans L,?_⟩;have aY:=r.trans L;have aE:=aq.ext aY;have eb:=zt (m:=m) (bs:=l) AW;have g8:=X.procs;have ha:=al.size;have hb:=aY.size;refine T_ (y:=(aQ,m.procs[c].cb.toNat)) aE.row x rfl (λ_=>rfl) amr AW (by unfold maxLen;omega) AW λaj ak P aD eg bF=>?_;have hc:=aE.row.box bF (aY.obj d) Ae;have bG:=(al.trans aY.mod).own bF λa u=>(aE.row.lt a u).1;have eh:oU m A.heap.size (l++[aQ]) _ (.slice aj ak P) aD:=aE.snoc AW (by subst aW;exact eg) bF AW (λp B h=>by have:=ca (aq.b0 p B);omega) (by
   subst aW;rw[ZH];simp only[List.getElem?_eq_getElem k,Option.map_some,Option.getD_some];exact L.obj Q)
  clear d aE aq U x;refine aa ?_;intro bH cv aX;refine aa ?_;exact⟨k,aZ,(aj,ak,P),trivial,⟨bG.trans (cv.mod rfl),aX⟩,l++[aQ],by simp[aW],eh.mod (cv.mod (A:=λa=>a=g) rfl) λa h=>AW⟩
 have ek:m.procs.length=c:=AW
 subst ek;obtain⟨bI,cw,cx⟩:=v;have hd:=ca d;have hj:=K.size;have en:∀{b},Mod (λa=>a∈l) I b->Ext w b:=λj=>j.ext jc λa u h=>by have:=an.low a h;have:=bb.size;omega
 have ep:¬g∈l:=λj=>by have:=an.low _ j;omega
 have cB:∀{b},Mod (λa=>a∈l) I b->b.heap[g]? = _:=λj=>j.obj ep d;refine aa ?_;refine K_ 120 (o.insts m).length [0,2,3,118,119] (λ_:Unit=>[]) () (λc _ b=>Mod (λa=>a∈l) I b/\oU m A.heap.size l (λp=>ka m s p (m.procs[p]?.map (·.cb) |>.getD 0) c) (.slice bI cw cx) b) aV aV ⟨Mod.refl _ _,an⟩ ?_;clear an d e f;rintro c _ bn t bo ⟨ao,U⟩;have fT:=en ao;have e:=aK fT;have f:=aM fT;have d:=cB ao;refine aa ?_;apply I_<;>intro br
 .have k:c<(o.insts m).length:=AW
  have a0:=aI.ext Flat.ext fT;obtain⟨er,rfl⟩:=aI.addr;have bJ:=qM _ (ID k);obtain⟨n,M,cC,bK⟩:=uO bJ;have cD:(o.insts m)[c]?.map (·.proc)=some (n:Int):=by rw[List.getElem?_eq_getElem k,AI3,cC]
  obtain⟨aF,cF,hk⟩:=bX.loc k M bK;obtain⟨hl,cI⟩:=List.getElem?_eq_some_iff.1 cF;obtain⟨bt,Z⟩:=qK k;obtain⟨hn,rfl⟩:=J.addr;obtain⟨ev,rfl⟩:=au.addr;have ea:=(X.proc _ (ID M)).cb;refine aa ?_;intro dh ew ey aA ez;refine aa ?_;intro S cJ aG;have i:Ext t S:=cJ.ext aA ey;replace aG:S.heap[ew]? = some (.cells #[.I n,.I (o.insts m)[c].elem] T.c):=by rw[<-cC];exact aG
  replace d:=i.obj d;replace e:=i.obj e;replace f:=i.obj f;have aq:=U.ext i;have al:Mod (λa=>a∈l) I S:=ao.trans i.mod;clear cJ aA ez a0 U;refine aa ?_;intro ae r;replace d:=r.obj d;replace f:=r.obj f;replace e:=r.obj e;replace aG:=r.obj aG;have bL:=aq.ext r;have eB:Mod (λa=>a∈l) I ae:=al.trans r.mod;have ht:=J.ext Flat.ext ((fT.trans i).trans r);have hv:=au.ext Flat.ext ((fT.trans i).trans r);clear aq;have eb:=zt (m:=m) (bs:=l) AW;have cL:=aR.iw (enc:=AY) (sz:=1) (λ_=>rfl) bL.row;obtain⟨hx,rfl⟩:∃az,bI=some az:=cL.addr;have hD:=cL.len.1;obtain⟨hE,cM⟩:=List.getElem?_eq_some_iff.1 (GS (m:=m) (bs:=l) (k:=n) AW M);have a2:aF<m.procs[n].cb.toNat:=AW
  have cN:(rC m l)[n].1=l[n]:=by rw[cM]
  have bM:(rC m l)[n].2=m.procs[n].cb.toNat:=by rw[cM]
  have a5:=bL.b0 n AW;simp only[List.getElem?_eq_getElem M,Option.map_some,Option.getD_some] at a5;rw[<-cN] at a5;have cO:=wY m s n m.procs[n].cb c;have eD:=FA (m:=m) (s:=s) (p:=n) (k:=c) a2;have de:=Qb m s n aF c;have hG:cH ae (.slice (some ⟨(rC m l)[n].1,0,none⟩) (rC m l)[n].2 (rC m l)[n].2) (ka m s n m.procs[n].cb c):=UF a5 (by rw[bM,cO]) (by rw[cO];unfold maxLen;omega);have hL:aF<(ka m s n m.procs[n].cb c).length:=AW
  obtain⟨_,eE⟩:=List.getElem?_eq_some_iff.1 eD;refine aa ?_;refine M_ (b7 m c) (by rw[Z]) (by rw[db];omega) ?_;refine aa ?_;refine M_ aF cI (by rw[bM];exact a2) ?_;refine aa ?_;refine M_ aF cI (by rw[bM];exact a2) ?_;refine aa ?_;refine _B a5 (by rw[AK7,xW];omega) rfl λaf ar x=>?_;rw[L7 (AH5 _),eE,<-ZG cD cF a2] at x;rw[cN] at ar x;refine aa ?_;refine⟨k,aZ,(),trivial,eB.trans (ar.mod (ID _)),bL.step (q:=n) AW ar (by simp only[List.getElem?_eq_getElem M,Option.map_some,Option.getD_some];exact x) λp B hM=>?_⟩;have eH:p<m.procs.length:=AW
  simp only[List.getElem?_eq_getElem eH,Option.map_some,Option.getD_some];exact ZF (by rw[cD];intro h;have:=Option.some.inj h;omega)
 have eI:(o.insts m).length=c:=AW
 subst eI;have cP:Mod (λa=>a=g) A t:=K.comp ao (λa _ h=>h) λa u h=>by have:=U.low a h;omega
 have bN:Mod (λa=>a=g) G t:=ab.trans cP;have eJ:Mod (λa=>a=g) C t:=aw.trans bN;have H:=b4 eJ;have eK:ei G (λw=>cH w (.slice cr ct cu) (cd m s q).lens) t:=cq.move cP (λa _ h=>AW) λa _ h=>h;have eM:∀{b},Mod (λa=>a<G.heap.size) t b->hB b (.slice bI cw cx) (cd m s q).at_:=λ{b} ba=>(U.mod ba λa h=>AW).aui aW (VF m s q) (λp B=>by
   simp only[List.getElem?_eq_getElem B,Option.map_some,Option.getD_some];exact⟨wY _ _ _ _ _,by have:=(X.proc _ (ID B)).cb;omega⟩) λp B=>by
   simp only[List.getElem?_eq_getElem B,Option.map_some,Option.getD_some];exact ahQ B
 have hN:=bN.size;clear cq U b4 cB;have M:=c3.av;have b6:=Hx M;obtain⟨bt,Z⟩:=qK M;obtain⟨ev,rfl⟩:=au.addr;have cQ:=au.ext Flat.ext fT;obtain⟨er,rfl⟩:=aI.addr;have a0:=aI.ext Flat.ext fT;have bJ:=qM _ (ID M);obtain⟨ag,B,eQ,bK⟩:=uO bJ;have hO:(kj m (o.insts m)[q]).length=1+m.procs[ag].vars.length:=by rw[bK,pt]
 obtain⟨az,rfl⟩:=aH.addr;obtain⟨dQ,dR,dI,N,bC,bE⟩:=aH.at ag B;obtain⟨dS,dT,rfl,dV⟩:=bC.form;obtain⟨dW,dX,rfl,dZ⟩:=bE.form;refine aa ?_;intro S i;replace d:=i.obj d;replace f:=i.obj f;replace e:=i.obj e;replace H:=i.obj H;have eR:=cQ.ext Flat.ext i;have eS:=a0.ext Flat.ext i;clear cQ a0;refine aa ?_;intro ae cS eU r Q;refine⟨r,?_⟩;refine aa ?_;intro af ar x;have L:Ext S af:=ar.ext r eU;replace x:af.heap[cS]? = some (.cells #[.I ag,.I (o.insts m)[q].elem] T.c):=by rw[<-eQ];exact x
 replace d:=L.obj d;replace e:=L.obj e;replace f:=L.obj f;replace H:=L.obj H;have aT:Mod (λa=>a=g) t af:=i.mod.trans L.mod;have hP:=aT.size;have cT:Ext w af:=fT.trans (i.trans L);have eV:=au.ext Flat.ext cT;clear Q ar eS eR;refine aa ?_;intro aD ah;replace d:=ah.obj d;replace e:=ah.obj e;replace f:=ah.obj f;replace H:=ah.obj H;replace x:=ah.obj x;have bG:Mod (λa=>a=g) t aD:=aT.trans ah.mod;have bO:Ext w aD:=cT.trans ah;have hQ:=J.ext Flat.ext bO;clear eV;replace N:=N.ext bO;unfold ee.enc at N;refine aa ?_;intro bH V;replace d:=V.obj d;replace e:=V.obj e;replace f:=V.obj f;replace H:=V.obj H;replace x:=V.obj x;have eW:Mod (λa=>a=g) t bH:=bG.trans V.mod;have cU:Ext w bH:=bO.trans V;have hR:=J.ext Flat.ext cU;replace N:=N.ext V;refine aa ?_;refine _Y (k:=.i64) (k':=.i64) (b7 m q+1) (b7 m q+1+m.procs[ag].vars.length) J (by simp[dy,bS,Z]) (by simp[dy,bS,Z]) AW AW λbu P cW=>?_;rw[show b7 m q+1+m.procs[ag].vars.length - (b7 m q+1)=m.procs[ag].vars.length from AW] at cW ⊢;refine aa ?_;intro cX a6 hS;have eX:cS≠g:=by have:=i.size;omega
 replace x:=a6.obj x eX;replace H:=a6.obj H AW;have eY:Mod (λa=>a=g) t cX:=eW.trans (a6.mod rfl);have eZ:Ext w cX:=a6.ext cU AW;refine aa ?_;intro cY bP aG;have cZ:Mod (λa=>a=g) t cY:=eY.trans (bP.mod rfl);have e0:Ext w cY:=bP.ext eZ AW;replace H:=bP.obj H AW;refine aa ?_;intro bR bV hT;have bW:Ext w bR:=bV.ext e0 AW;have c1:Mod (λa=>a<G.heap.size) t bR:=(cZ.Ct λa h=>AW).trans (bV.mod AW);have e1:Mod (λa=>a<C.heap.size) G t:=bN.Ct λa h=>AW
 have e2:Mod (λa=>a<C.heap.size) t bR:=(cZ.Ct λa h=>AW).trans (bV.mod AW);refine aa ?_;obtain⟨e3,e6⟩:=ym s M (n:=m.procs[ag].vars.length) AW;refine⟨⟨_,rfl,_,_,_,_,by rw[e6];rfl,dG (e1.trans e2) bW,eK _ c1,?_,eM c1⟩,bW⟩;rw[e3];exact cW.ext Flat.ext bW
structure ml(w0 w:World)(b4 dK g c q base:Nat)(m:o.Model)(s:List Int):Prop where
 iu:Ext w0 w
 low:w0.heap.size<=base
 ET:qo w0 dK m
 box:w.heap[b4]? = some (.cells #[.pointer (some ⟨dK,0,none⟩),.int .i64 q,.slice (some ⟨g,0,none⟩) s.length c] T.yW)
 own:fe base w (.slice (some ⟨g,0,none⟩) s.length c) s
theorem ml.ext{w0 w w':A_}{b d g c q base:Nat}{m:o.Model}{s:C_ Int}(a:Ext w w')(h:ml w0 w b d g c q base m s):ml w0 w' b d g c q base m s :=
 ⟨h.iu.trans a,h.low,h.ET,a.obj h.box,h.own.ext a⟩
def ml.FE{w0 w:A_}{a b g c q base:Nat}{m:o.Model}{s:C_ Int}(h:ml w0 w a b g c q base m s):base<=g/\g<w.heap.size:=aR.lt h.own g rfl
def ml.ne{w0 w:A_}{b d g c q base:Nat}{m:o.Model}{s:C_ Int}(h:ml w0 w b d g c q base m s):b≠g:=λe=>by
 obtain⟨i,f⟩:=aR.b0 h.own g rfl;have a:=h.box;rw[e,f] at a;injection a with a
 injection a with _ a
 revert a;decide
def ml.mod{w0 w w':A_}{a b g c q base:Nat}{m:o.Model}{s t:C_ Int}(h:ml w0 w a b g c q base m s)(d:Mod (λe=>e=g) w w')(i:fe base w' (.slice (some ⟨g,0,none⟩) s.length c) t)(f:t.length=s.length):ml w0 w' a b g c q base m t :=
 ⟨d.ext h.iu λe j k=>by have:=h.low;have:=h.FE;omega,h.low,h.ET,by rw[f];exact d.obj h.ne h.box,by rw[f];exact i⟩
def ml.qP{w0 w:A_}{a b g c q base:Nat}{m:o.Model}{s:C_ Int}(h:ml w0 w a b g c q base m s):cH w (.slice (some ⟨g,0,none⟩) s.length c) s:=gT h.own
def k5(base g:Nat)(v:B_)(a:H_ (C_ Int))(b:B_)(w w':A_):Prop :=
 ((∃c,a=some c/\b = .bool true/\fe base w' v c)\/(a=none/\b = .bool false))/\Mod (λd=>d=g) w w'
def k5.before{base g:Nat}{v:B_}{a:H_ (C_ Int)}{b:B_}{w w1 w':A_}(h:k5 base g v a b w1 w')(c:Ext w w1):k5 base g v a b w w':=⟨h.1,c.mod.trans h.2⟩
theorem k5.none{base g:Nat}{v:B_}{a:H_ (C_ Int)}{w w':A_}(b:a=Option.none)(c:Ext w w'):k5 base g v a (.bool false) w w':=⟨.inr ⟨b,rfl⟩,c.mod⟩
def k5.TR{base g:Nat}{v:B_}{c:H_ (C_ Int)}{b:B_}{w w':A_}(h:k5 base g v c b w w'):∃d:Bool,b = .bool d:=by
 rcases h.1 with ⟨_,_,a,_⟩ | ⟨_,a⟩
 .exact⟨_,a⟩
 .exact⟨_,a⟩
def Dn{w0:A_}(b d g c q p base:Nat)(m:o.Model)(s:C_ Int)(f:B_)(e:C_ o.Node)(w:A_)(a:ml w0 w b d g c q base m s)(h:(o.check m).bN=0)(i:o.Fits m s)(j:hI m q p)(k:fH w f e) :
  EG F.KA #[.pointer (some ⟨b,0,none⟩),f] w λn r=>n = .tuple #[.I (o.eval e (cd m s q)).1,.bool (decide ((o.eval e (cd m s q)).2=0))]/\Ext w r:=by
 obtain⟨x,y,rfl,z⟩:=k.form;refine bm E.KA ?_;refine aa ?_;refine J_ (anf b d q p _ m s w a.box (a.ET.ext a.iu) h a.qP i j) ?_;rintro _ t ⟨⟨A,rfl,u⟩,l⟩;refine aa ?_;refine J_ (amG _ e _ (cd m s q) t (k.ext l) (QY u (QZ (g6 h) i j.av))) ?_;rintro _ B ⟨rfl,v⟩;refine aa ?_;exact⟨aZ,l.trans v⟩
def Ks{w0:A_}(f p g c q base:Nat)(m:o.Model)(s:C_ Int)(k:Nat)(x n:Int)(w:A_)(h:ml w0 w f p g c q base m s)(r:gm m)(O:s.length=cG m)(t:x=k)(u:k<cG m) :
  EG F.vG #[.pointer (some ⟨f,0,none⟩),.I x,.I n] w λv y=>k5 base g (.slice (some ⟨g,0,none⟩) s.length c) (o.putAt m s k n) v w y:=by
 subst t;have P:=h;obtain⟨a,Q,⟨S,i,j⟩,U,z⟩:=h;obtain⟨V,W,X,Y,Z,ab,ae,af,ag,ah,ai,aj,ak,bg,al,bj,an,ao,aq,ar,au,av,aw,ax,rfl,_,_,A,B,C,b,d,G,H,I,J,K,L⟩:=j.form;replace i:=a.obj i;replace b:=b.ext Flat.ext a;replace d:=d.ext Flat.ext a;obtain⟨l,e⟩:=ZM u;have az:=Ms m;have aA:=Mq m;have aB:(bD m).length=cG m:=rfl;have aC:(o.layout m).aQ[k]' AW=(bD m)[k].aQ:=Mr _ l;have aD:(o.layout m).ab[k]' AW=(bD m)[k].ab:=Mp _ l;have aE:cG m<=64:=iq r;obtain⟨aF,rfl⟩:=b.addr;obtain⟨aG,rfl⟩:=d.addr;clear A B C G H I J K L j;refine bm E.vG ?_;refine aa ?_;apply I_<;>intro aH
 .refine aa ?_;exact k5.none (by unfold o.putAt;rw[e,if_pos (.inl (by simp only;omega))]) (Ext.refl _)
 refine aa ?_;apply I_<;>intro aI
 .refine aa ?_;exact k5.none (by unfold o.putAt;rw[e,if_pos (.inr (by simp only;omega))]) (Ext.refl _)
 refine aa ?_;refine _a (k:=k) z AW λaJ M N=>?_;refine aa ?_;exact⟨.inl ⟨_,by unfold o.putAt;rw[e,if_neg (by simp only;omega)],aZ,N⟩,M.mod rfl⟩
def anz{w0:A_}(d f g c q p base:Nat)(m:o.Model)(s:C_ Int)(a:o.Act)(r t:B_)(w:A_)(b:ml w0 w d f g c q base m s)(u:(o.check m).bN=0)(v:o.Fits m s)(x:hI m q p)
  (M:q3 (o.inner (m.procs[p]'(x.aC)) (fw m)) a)(y:a.kind=1)(N:fH w r a.index)(z:fH w t a.value) :
  EG F.FL #[.agg (a.enc r t).toArray,.pointer (some ⟨d,0,none⟩)] w λA O=>k5 base g (.slice (some ⟨g,0,none⟩) s.length c) (hq m s q a) A w O:=by
 obtain⟨au,av,rfl,_⟩:=N.form;obtain⟨aw,ax,rfl,_⟩:=z.form;have P:=g6 u;obtain⟨az,aA,aB⟩:=uR m;have Q:hq m s q a=if (o.eval a.value (cd m s q)).2≠0 then none else o.putAt m s (dU m a.to.toNat) (o.eval a.value (cd m s q)).1:=by
  unfold hq;rw[if_neg AW,if_pos y]
 rw[Q];unfold o.Act.enc;refine bm E.FL ?_;refine aa ?_;intro S aC aD h e;replace b:=b.ext h;refine aa ?_;refine J_ (Dn d f g c q p base m s _ a.value S b u v x (z.ext h)) ?_;rintro _ aE ⟨rfl,i⟩;replace b:=b.ext i;replace e:=i.obj e;obtain⟨j,U⟩:∃j,j=(o.eval a.value (cd m s q)).1:=⟨_,rfl⟩;obtain⟨B,V⟩:∃B,B=(o.eval a.value (cd m s q)).2:=⟨_,rfl⟩;rw[<-U,<-V];have W:=h.trans i;refine aa ?_;intro X k;replace b:=b.ext k;replace e:=k.obj e;have C:=W.trans k;have Y:=b;obtain⟨G,aF,⟨aG,H,I⟩,aH,aI⟩:=b;obtain⟨aJ,aK,aM,aP,aQ,aS,aT,aU,aW,aX,aY,a0,a2,bg,a5,bj,a6,a7,a9,ba,bb,bf,bk,bn,rfl,_,_,l,Z,ab,ae,af,ag,ah,ai,aj,ak,al⟩:=I.form;replace H:=G.obj H;obtain⟨bo,an,J,ao⟩:=M.set y;have n:a.to.toNat<m.vars.length:=(List.getElem?_eq_some_iff.1 J).1;obtain⟨bp,aq⟩:=Al n;have br:=qZ n;have bt:=nu m;have bu:=sg m.vars[a.to.toNat] m.scalars;have bw:=BU n;have bx:o.cells m.vars[a.to.toNat] m.scalars=1:=by
  have ar:m.vars[a.to.toNat]=an:=(List.getElem?_eq_some_iff.1 J).2;rw[ar];unfold o.cells;rw[if_pos ao]
 obtain⟨bz,rfl⟩:=l.addr;replace l:=l.ext Flat.ext G;clear Z ab ae af ag ah ai aj ak al I;refine aa ?_;refine I_ (λK=>?_) (λK=>?_);rotate_left
 .refine aa ?_;exact k5.none (by rw[if_pos K]) C
 rw[if_neg AW];refine aa ?_;refine M_ a.to.toNat AW AW ?_;refine aa ?_;refine J_ (Ks d f g c q base m s (dU m a.to.toNat) _ j X Y P v.len (by rw[aq]) AW) ?_;rintro A bA L;obtain⟨bB,rfl⟩:=L.TR;refine aa ?_;exact L.before C
def anu{w0:A_}(e h g c q p base:Nat)(m:o.Model)(s:C_ Int)(a:o.Act)(t u:B_)(w:A_)(b:ml w0 w e h g c q base m s)(v:(o.check m).bN=0)(i:o.Fits m s)(d:hI m q p)
  (L:q3 (o.inner (m.procs[p]'(d.aC)) (fw m)) a)(x:a.kind=3)(M:fH w t a.index)(y:fH w u a.value) :
  EG F.FN #[.agg (a.enc t u).toArray,.pointer (some ⟨e,0,none⟩)] w λz N=>k5 base g (.slice (some ⟨g,0,none⟩) s.length c) (hq m s q a) z w N:=by
 obtain⟨ao,aq,rfl,_⟩:=M.form;obtain⟨ar,au,rfl,_⟩:=y.form;have A:=g6 v;obtain⟨av,aw,ax⟩:=uR m;have O:hq m s q a=if (o.eval a.value (cd m s q)).2≠0 then none else o.putAt m s (b7 m q+1+a.to.toNat) (o.eval a.value (cd m s q)).1:=by
  unfold hq;rw[if_neg (show ¬a.kind=5 by omega),if_neg (show ¬a.kind=1 by omega),if_neg (show ¬a.kind=2 by omega),if_pos x]
 rw[O];unfold o.Act.enc;refine bm E.FN ?_;refine aa ?_;intro P az aA j f;replace b:=b.ext j;refine aa ?_;refine J_ (Dn e h g c q p base m s _ a.value P b v i d (y.ext j)) ?_;rintro _ aB ⟨rfl,k⟩;replace b:=b.ext k;replace f:=k.obj f;obtain⟨l,Q⟩:∃l,l=(o.eval a.value (cd m s q)).1:=⟨_,rfl⟩;obtain⟨B,S⟩:∃B,B=(o.eval a.value (cd m s q)).2:=⟨_,rfl⟩;rw[<-Q,<-S];have U:=j.trans k;refine aa ?_;intro V n;replace b:=b.ext n;replace f:=n.obj f;have C:=U.trans n;have W:=b;obtain⟨G,aC,⟨aD,H,I⟩,aE,aF⟩:=b;obtain⟨aG,aH,aI,aJ,aK,aM,aP,aQ,aS,aT,aU,aW,aX,bg,aY,bj,a0,a2,a5,a6,a7,a9,ba,bb,rfl,_,_,X,Y,r,Z,ab,ae,af,ag,ah,ai,aj⟩:=I.form;replace H:=G.obj H;have ak:=d.av;obtain⟨bf,al⟩:=L.loc x;have bk:a.to.toNat<(m.procs[p]'(d.aC)).vars.length:=al;obtain⟨bn,an⟩:=qK ak;have bo:=d.room;have bp:cG m<=64:=iq A;have br:=i.len;obtain⟨bt,rfl⟩:=r.addr;replace r:=r.ext Flat.ext G;clear X Y Z ab ae af ag ah ai aj I;refine aa ?_;refine I_ (λJ=>?_) (λJ=>?_);rotate_left
 .refine aa ?_;exact k5.none (by rw[if_pos J]) C
 rw[if_neg AW];refine aa ?_;refine J_ (Ks e h g c q base m s (b7 m q+1+a.to.toNat) _ l V W A i.len (by rw[an];omega) AW) ?_;rintro z bu K;obtain⟨bw,rfl⟩:=K.TR;refine aa ?_;exact K.before C
def anl{w0:A_}(j r g c q p base:Nat)(m:o.Model)(s:C_ Int)(a:o.Act)(N O:B_)(w:A_)(d:ml w0 w j r g c q base m s)(A:(o.check m).bN=0)(t:o.Fits m s)(B:hI m q p)
  (al:q3 (o.inner (m.procs[p]'(B.aC)) (fw m)) a)(P:a.kind=2)(Q:fH w N a.index)(S:fH w O a.value) :
  EG F.FM #[.agg (a.enc N O).toArray,.pointer (some ⟨j,0,none⟩)] w λU C=>k5 base g (.slice (some ⟨g,0,none⟩) s.length c) (hq m s q a) U w C:=by
 obtain⟨aK,aM,rfl,_⟩:=Q.form;obtain⟨aP,aQ,rfl,_⟩:=S.form;have V:=g6 A;obtain⟨aS,aT,aU⟩:=uR m;have W:hq m s q a=if (o.eval a.value (cd m s q)).2≠0 then none else wi m s a (o.eval a.index (cd m s q)) (o.eval a.value (cd m s q)).1:=by
  unfold hq;rw[if_neg (show ¬a.kind=5 by omega),if_neg (show ¬a.kind=1 by omega),if_pos P]
 rw[W];unfold o.Act.enc;refine bm E.FM ?_;refine aa ?_;intro an aW aX G e;replace d:=d.ext G;refine aa ?_;refine J_ (Dn j r g c q p base m s _ a.index an d A t B (Q.ext G)) ?_;rintro _ ao ⟨rfl,H⟩;replace d:=d.ext H;replace e:=H.obj e;have X:=G.trans H;refine aa ?_;refine J_ (Dn j r g c q p base m s _ a.value ao d A t B (S.ext X)) ?_;rintro _ aY ⟨rfl,I⟩;replace d:=d.ext I;replace e:=I.obj e;have k:=X.trans I;obtain⟨l,aq⟩:∃l,l=(o.eval a.value (cd m s q)).1:=⟨_,rfl⟩;obtain⟨u,ar⟩:∃u,u=(o.eval a.value (cd m s q)).2:=⟨_,rfl⟩;obtain⟨f,Y⟩:∃f,f=(o.eval a.index (cd m s q)).1:=⟨_,rfl⟩;obtain⟨J,Z⟩:∃J,J=(o.eval a.index (cd m s q)).2:=⟨_,rfl⟩;have ab:wi m s a (o.eval a.index (cd m s q)) l=if J≠0\/f<1\/(zY m a.to.toNat:Int)<f then none else o.putAt m s (dU m a.to.toNat+f.toNat - 1) l:=by unfold wi;rw[<-Y,<-Z]
 rw[<-aq,<-ar,ab,<-Y,<-Z];clear ab W;have au:=d;obtain⟨v,a0,⟨a2,h,ae⟩,x,a5⟩:=d;obtain⟨a6,a7,a9,ba,bb,bf,bk,bn,bo,bp,br,bt,bu,bg,bw,bj,bx,bz,bA,bB,bC,bE,bF,bG,rfl,_,_,n,av,aw,ax,az,y,K,aA,aB,aC,aD⟩:=ae.form;replace h:=v.obj h;obtain⟨bH,aE,bI⟩:=al.item P;have z:a.to.toNat<m.vars.length:=aE;obtain⟨bJ,aF⟩:=Al z;have bK:=qZ z;have bL:=nu m;have bM:=BU z;have bN:=sg m.vars[a.to.toNat] m.scalars;have bO:cG m<=64:=iq V;have bP:=t.len;obtain⟨bR,rfl⟩:=n.addr;obtain⟨bV,rfl⟩:=K.addr;replace n:=n.ext Flat.ext v;replace y:=y.ext v;have aG:=((K.at a.to.toNat z).cells).ext v;clear av aw ax az K aA aB aC aD ae;refine aa ?_;refine I_ (λaf=>?_) (λaf=>?_);rotate_left
 .refine aa ?_;intro L b;refine k5.none ?_ (k.trans b);by_cases ag:u≠0
  .rw[if_pos ag]
  .rw[if_neg ag,if_pos (.inl af)]
 refine aa ?_;refine I_ (λah=>?_) (λah=>?_);rotate_left
 .refine aa ?_;intro L b;exact k5.none (by rw[if_pos ah]) (k.trans b)
 rw[if_neg (show ¬u≠0 by omega)];refine aa ?_;refine I_ (λai=>?_) (λai=>?_)
 .refine aa ?_;intro L b;exact k5.none (by rw[if_pos (.inr (.inl ai))]) (k.trans b)
 refine aa ?_;refine M_ a.to.toNat AW AW ?_;refine aa ?_;refine P_ (.I (o.cells m.vars[a.to.toNat] m.scalars)) (λC aH=>C5 m.vars[a.to.toNat] _ m.scalars C (y.ext aH)) ?_;refine aa ?_;intro L b;refine I_ (λaI=>?_) (λaI=>?_)
 .refine aa ?_;exact k5.none (by rw[if_pos (.inr (.inr AW))]) (k.trans b)
 rw[if_neg AW];have M:=au.ext b;replace e:=b.obj e;replace h:=b.obj h;replace x:=b.obj x;have aj:=n.ext Flat.ext b;clear n y aG;refine aa ?_;intro aJ i;replace M:=M.ext i;replace e:=i.obj e;replace h:=i.obj h;replace x:=i.obj x;replace aj:=aj.ext Flat.ext i;refine aa ?_;refine M_ a.to.toNat AW AW ?_;refine aa ?_;refine J_ (Ks j r g c q base m s (dU m a.to.toNat+f.toNat - 1) _ l aJ M V t.len (by rw[aF];omega) AW) ?_;rintro U bW ak;obtain⟨bX,rfl⟩:=ak.TR;refine aa ?_;exact ak.before ((k.trans b).trans i)
end Go.Proofs.R
namespace o
def Qx(m:Model)(s:C_ Int)(c:Nat):(s.drop (bT m c)).take (bT m c+(1+gq m c) - bT m c)=chanOf m s c:=by
 unfold chanOf;rw[show bT m c+(1+gq m c) - bT m c=1+gq m c from AW]
end o
namespace Go.Proofs.R
open Go Go.RowKit a8 o
def anw{w0:A_}(n r g c q p base:Nat)(m:o.Model)(s:C_ Int)(a:o.Act)(L M:B_)(w:A_)(b:ml w0 w n r g c q base m s)(ae:(o.check m).bN=0)(N:o.Fits m s)(j:hI m q p)
  (O:q3 (o.inner (m.procs[p]'(j.aC)) (fw m)) a)(t:a.kind=5)(af:fH w L a.index)(ag:fH w M a.value) :
  EG F.FR #[.agg (a.enc L M).toArray,.pointer (some ⟨n,0,none⟩)] w λk u=>k5 base g (.slice (some ⟨g,0,none⟩) s.length c) (hq m s q a) k w u:=by
 obtain⟨aW,aX,rfl,_⟩:=af.form;obtain⟨aY,a0,rfl,_⟩:=ag.form;have v:=g6 ae;obtain⟨a2,a5,a6⟩:=uR m;have P:hq m s q a=yb m s q a:=by unfold hq;rw[if_pos t]
 rw[P];unfold yb;clear P;obtain⟨a7,ah⟩:=O.chan (.inr t);have x:a.to.toNat<m.ay.length:=ah;have ai:a.to=(a.to.toNat:Nat):=AW
 have aj:(o.chanOf m s a.to.toNat).length=1+gq m a.to.toNat:=pI (by rw[N.len];exact mn x);have a9:=mn x;obtain⟨ba,ak⟩:=O.recv t;have bb:a.loc.toNat<(m.procs[p]'(j.aC)).vars.length:=ak;have bf:=j.room;have bk:=N.len;have bn:cG m<=64:=iq v;have al:=j.av;obtain⟨bo,an⟩:=qK al;unfold o.Act.enc;rw[ai,AG4];have bp:=b.FE;refine bm E.FR ?_;refine aa ?_;intro br bt bu Q e;replace b:=b.ext Q;have y:=b.box;refine aa ?_;refine P_ (.tuple #[.I (bT m a.to.toNat),.I (bT m a.to.toNat+(1+gq m a.to.toNat):Nat)]) (λu ao=>Q9 r m a.to.toNat u (b.ET.ext (b.iu.trans ao)) v x) ?_;refine aa ?_;intro aq z;replace b:=b.ext z;replace e:=z.obj e;replace y:=b.box;have ar:=Q.trans z;refine aa ?_;refine _g (k:=.i64) (k':=.i64) (bT m a.to.toNat) (bT m a.to.toNat+(1+gq m a.to.toNat)) b.qP (by simp[dy,bS]) (by simp[dy,bS]) AW AW λau bg _ A=>?_;rw[Qx] at A;refine aa ?_;refine J_ (ak7 _ _ aq A AW) ?_;rintro _ bw ⟨av,B⟩;replace b:=b.ext B;replace e:=B.obj e;replace y:=b.box;have S:=ar.trans B;have bx:=b.FE;rcases av with ⟨aw,rfl⟩ | ⟨ax,az,bz,bA,U,rfl,aA⟩
 .rw[aw];refine aa ?_;refine _g (k:=.i64) (k':=.i64) (bT m a.to.toNat) (bT m a.to.toNat+(1+gq m a.to.toNat)) b.qP (by simp[dy,bS]) (by simp[dy,bS]) AW AW λaB bj C _=>?_;refine aa ?_;refine _h (p:=bT m a.to.toNat) (xs:=[]) b.own a4.nil (by simp only[dy,bS];rfl) (by simp only[dy,bS];rfl) C AW Cg Cg λk V f G=>?_;refine aa ?_;intro H h;refine aa ?_;have l:Mod (λd=>d=g) w H:=((Ext.mod (A:=λd=>d=g) S).trans (f.mod rfl)).trans h.mod;exact⟨.inr ⟨rfl,aZ⟩,l⟩
 .rw[U];have aC:=Iw U;rw[aj] at aC;refine aa ?_;refine _g (k:=.i64) (k':=.i64) (bT m a.to.toNat) (bT m a.to.toNat+(1+gq m a.to.toNat)) b.qP (by simp[dy,bS]) (by simp[dy,bS]) AW AW λaB bj C _=>?_;refine aa ?_;refine _h (p:=bT m a.to.toNat) b.own (gT aA) (by simp only[dy,bS];rfl) (by simp only[dy,bS];rfl) C AW Cg Cg λk V f G=>?_;rw[Im AW] at G;have I:(hY s (bT m a.to.toNat) ax).length=s.length:=BM AW;replace b:=b.mod (f.mod rfl) G I;have W:=f.obj e AW;have aD:Mod (λd=>d=g) w V:=S.mod.trans (f.mod rfl);clear y A e;refine aa ?_;intro H h;replace b:=b.ext h;replace W:=h.obj W;have aE:=b;obtain⟨X,bB,⟨bC,Y,Z⟩,aF,bE⟩:=b;obtain⟨bF,bG,bH,bI,bJ,bK,bL,bM,bN,bO,bP,bR,au,bg,bV,bW,bX,bY,bZ,b0,b1,b3,b4,b5,rfl,_,_,aG,aH,J,aI,aJ,aK,i,K,aM,aP,aQ⟩:=Z.form;replace Y:=X.obj Y;obtain⟨b6,rfl⟩:=J.addr;replace J:=J.ext Flat.ext X;rw[I] at aF;clear aG aH aI aJ aK i K aM aP aQ Z;refine aa ?_;rw[an];refine aa ?_;refine J_ (Ks n r g c q base m _ (b7 m q+1+a.loc.toNat) _ az H aE v AW AW AW) ?_;rintro k aS ⟨ab,aT⟩;rw[I] at ab;have l:Mod (λd=>d=g) w aS:=(aD.trans h.mod).trans aT;rcases ab with ⟨aU,i,rfl,K⟩ | ⟨i,rfl⟩
  .refine aa ?_;exact⟨.inl ⟨aU,i,aZ,K⟩,l⟩
  .refine aa ?_;exact⟨.inr ⟨i,aZ⟩,l⟩
def anx{w0:A_}(u v g c q p base:Nat)(m:o.Model)(s:C_ Int)(a:o.Act)(N O:B_)(w:A_)(b:ml w0 w u v g c q base m s)(P:(o.check m).bN=0)(x:o.Fits m s)(Q:hI m q p)
  (au:q3 (o.inner (m.procs[p]'(Q.aC)) (fw m)) a)(av:a.kind=4)(y:fH w N a.index)(S:fH w O a.value) :
  EG F.FO #[.agg (a.enc N O).toArray,.pointer (some ⟨u,0,none⟩)] w λz f=>k5 base g (.slice (some ⟨g,0,none⟩) s.length c) (hq m s q a) z w f:=by
 obtain⟨bn,bo,rfl,_⟩:=y.form;obtain⟨bp,br,rfl,_⟩:=S.form;have U:=g6 P;obtain⟨bt,bu,bw⟩:=uR m;have V:hq m s q a=if (o.eval a.value (cd m s q)).2≠0 then none else u9 m s a.to.toNat (o.eval a.value (cd m s q)).1:=by
  unfold hq;rw[if_neg (show ¬a.kind=5 by omega),if_neg (show ¬a.kind=1 by omega),if_neg (show ¬a.kind=2 by omega),if_neg (show ¬a.kind=3 by omega)]
 rw[V];clear V;obtain⟨bx,aw⟩:=au.chan (.inl av);have h:a.to.toNat<m.ay.length:=aw;have ax:a.to=(a.to.toNat:Nat):=AW
 have az:(o.chanOf m s a.to.toNat).length=1+gq m a.to.toNat:=pI (by rw[x.len];exact mn h);have bz:=mn h;have bA:=x.len;have bB:cG m<=64:=iq U;unfold o.Act.enc;rw[ax,AG4];have bC:=b.FE;refine bm E.FO ?_;refine aa ?_;intro aA bE bF A d;replace b:=b.ext A;refine aa ?_;refine J_ (Dn u v g c q p base m s _ a.value aA b P x Q (S.ext A)) ?_;rintro _ bG ⟨rfl,B⟩;replace b:=b.ext B;replace d:=B.obj d;have aB:=A.trans B;obtain⟨e,aC⟩:∃e,e=(o.eval a.value (cd m s q)).1:=⟨_,rfl⟩;obtain⟨C,aD⟩:∃C,C=(o.eval a.value (cd m s q)).2:=⟨_,rfl⟩;rw[<-aC,<-aD];refine aa ?_;intro aE G;replace b:=b.ext G;replace d:=G.obj d;have aF:=aB.trans G;obtain⟨bH,W,X⟩:=b.ET;obtain⟨bI,bJ,bK,bL,bM,bN,bO,bP,bR,bV,bW,bX,aG,bg,bY,bZ,b0,b1,b3,b4,b5,b6,b8,b9,rfl,_,_,aH,aI,aJ,aK,aM,Y,aP,H,aQ,aS,aT⟩:=X.form;obtain⟨cb,rfl⟩:=H.addr;have i:=b.iu.obj W;have k:=b.box;have aU:=((H.at a.to.toNat h).cells).ext b.iu;have l:=Y.ext b.iu;clear aH aI aJ aK aM Y aP H aQ aS aT W X;refine aa ?_;intro cc ch aW Z ab;refine⟨Z,?_⟩;refine X_ ab rfl rfl (by simp[Value.oneCell',ed.enc]) λaX ae aY=>?_;have j:Ext aE aX:=ae.ext Z aW;replace b:=b.ext j;replace i:=j.obj i;replace k:=b.box;replace d:=j.obj d;replace l:=l.ext j;have a0:=aF.trans j;clear ab ae aU;obtain⟨n,af⟩:∃n,n=(dM m.ay[a.to.toNat].scalar m.ay[a.to.toNat].aQ m.ay[a.to.toNat].ab m.scalars).aQ:=⟨_,rfl⟩;obtain⟨ag,ah⟩:∃y,y=(dM m.ay[a.to.toNat].scalar m.ay[a.to.toNat].aQ m.ay[a.to.toNat].ab m.scalars).ab:=⟨_,rfl⟩;have ai:u9 m s a.to.toNat e=if e<n\/ag<e then none else (l8 (o.chanOf m s a.to.toNat) e).map (hY s (bT m a.to.toNat)):=by
  unfold u9 uf;rw[List.getElem?_eq_getElem h,af,ah]
 rw[ai];clear ai;refine aa ?_;refine P_ (.tuple #[.I n,.I ag]) (λf I=>by
  rw[af,ah,show dM m.ay[a.to.toNat].scalar m.ay[a.to.toNat].aQ m.ay[a.to.toNat].ab m.scalars=_ from w3 ⟨⟨#[]⟩,m.ay[a.to.toNat].scalar,0,m.ay[a.to.toNat].aQ,m.ay[a.to.toNat].ab,0⟩ m.scalars];exact Jt ⟨⟨#[]⟩,m.ay[a.to.toNat].scalar,0,m.ay[a.to.toNat].aQ,m.ay[a.to.toNat].ab,0⟩ _ m.scalars f (l.ext I)) ?_
 refine aa ?_;intro cj r;replace b:=b.ext r;replace i:=r.obj i;replace k:=b.box;replace d:=r.obj d;have t:=a0.trans r;clear aY l;refine aa ?_;refine I_ (λaj=>?_) (λaj=>?_);rotate_left
 .refine aa ?_;exact k5.none (by rw[if_pos aj]) t
 rw[if_neg (show ¬C≠0 by omega)];refine aa ?_;refine I_ (λak=>?_) (λak=>?_)
 .refine aa ?_;exact k5.none (by rw[if_pos (.inl ak)]) t
 refine aa ?_;refine I_ (λa2=>?_) (λa2=>?_)
 .refine aa ?_;exact k5.none (by rw[if_pos (.inr AW)]) t
 rw[if_neg AW];refine aa ?_;refine P_ (.tuple #[.I (bT m a.to.toNat),.I (bT m a.to.toNat+(1+gq m a.to.toNat):Nat)]) (λf I=>Q9 v m a.to.toNat f (b.ET.ext (b.iu.trans I)) U h) ?_;refine aa ?_;intro a5 al;replace b:=b.ext al;replace k:=b.box;have a6:=t.trans al;clear i d;refine aa ?_;refine _g (k:=.i64) (k':=.i64) (bT m a.to.toNat) (bT m a.to.toNat+(1+gq m a.to.toNat)) b.qP (by simp[dy,bS]) (by simp[dy,bS]) AW AW λaG bg _ an=>?_;rw[Qx] at an;refine aa ?_;refine J_ (ak6 _ _ e a5 an AW) ?_;rintro _ ck ⟨a7,ao⟩;replace b:=b.ext ao;replace k:=b.box;have aq:=a6.trans ao;rcases a7 with ⟨a9,rfl⟩ | ⟨cm,cp,cq,ar,rfl,ba⟩
 .rw[a9];refine aa ?_;refine _g (k:=.i64) (k':=.i64) (bT m a.to.toNat) (bT m a.to.toNat+(1+gq m a.to.toNat)) b.qP (by simp[dy,bS]) (by simp[dy,bS]) AW AW λbb bj J _=>?_;refine aa ?_;refine _h (p:=bT m a.to.toNat) (xs:=[]) b.own a4.nil (by simp only[dy,bS];rfl) (by simp only[dy,bS];rfl) J AW Cg Cg λz bf K L=>?_;refine aa ?_;exact⟨.inr ⟨rfl,aZ⟩,(Ext.mod (A:=λM=>M=g) aq).trans (K.mod rfl)⟩
 .rw[ar];have bk:=H5 ar;rw[az] at bk;refine aa ?_;refine _g (k:=.i64) (k':=.i64) (bT m a.to.toNat) (bT m a.to.toNat+(1+gq m a.to.toNat)) b.qP (by simp[dy,bS]) (by simp[dy,bS]) AW AW λbb bj J _=>?_;refine aa ?_;refine _h (p:=bT m a.to.toNat) b.own (gT ba) (by simp only[dy,bS];rfl) (by simp only[dy,bS];rfl) J AW Cg Cg λz bf K L=>?_;rw[Im AW] at L;refine aa ?_;exact⟨.inl ⟨_,rfl,aZ,L⟩,(Ext.mod (A:=λM=>M=g) aq).trans (K.mod rfl)⟩
end Go.Proofs.R
namespace a8
open Go Go.RowKit
def _s{P:D_}{b:F_}{v:B_}{m:String}{f:E_}{r:B_}{args:C_ B_}{w:A_}{R:B_->A_->Prop}{c:B_->A_->Prop}{t}(d:okF P f=true)(e:∀a,(method (P.types.size+Made.depth) b v m).run P a = .ok (f,r) a)
  (h:a3 P f (r :: args).toArray w R)(g:∀v a,R v a->c v a):Cz P (.iface b v) m args w c t:=by unfold Cz;exact aky d e h g
def aR.auu{α:Type}{enc:α->C_ B_}{e:F_}{sz base:Nat}{w:A_}{v:B_}{a:C_ (hp sz)}{xs:C_ α}(h:ng e sz base w v a)(c:a.length=xs.length)(g:∀b (d:b<a.length) (f:b<xs.length),a[b].1=enc xs[b]):aR enc e sz base w v xs:=by
 have i:a.map iO=xs.map enc:=List.ext_getElem (by simp[c]) λb d f=>by
  rw[AL0,AL0];exact g b (by simpa using d) (by simpa using f)
 have:a.flatMap iO=xs.flatMap enc:=by rw[List.flatMap_def,List.flatMap_def,i]
 unfold aR at *;rw[<-this,<-c];exact h
end a8
namespace Go.Proofs.R
open Go Go.RowKit a8 o
def Hy(v:B_)(xs:C_ Int)(w:A_)(h:cH w v xs)(c:eO xs.length 8) :
  EG F.mX #[v] w λb a=>fe w.heap.size a b xs/\Ext w a :=
 (aak kB E.mX Cg v xs w h (by unfold eO at c;omega)).mono λb a ⟨⟨k,d,e,f⟩,he⟩=>⟨aR.auu e d λg i j=>f g i j,he⟩
def rk(k:Int):F_:=if k=1 then T.fi else if k=2 then T.cX else if k=3 then T.cP else if k=4 then T.eJ else T.fM
def IV(w:A_)(cs:C_ B_)(x:o.Act):Prop := ∃a b,cs=[.iface (rk x.kind) (.agg (x.enc a b).toArray)]/\fH w a x.index/\fH w b x.value
def ane{w0:A_}(v:B_)(xs:C_ o.Act)(w:A_)(h:oq w0 v xs)(B:Ext w0 w)(C:∀c∈xs,1<=c.kind/\c.kind<=5)(Y:xs.length<=100000) :
  EG F.KB #[v] w λG q=>(∃b:C_ (hp 1),b.length=xs.length/\ng T.ZI 1 w.heap.size q G b/\∀a (f:a<b.length) (g:a<xs.length),IV w0 b[a].1 xs[a])/\Ext w q:=by
 obtain⟨Z,ab,rfl,ae⟩:=h.form;refine bm E.KB ?_;refine aa ?_;refine K_ 8 xs.length [6,7] (λv:ef=>[(3,.slice v.1 v.2.1 v.2.2)]) (none,0,0) (λd v r=>Ext w r/\∃b:C_ (hp 1),b.length=d/\ng T.ZI 1 w.heap.size r (.slice v.1 v.2.1 v.2.2) b/\∀a (f:a<b.length) (g:a<xs.length),IV w0 b[a].1 xs[a]) aV aV ⟨Ext.refl _,[],rfl,aR.nil _ _ _ _ _,λa h=>absurd h (Og _)⟩ ?_;rintro d af ag ah ai ⟨k,b,s,t,u⟩;refine aa ?_;apply I_<;>intro aj;rotate_left
 .have ak:xs.length=d:=AW
  refine aa ?_;exact⟨⟨b,AW,t,u⟩,k⟩
 have l:d<xs.length:=AW
 obtain⟨al,rfl⟩:=h.addr;obtain⟨an,ao,e,m,n⟩:=h.at d l;obtain⟨H,I⟩:=C _ (ID l);obtain⟨c,i⟩:∃c,c=xs[d]:=⟨_,rfl⟩;rw[<-i] at e m n H I;obtain⟨J,K,rfl,_⟩:=m.form;obtain⟨L,M,rfl,_⟩:=n.form;replace e:=e.ext (B.trans k);unfold o.Act.enc at e;refine aa ?_;intro aq ar au x av;have z:=t.ext x;have A:=k.trans x;clear e;have N:∀(y:hp 1),IV w0 y.1 xs[d]->∀a (f:a<(b++[y]).length) (g:a<xs.length),IV w0 ((b++[y])[a]).1 xs[a]:=λy O a f g=>by
  by_cases j:a<b.length
  .rw[AJ3 j];exact u a j g
  .have P:a=b.length:=by simp at f;omega
   subst P;subst s;rw[AJ4 (Fy _)];simpa using O
 have aw:=A.size;refine aa ?_;apply I_<;>intro ax;rotate_left;refine aa ?_;apply I_<;>intro az;rotate_left;refine aa ?_;apply I_<;>intro aA;rotate_left;refine aa ?_;apply I_<;>intro aB;rotate_left
 all_goals
  refine aa ?_;intro aC aD aE p Q;refine aa ?_;refine T_ (enc:=iO) (y:=(⟨[.iface _ (.agg (c.enc (.slice J c.index.length K) (.slice L c.value.length M)).toArray)],rfl,by simp[Value.oneCell']⟩:hp 1)) (z.ext p) Q rfl hs rp AW (by unfold maxLen;omega) (by have:=p.size;omega) λS U V aF W X=>?_;refine aa ?_;exact⟨l,aZ,(S,U,V),⟨rfl,trivial⟩,(A.trans p).grown X λa j=>(z.lt a j).1,_,by simp[s],W,N _ ⟨_,_,by rw[<-i];unfold rk; (repeat' split)<;>first | rfl | omega,by rw[<-i];exact m,by rw[<-i];exact n⟩⟩
end Go.Proofs.R
namespace a8
open Go Go.RowKit
def aes(a:F_):mi:=⟨19,[.tmp 4],
 (.seq (.cN [dn 4 (bQ 0)])
 (.seq (.seq (.cN [aL 6 0,gg 7 6,dn 8 (bQ 0)])
 (.b0 0 (.loop (.seq (.cN [cl 9 (.bin .lss a (aO 8) (aO 7))])
 (.seq (.cond (aO 9) .skip
 (.exit 0))
 (.seq (.b0 1 (.seq (.cN [aL 10 8,aL 5 10])
 (.seq (.cN [aL 11 1,aL 12 0,aL 13 5,gO 14 1 12 13,dD 15 14,fr 16 (.val (aO 11) [(aO 15)])])
 (.cond (aO 16) (.seq (.cN [aL 17 5,aL 4 17])
 .ret)
 .skip))))
 (.cN [cl 18 (.bin .add a (aO 8) (bQ 1)),aL 8 18])))))))
 (.seq (.cN [dn 4 (bQ (-1))])
 .ret)))⟩
section
variable{α:Type}{P:Program}{f:FuncId}{m5:TypeId}
def TL{R:A_->Addr->α->Prop}{C:A_->C_ B_->α->Prop}[Rel R C 1](r:P.follows .mixedOrders=true)(s:k7 P f=some (aes m5))
  (v:B_)(xs:C_ α)(w:A_)(h:a4 1 R w v xs)(g:E_)(t:okF P g=true)(first cap:C_ B_)(p:α->Bool)
  (u:∀(j:Nat) (G:j<xs.length) (a:B_) (b:A_),Ext w b->C b [a] xs[j]->a3 P g (first++[a]++cap).toArray b λv x=>v = .bool (p xs[j])/\Ext b x) :
  a3 P f #[v,.func (.func g) first.toArray cap.toArray] w λy b=>y = .I (g9 p xs 0)/\Ext w b:=by
 obtain⟨H,bg,rfl,I⟩:=h.form;refine _R r s (args:=[_,_]) (Nat.le_of_ble_eq_true rfl) ?_;dsimp only[aes,aO,bQ,h3,cl,na,c6,fr,hH,cK,aL,dn,fp,dD,gO,ys,gg];refine ad ?_;refine K_ 8 xs.length [0,1,7] (λ_=>[]) () (λc _ b=>Ext w b/\g9 p xs 0=g9 p (xs.drop c) c) aV aV ⟨Ext.refl _,Ah⟩ ?_;rintro c _ J z K ⟨d,e⟩;refine ad ?_;apply I_<;>intro L
 .have i:c<xs.length:=AW
  obtain⟨M,rfl⟩:=h.addr;obtain⟨l,A,m⟩:=Rel.out (h.at c i);have B:=Rel.len (R:=R) m;obtain⟨a,rfl⟩:∃a,l=[a]:=by
   match l,B with
   | [a],_=>exact⟨a,rfl⟩
  have n:=A 0 a rfl;rw[add_zero] at n;rw[Dj i] at e;refine ad ?_;refine L_ (d.cell n) ?_;refine ad ?_;refine W_ t (u c i a z d (Rel.ext (R:=R) d m)) ?_;rintro _ N ⟨rfl,q⟩;refine ad ?_;refine N_ (λk=>?_) (λk=>?_)
  .refine ad ?_;exact⟨by rw[e,if_pos k],d.trans q⟩
  .refine ad ?_;exact⟨i,aZ,(),trivial,d.trans q,by rw[e,if_neg (by simp[k])]⟩
 .refine ad ?_;exact⟨by rw[e,VB AW];rfl,d⟩
end
end a8
namespace o
open Go
theorem Rf{α:Type}{p:α->Bool}:∀(a:C_ α) (e:Nat),(∃f∈a,p f=true)->∃b,∃h:b<a.length,a8.g9 p a e=((e+b:Nat):Int)/\a.find? p=some a[b]
 | [],_,⟨f,c,_⟩=>by cases c
 | i :: j,e,h=>by
  cases d:p i with
  | true=>exact⟨0,Ah,by simp[a8.g9,d],by simp[d]⟩
  | false =>
   obtain⟨b,k,l,m⟩:=Rf j (e+1) (by
    obtain⟨f,c,g⟩:=h;rcases List.mem_cons.1 c with rfl | c
    .rw[d] at g;cases g
    .exact⟨f,c,g⟩)
   exact⟨b+1,by simpa using k,by simp only[a8.g9,d,Bool.false_eq_true,if_false];rw[l];congr 1;omega,by simp only[List.find?_cons,d,List.getElem_cons_succ];exact m⟩
end o
namespace Go.Proofs.R
open Go Go.RowKit a8 o
attribute [local irreducible] dE bD o.insts o.refs jH fE
def afv(x:Int)(w:A_):EG F.fV #[.I x] w λa b=>a = .bool false/\Ext w b:=by
 refine bm E.fV ?_;refine aa ?_;exact⟨Ah,Ext.refl _⟩
def alF(x y:Int)(w:A_):EG F.eJ #[.I x,.I y] w λc d=>(∃a:Int,c = .I a/\(a<0↔x<y)/\(a=0↔x=y))/\Ext w d:=by
 refine bm E.eJ ?_;refine aa ?_;refine J_ (afv x w) ?_;rintro _ e ⟨rfl,f⟩;refine aa ?_;refine J_ (afv y e) ?_;rintro _ h ⟨rfl,g⟩;have b:=f.trans g;refine aa ?_;apply I_<;>intro i
 .refine aa ?_;exact⟨⟨_,aZ,AW,AW⟩,b⟩
 refine aa ?_;apply I_<;>intro j
 .refine aa ?_;exact⟨⟨_,aZ,AW,AW⟩,b⟩
 refine aa ?_;exact⟨⟨_,aZ,AW,AW⟩,b⟩
def alK(l m:B_)(a b:C_ Int)(w:A_)(n:cH w l a)(p:cH w m b)(H:a.length=b.length) :
  EG F.J0 #[l,m] w λt h=>(∃e:Int,t = .I e/\(e<0↔kk a b=true))/\Ext w h:=by
 obtain⟨I,bg,rfl,_⟩:=n.form;obtain⟨J,bj,rfl,_⟩:=p.form;refine vl E.J0 ?_;refine ow ?_;refine aa ?_;refine K_ 11 a.length [0,1,9,10] (λ_:Unit=>[]) () (λc _ h=>kk (a.drop c) (b.drop c)=kk a b/\Ext w h) aV aV ⟨rfl,Ext.refl _⟩ ?_;rintro c - K u L ⟨d,f⟩;have v:=n.ext Flat.ext f;have x:=p.ext Flat.ext f;refine aa ?_;refine I_ (λy=>?_) (λy=>?_);rotate_left
 .refine aa ?_;refine⟨⟨_,aZ,?_⟩,f⟩;rw[<-d,VB AW,VB AW];simp[kk]
 have g:c<a.length:=AW
 have i:c<b.length:=AW
 have z:=a4.addr v (AK2 (AG2 _) g);obtain⟨M,rfl⟩:=z;have A:=a4.addr x (AK2 (AG2 _) i);obtain⟨N,rfl⟩:=A;rw[AF9 g,AF9 i] at d;have B:∀(j k:Int) q r,kk (j :: q) (k :: r)=if j=k then kk q r else decide (j<k):=λ_ _ _ _=>rfl
 rw[B] at d;refine aa ?_;refine J_ (alF (a[c]'g) (b[c]'i) u) ?_;rintro _ O ⟨⟨e,rfl,C,P⟩,G⟩;have s:=f.trans G;refine aa ?_;apply I_<;>intro Q
 .rw[if_pos AW] at d;refine aa ?_;exact⟨g,aZ,(),trivial,d,s⟩
 .rw[if_neg AW] at d;refine aa ?_;exact⟨⟨e,aZ,by rw[<-d];simpa using C⟩,s⟩
def as7(f g:B_)(a b:C_ Int)(w:A_)(d:cH w f a)(e:cH w g b)(k:a.length=b.length) :
  EG F.ui #[f,g] w λl h=>cH h l (p1 a b)/\Ext w h:=by
 obtain⟨n,bg,rfl,_⟩:=d.form;obtain⟨p,bj,rfl,_⟩:=e.form;refine bm E.ui ?_;refine aa ?_;refine J_ (alK _ _ b a w e d k.symm) ?_;rintro _ q ⟨⟨r,rfl,i⟩,c⟩;unfold p1;refine aa ?_;apply I_<;>intro j
 .rw[if_pos (i.1 j)];refine aa ?_;exact⟨e.ext Flat.ext c,c⟩
 .rw[if_neg (λm=>j (i.2 m))];refine aa ?_;exact⟨d.ext Flat.ext c,c⟩
def N6(b:Nat)(vs:B_)(m:o.Model)(s:C_ Int)(w:A_)(h:nQ w b m)(n:(o.check m).bN=0)(p:cH w vs s)(t:o.Fits m s) :
  EG F.ep #[.pointer (some ⟨b,0,none⟩),vs] w λi u=>cH u i (fj m s)/\Ext w u:=by
 have H:=h;obtain⟨ao,I,v⟩:=h;obtain⟨aq,ar,au,av,aw,ax,az,aA,aB,aC,aD,aE,aF,aG,aH,aI,aJ,aK,aM,aP,rfl,_,_,_,_,_,x⟩:=v.ex;clear v;have J:=ko n;have K:=g6 n;have aQ:cG m<=64:=iq K;have L:=t.len;have y:=x.form;obtain⟨_,_,_,y⟩:=y;have M:=λ{N:Nat} (O:N<(dE m.scalars).length)=>(uV J).1 (ID O);have z:∀a,(p2 s (((dE m.scalars).take a).map λc=>hK m c s)).length=cG m:=λa=>by
  rcases List.mem_cons.1 (Un (((dE m.scalars).take a).map λc=>hK m c s) s).1 with h | h
  .rw[h,L]
  .obtain⟨c,_,P⟩:=List.mem_map.1 h;rw[<-P,Jj]
 obtain⟨Q,S,rfl,aS⟩:=p.form;refine bm E.ep ?_;refine aa ?_;refine K_ 14 (dE m.scalars).length [0,1,12,13] (λd:ef=>[(5,.slice d.1 d.2.1 d.2.2)]) (Q,s.length,S) (λa d A=>cH A (.slice d.1 d.2.1 d.2.2) (p2 s (((dE m.scalars).take a).map λc=>hK m c s))/\Ext w A) aV aV ⟨by simpa[p2] using p,Ext.refl _⟩ ?_;rintro a ⟨aT,aU,aW⟩ aX j aY ⟨k,e⟩;dsimp only at k;have q:q5 j _ _:=a4.ext uq e x;refine aa ?_;apply I_<;>intro a0;rotate_left
 .have U:p2 s (((dE m.scalars).take a).map λc=>hK m c s)=fj m s:=by
   rw[Im AW];rfl
  have V:=z a;rw[U] at k V;refine aa ?_;refine J_ (Hy _ _ j k (by unfold eO;omega)) ?_;rintro i B ⟨r,l⟩;have f:=gT r;obtain⟨W,X,rfl,_⟩:=f.form;refine aa ?_;exact⟨f,e.trans l⟩
 have g:a<(dE m.scalars).length:=AW
 have Y:=M g;have Z:=a4.addr q AW;obtain⟨ab,rfl⟩:=Z;have ae:vk j (ab.add (a*1)) ((dE m.scalars)[a]'g):=a4.at q a g;obtain⟨a2,af,C⟩:=ae;have ag:=C.form;obtain⟨a5,a6,rfl,_⟩:=ag;have a7:=e.obj I;clear q;refine aa ?_;refine L_ af ?_;refine aa ?_;refine J_ (UQ b _ _ m _ s j (H.ext e) n Y C (p.ext Flat.ext e) t) ?_;rintro i B ⟨r,l⟩;have f:=gT r;have ah:=f.form;obtain⟨W,X,rfl,_⟩:=ah;refine aa ?_;refine J_ (as7 _ _ _ _ B (k.ext Flat.ext l) f (by rw[z,Jj])) ?_;rintro i a9 ⟨G,ai⟩;have aj:=G.form;obtain⟨ak,al,rfl,_⟩:=aj;refine aa ?_;refine⟨g,aZ,(ak,_,al),aV,?_,(e.trans l).trans ai⟩;have an:p2 s (((dE m.scalars).take (a+1)).map λc=>hK m c s)=p1 (p2 s (((dE m.scalars).take a).map λc=>hK m c s)) (hK m (dE m.scalars)[a] s):=by
  rw[NZ g,AF8];unfold p2;rw[AL3];rfl
 rw[an];exact G
theorem amB(k l:B_)(a b:C_ (C_ Int))(w:A_)(m:hB w k a)(n:hB w l b) :
  EG F.gb #[k,l,.func (.func F.d) #[] #[]] w λu f=>u = .bool (decide (a=b))/\Ext w f:=by
 obtain⟨K,bg,rfl,L⟩:=m.form;obtain⟨M,bj,rfl,N⟩:=n.form;refine vl E.gb ?_;refine ow ?_;refine aa ?_;refine I_ (λp=>?_) (λp=>?_);rotate_left
 .refine aa ?_;exact⟨by rw[decide_eq_false (λg=>p (by rw[g]))],Ext.refl _⟩
 have O:a.length=b.length:=AW
 refine aa ?_;refine K_ 17 a.length [0,1,2,15,16] (λ_:Unit=>[]) () (λc _ f=>Ext w f/\a.take c=b.take c) aV aV ⟨Ext.refl _,Ah⟩ ?_;rintro c - P h Q ⟨d,i⟩;have q:=kW d m;have r:=kW d n;refine aa ?_;apply I_<;>intro S;rotate_left
 .refine aa ?_;exact⟨by rw[Im AW,Im AW] at i;rw[decide_eq_true i],d⟩
 have e:c<a.length:=AW
 have j:c<b.length:=AW
 have v:=a4.addr q AW;obtain⟨x,rfl⟩:=v;have y:=a4.addr r AW;obtain⟨z,rfl⟩:=y;have A:oY h (x.add (c*1)) (a[c]'e):=a4.at q c e;have B:oY h (z.add (c*1)) (b[c]'j):=a4.at r c j;obtain⟨U,C,G⟩:=A;obtain⟨V,H,I⟩:=B;refine aa ?_;refine L_ C ?_;refine aa ?_;refine L_ H ?_;refine aa ?_;refine W_ Cg (BT _ _ _ _ h G I) ?_;rintro _ W ⟨⟨J,rfl,s⟩,t⟩;cases J with
 | true =>
  refine aa ?_;exact⟨e,aZ,(),trivial,d.trans t,(ah3 e j).2 ⟨i,s.1 rfl⟩⟩
 | false =>
  refine aa ?_;refine⟨?_,d.trans t⟩;rw[decide_eq_false];intro g;subst g
  have:=s.2 rfl
  cases this
def aoQ(a b:B_)(g h:C_ (C_ Int))(c:Nat)(w:A_)(k:w.heap[c]? = some (.cells #[b] T.k))(d:hB w b g)(e:hB w a h) :
  EG F.r #[a,.pointer (some ⟨c,0,none⟩)] w λf i=>f = .bool (decide (g=h))/\Ext w i:=by
 refine bm E.r ?_;refine aa ?_;refine J_ (amB _ _ g h w d e) ?_;rintro _ l ⟨rfl,j⟩;refine aa ?_;exact⟨aZ,j⟩
def alL(v b:B_)(g:C_ (C_ Int))(Q:C_ (C_ (C_ Int)))(a:Nat)(w:A_)(i:w.heap[a]? = some (.cells #[b] T.k))(j:hB w b g)(e:q5 w v Q) :
  EG F.w8 #[v,.func (.func F.r) #[] #[.pointer (some ⟨a,0,none⟩)]] w λk c=>(∃f:Bool,k = .bool f/\(f=true↔g∈Q))/\Ext w c:=by
 obtain⟨q,bg,rfl,r⟩:=e.form;refine vl E.w8 ?_;refine ow ?_;refine aa ?_;refine J_ (TL (R:=vk) kB E.F0 _ Q w e F.r Cg [] [.pointer (some ⟨a,0,none⟩)] (λl=>decide (g=l)) (λs t u c h m=>by
  obtain⟨x,d,n⟩:=m;injection d with d
  subst d;exact aoQ _ b g _ a c (h.obj i) (kW h j) n)) ?_
 rintro _ y ⟨rfl,p⟩;refine aa ?_;refine⟨⟨_,aZ,?_⟩,p⟩;rw[decide_eq_true_eq];refine Ki.trans ?_;simp[List.any_eq_true]
def af6(b:Nat)(v:B_)(m:o.Model)(g:C_ (C_ Int))(w:A_)(h:nQ w b m)(f:pD m.scalars)(d:hB w v g) :
  EG F.g8 #[.pointer (some ⟨b,0,none⟩),v] w λi j=>(∃a:Bool,i = .bool a/\(a=true↔hi m.scalars g))/\Ext w j:=by
 obtain⟨t,k,e⟩:=h;obtain⟨u,x,y,z,A,B,C,G,H,I,J,K,L,M,N,O,P,Q,S,U,rfl,_,_,_,_,_,l⟩:=e.ex;clear e;obtain⟨V,W,rfl,X⟩:=d.form;refine bm E.g8 ?_;refine aa ?_;intro n p Y c q;have Z:=c.obj k;refine aa ?_;refine J_ (alL _ _ g _ p n q (kW c d) (a4.ext uq c l)) ?_;rintro _ ab ⟨⟨a,rfl,r⟩,s⟩;refine aa ?_;exact⟨⟨a,aZ,r.trans (uV f)⟩,c.trans s⟩
def alb(d vs dI:B_)(b e bs f:Nat)(m:o.Model)(g:C_ (C_ Int))(s c:C_ Int)(w:A_)(h:nQ w b m)(p:(o.check m).bN=0)(q:hi m.scalars g)(r:o.Fits m s)
  (i:w.heap[e]? = some (.cells #[.pointer (some ⟨b,0,none⟩)] T.s5))(j:w.heap[bs]? = some (.cells #[vs] T.b))(k:w.heap[f]? = some (.cells #[dI] T.b))(t:hB w d g)(u:cH w vs s)(v:cH w dI c) :
  EG F.fM #[d,.pointer (some ⟨e,0,none⟩),.pointer (some ⟨bs,0,none⟩),.pointer (some ⟨f,0,none⟩)] w λx y=>x = .bool (decide (hK m g s=c))/\Ext w y:=by
 refine bm E.fM ?_;refine aa ?_;intro z a;have H:=a.obj i;have I:=a.obj j;have J:=a.obj k;clear i j k;refine aa ?_;refine J_ (UQ b _ _ m g s z (h.ext a) p q (kW a t) (u.ext Flat.ext a) r) ?_;rintro _ A ⟨B,l⟩;refine⟨l,?_⟩;have n:=a.trans l;refine aa ?_;refine J_ (BT _ _ _ _ A (gT B) (v.ext Flat.ext n)) ?_;rintro _ K ⟨⟨L,rfl,C⟩,G⟩;refine aa ?_;exact⟨by congr 1;rw[AH4,decide_eq_true_eq];exact C,n.trans G⟩
def avc(b:Nat)(vs:B_)(m:o.Model)(s:C_ Int)(w:A_)(h:nQ w b m)(d:(o.check m).bN=0)(g:cH w vs s)(i:o.Fits m s) :
  EG F.kz #[.pointer (some ⟨b,0,none⟩),vs] w λt e=>hB e t (vx m s)/\Ext w e:=by
 have u:=h;obtain⟨au,v,x⟩:=h;obtain⟨av,aw,ax,az,aA,aB,aC,aD,aE,aF,aG,aH,aI,aJ,aK,aM,aP,aQ,aS,aT,rfl,_,_,_,_,_,y⟩:=x.ex;clear x;have z:=ko d;have A:=Qz d i.len;have j:=Rf (p:=λk=>decide (hK m k s=fj m s)) (dE m.scalars) 0 ⟨_,(uV z).2 A.1,by simpa using A.2⟩;obtain⟨c,l,B,X⟩:=j;have Y:vx m s=(dE m.scalars)[c]:=by
  unfold vx;rw[X];rfl
 rw[ZB] at B;obtain⟨aU,aW,rfl,aX⟩:=g.form;refine bm E.kz ?_;refine aa ?_;intro aY C a0 Z G;refine aa ?_;intro ab H a2 I J;have K:=I.obj G;have dm:=Z.trans I;refine aa ?_;refine J_ (N6 b _ m s ab (u.ext dm) d (g.ext Flat.ext dm) i) ?_;rintro dI a5 ⟨L,n⟩;have ae:=L.form;obtain⟨a6,a7,rfl,_⟩:=ae;have M:=n.obj K;have N:=n.obj J;refine aa ?_;intro a9 O P af ba;refine aa ?_;intro ag ah Q;have f:=ah.ext af P;have p:=f.obj M;have S:=f.obj N;have dO:=(dm.trans n).trans f;have ai:=dO.obj v;clear G K M J N;refine aa ?_;refine J_ (TL (R:=vk) kB E.F0 _ (dE m.scalars) ag (a4.ext uq dO y) F.fM Cg [] [.pointer (some ⟨C,0,none⟩),.pointer (some ⟨H,0,none⟩),.pointer (some ⟨O,0,none⟩)] (λk=>decide (hK m k s=fj m s)) (λbb aj t e a ak=>by
  obtain⟨bf,q,al⟩:=ak;injection q with q
  subst q;exact alb _ _ _ b C H O m _ s _ e (u.ext (dO.trans a)) d ((uV z).1 (ID aj)) i (a.obj p) (a.obj S) (a.obj Q) al (g.ext Flat.ext (dO.trans a)) (L.ext Flat.ext (f.trans a)))) ?_
 rintro _ U ⟨rfl,V⟩;have hg:=dO.trans V;have P:=hg.obj v;have bk:=V.obj p;have r:q5 U _ _:=a4.ext uq hg y;have j:=a4.addr r AW;obtain⟨an,rfl⟩:=j;have ao:vk U (an.add (c*1)) ((dE m.scalars)[c]'l):=a4.at r c l;obtain⟨bn,aq,W⟩:=ao;have ar:=W.form;obtain⟨bo,bp,rfl,_⟩:=ar;clear r ai p S Q;refine aa ?_;refine M_ c B l ?_;refine aa ?_;refine L_ aq ?_;refine aa ?_;rw[Y];exact⟨W,hg⟩
def ava(v:B_)(s:C_ o.Scalar)(g:C_ (C_ Int))(w:A_)(l:pD s)(m:hi s g)(n:hB w v g) :
  EG F.d9 #[v] w λp d=>eo ql T.b 1 w.heap.size d p (l3 g)/\Ext w d:=by
 obtain⟨U,V,rfl,W⟩:=n.form;have X:(l3 g).length=g.length:=by simp[l3]
 have Y:=m.len;have Z:=l.1;refine bm E.d9 ?_;refine aa ?_;refine K_ 8 g.length [0,6,7] (λc:ef=>[(3,.slice c.1 c.2.1 c.2.2)]) (none,0,0) (λa c d=>eo ql T.b 1 w.heap.size d (.slice c.1 c.2.1 c.2.2) ((l3 g).take a)/\Ext w d) aV aV ⟨eo.nil _ _ _ _ _,Ext.refl _⟩ ?_;rintro a ⟨ab,ae,af⟩ ag i q ⟨e,h⟩;dsimp only at e;have r:=kW h n;refine aa ?_;apply I_<;>intro ah;rotate_left
 .refine aa ?_;rw[Im AW] at e;exact⟨e,h⟩
 have b:a<g.length:=AW
 have t:a<s.length:=AW
 have B:=a4.addr r (AK2 (AG2 _) b);obtain⟨C,rfl⟩:=B;have G:oY i (C.add (a*1)) (g[a]'b):=a4.at r a b;obtain⟨ai,H,u⟩:=G;have I:=u.form;obtain⟨aj,ak,rfl,_⟩:=I;have al:=l.2 _ (ID t);refine aa ?_;refine L_ H ?_;refine aa ?_;refine J_ (avm _ _ (g[a]'b) i u (m.perm a b t) AW) ?_;rintro p J ⟨x,j⟩;have K:=x.form;obtain⟨y,z,rfl,_⟩:=K;have k:=e.ext j;have an:=h.size;have ao:=j.size;have L:ei i (λw=>cH w (.slice y (pY (g[a]'b)).length z) (pY (g[a]'b))) J:=aR.new (enc:=da) (λ_=>rfl) x;refine aa ?_;intro aq ar au f M;have av:=f.size;refine _A (x:=pY (g[a]'b)) (cs:=[.slice y (pY (g[a]'b)).length z]) (k.ext f) (gP M) (((ei.own L e AW).imp λw N=>⟨_,rfl,N⟩).ext f λO aw q=>by have:=k.under AW O q;omega) rfl (by simp[Value.oneCell']) (by rw[NU];omega) (by rw[NU];unfold maxLen;omega) AW λax az A P=>?_;have hg:=(k.ext f).hN ((h.trans j).trans f) P (Fy _);obtain⟨Q,S,rfl,_⟩:=A.form;refine aa ?_;refine⟨b,aZ,(Q,_,S),aV,?_,hg⟩;rw[NZ AW,show(l3 g)[a]' AW=pY (g[a]'b) from by simp[l3]];exact A
def agd(b:Nat)(v:B_)(m:o.Model)(g:C_ (C_ Int))(x:Int)(w:A_)(h:nQ w b m)(p:(o.check m).bN=0)(u:hi m.scalars g)(G:hB w v g) :
  EG F.bf #[.pointer (some ⟨b,0,none⟩),v,.I x] w λd e=>(¬(0<=x/\x<(o.refs m).length)/\d = .I (-1)\/(0<=x/\x<(o.refs m).length)/\d = .I (Ab m (gI g) x.toNat))/\Ext w e:=by
 have q:=h;obtain⟨an,y,z⟩:=h;obtain⟨H,I,J,K,L,M,N,O,P,Q,ao,aq,ar,au,av,aw,ax,az,aA,aB,rfl,S,_⟩:=z.ex;clear z;have A:=ko p;have U:=g6 p;have V:=u.qS A;refine bm E.bf ?_;refine aa ?_;refine _W [.slice H m.scalars.length I,.slice J m.vars.length K,.slice L m.ay.length M,.slice N m.procs.length O,.slice P m.props.length Q] y rfl rfl ?_;refine aa ?_;refine J_ (agL _ m w S U.HG) ?_;rintro d W ⟨B,f⟩;have r:Fp W d (o.refs m):=aR.kF (enc:=o.Ref.enc) (λ_=>rfl) B;obtain⟨aC,aD,rfl,aE⟩:=r.form;clear B;refine aa ?_;apply I_<;>intro aF
 .refine aa ?_;exact⟨.inl ⟨AW,aZ⟩,f⟩
 refine aa ?_;apply I_<;>intro aG
 .refine aa ?_;exact⟨.inl ⟨AW,aZ⟩,f⟩
 obtain⟨c,rfl⟩:∃c:Nat,x=c:=⟨x.toNat,AW⟩;have X:=Om V p (r:=c) AW;obtain⟨i,Y,j,Z,aH,k⟩:=X;have ab:=k.g;obtain⟨s,ae,af⟩:=k.at_;have l:=k.b.ab;have n:=k.b.at_;simp only[Int.toNat_natCast] at l n;have C:(⟨(j:Int),((o.refs m)[c]'s).cmd⟩:o.Ref)=(o.refs m)[i]'l:=agG (by rw[n.rS]) (by rw[n.sO,af]);have ag:g9 (λt=>decide ((⟨(j:Int),((o.refs m)[c]'s).cmd⟩:o.Ref)=t)) (o.refs m) 0=i:=by
  rw[C]
  have:=Kj (p:=λt=>decide ((o.refs m)[i]'l=t)) (o.refs m) i 0 l Ah λaI ah aJ=>by
   simp only[decide_eq_false_iff_not];intro a
   have:=agM l ah (by rw[a]) (by rw[a])
   omega
  rw[this,ZB]
 have ai:=a4.addr r AW;obtain⟨aK,rfl⟩:=ai;replace q:=q.ext f;clear n C y;refine aa ?_;refine P_ (.I j) (λe a=>af8 b v m g _ Y j Z e ae (q.ext a) A u (kW (f.trans a) G) k.i) ?_;refine aa ?_;refine P_ (.I i) (λe a=>(ar6 _ _ ⟨(j:Int),((o.refs m)[c]'s).cmd⟩ e (r.ext Flat.ext a)).mono λd aM ⟨aj,ak⟩=>⟨by rw[aj,ag],ak⟩) ?_;refine aa ?_;intro aP al;refine aa ?_;exact⟨.inr ⟨AW,by rw[AG4,ab]⟩,f.trans al⟩
def anc{w0:A_}(b4 dK g c q p base:Nat)(m:o.Model)(s:C_ Int)(a:o.Act)(b5 b8:B_)(w:A_)(gA:B_->A_->Prop){t}(bB:ml w0 w b4 dK g c q base m s)(gK:(o.check m).bN=0)(aq:o.Fits m s)(hIn:hI m q p)
  (a2:q3 (o.inner (m.procs[p]'(hIn.aC)) (fw m)) a)(ab:fH w b5 a.index)(aJ:fH w b8 a.value)
  (ih:∀u w',k5 base g (.slice (some ⟨g,0,none⟩) s.length c) (hq m s q a) u w w'->gA u w') :
  Cz Tryz.prog (.iface (rk a.kind) (.agg (a.enc b5 b8).toArray)) "lariat/fire.do" [.pointer (some ⟨b4,0,none⟩)] w gA t:=by
 obtain⟨cF,tA⟩:=a2.kind;by_cases a5:a.kind=1
 .rw[show rk a.kind=T.fi from by unfold rk;rw[if_pos a5]];exact _s (f:=F.FL) Cg (λw'=>Cg) (anz b4 dK g c q p base m s a b5 b8 w bB gK aq hIn a2 a5 ab aJ) ih
 by_cases az:a.kind=2
 .rw[show rk a.kind=T.cX from by unfold rk;rw[if_neg a5,if_pos az]];exact _s (f:=F.FM) Cg (λw'=>Cg) (anl b4 dK g c q p base m s a b5 b8 w bB gK aq hIn a2 az ab aJ) ih
 by_cases a6:a.kind=3
 .rw[show rk a.kind=T.cP from by unfold rk;rw[if_neg a5,if_neg az,if_pos a6]];exact _s (f:=F.FN) Cg (λw'=>Cg) (anu b4 dK g c q p base m s a b5 b8 w bB gK aq hIn a2 a6 ab aJ) ih
 by_cases bt:a.kind=4
 .rw[show rk a.kind=T.eJ from by unfold rk;rw[if_neg a5,if_neg az,if_neg a6,if_pos bt]];exact _s (f:=F.FO) Cg (λw'=>Cg) (anx b4 dK g c q p base m s a b5 b8 w bB gK aq hIn a2 bt ab aJ) ih
 .rw[show rk a.kind=T.fM from by unfold rk;rw[if_neg a5,if_neg az,if_neg a6,if_neg bt]];exact _s (f:=F.FR) Cg (λw'=>Cg) (anw b4 dK g c q p base m s a b5 b8 w bB gK aq hIn a2 AW ab aJ) ih
def anb(b:Nat)(m:o.Model)(ref:Int)(q p k:Nat)(w:A_)(h:qo w b m)(a:gi m ref q p k) :
  ∃g i C G,fH w (.slice g (cR m p k).guard.length i) (cR m p k).guard/\oq w (.slice C (cR m p k).b6.length G) (cR m p k).b6 /\
   ∀j,Ext w j->EG F.l #[.pointer (some ⟨b,0,none⟩),.I ref] j λO P=>O = .agg ((cR m p k).enc (.slice g (cR m p k).guard.length i) (.slice C (cR m p k).b6.length G)).toArray/\Ext j P:=by
 obtain⟨ab,c,h⟩:=h;obtain⟨ae,af,ag,ah,ai,aj,ak,al,an,ao,aq,ar,au,bg,av,bj,aw,ax,az,aA,aB,aC,aD,aE,rfl,_,_,_,_,_,_,_,_,_,_,H,l,n⟩:=h.form;have aF:=a.at_.ab;have v:=a.at_.aC;have I:=a.at_.J;have Q:=a.at_.ip;obtain⟨r,rfl⟩:=T7 a.aQ;have aG:r<(o.refs m).length:=a.ab;have S:(o.refs m)[r].inst=(q:Int):=a.at_.rS;have U:(o.refs m)[r].cmd=(k:Int):=a.at_.sO;obtain⟨aH,rfl⟩:=n.addr;obtain⟨aI,rfl⟩:=l.addr;obtain⟨aJ,rfl⟩:=H.addr;obtain⟨aK,aM,dI,s,aP,x⟩:=H.at p v;obtain⟨aQ,aS,rfl,aT⟩:=x.form;obtain⟨aU,rfl⟩:=x.addr;obtain⟨aW,aX,aY,t,J,K⟩:=x.at k I;obtain⟨g,i,rfl,_⟩:=J.form;obtain⟨V,W,rfl,_⟩:=K.form;unfold ee.enc at s;unfold et.enc at t;have y:=C9 v I;refine⟨g,i,V,W,by rw[y];exact J,by rw[y];exact K,λj e=>?_⟩;replace c:=e.obj c;replace n:=n.ext Flat.ext e;replace l:=l.ext Flat.ext e;replace s:=s.ext e;replace t:=t.ext e;refine bm E.l ?_;refine aa ?_;intro a0 a2 a5 z f;replace c:=z.obj c;have X:=n.ext Flat.ext z;refine aa ?_;intro a6 a7 a9 A B;have Y:(o.refs m)[r].enc=[.I q,.I k]:=by unfold o.Ref.enc;rw[S,U]
 rw[Y] at B;have ba:=ca f;replace f:=A.obj f;replace c:=A.obj c;have u:=z.trans A;have L:=l.ext Flat.ext u;have M:=s.ext u;have N:=t.ext u;clear X;refine aa ?_;intro bb d;replace f:=d.obj f;replace B:=d.obj B;replace c:=d.obj c;replace L:=L.ext Flat.ext d;replace M:=M.ext d;replace N:=N.ext d;refine aa ?_;refine M_ p (by rw[Q]) v ?_;refine aa ?_;intro bf Z bk;refine aa ?_;exact⟨by rw[y];rfl,Z.ext (u.trans d) AW⟩
def ana(y:Nat)(v:B_)(m:o.Model)(s:C_ Int)(ref:Int)(q p k:Nat)(w:A_)(aD:qo w y m)(Q:cH w v s)(ai:o.Fits m s)(A:gi m ref q p k) :
  EG F.f1 #[.pointer (some ⟨y,0,none⟩),v,.I ref] w λG aE=>((hr m s q (cR m p k)=none/\G = .tuple #[.slice none 0 0,.bool false])\/(∃f aF a,hr m s q (cR m p k)=some f/\G = .tuple #[.slice aF f.length a,.bool true]/\fe w.heap.size aE (.slice aF f.length a) f))/\Ext w aE:=by
 have aj:=A.ok;have aG:=g6 aj;have H:=A.inst;have I:=A.cin;have bF:=I.g2;have bG:=H.av;have cw:=ai.len;have cx:cG m<=64:=iq aG;have cB:=H.room;obtain⟨cC,cD,cF⟩:=uR m;obtain⟨cI,aH⟩:=qK bG;have aI:=aD;obtain⟨cJ,g,aJ⟩:=aD;obtain⟨cL,cM,cN,cO,cP,cQ,cS,cT,cU,cW,cX,cY,cZ,bg,c1,bj,c2,c3,c4,c5,c9,db,dc,dd,rfl,_,_,bH,bI,aK,bJ,bK,aM,n,S,bL,bM,B⟩:=aJ.form;obtain⟨de,df,rfl,dg⟩:=Q.form;obtain⟨ak,rfl⟩:=T7 A.aQ;have dh:ak<(o.refs m).length:=A.ab;have U:(o.refs m)[ak].inst=(q:Int):=A.at_.rS;obtain⟨di,rfl⟩:=B.addr;obtain⟨dj,rfl⟩:=aK.addr;obtain⟨dr,rfl⟩:=Q.addr;obtain⟨a,aP⟩:∃a,a=cR m p k:=⟨_,rfl⟩;obtain⟨bN,bO,bP,bR,aQ,aS,V⟩:=anb y m ak q p k w aI A;rw[<-aP] at I bF ⊢;simp only[<-aP] at V aQ aS;clear bH bI bJ bK aM n S bL bM aJ;have bV:∀{r},Ext w r->r.heap[y]? = _:=λW=>W.obj g;refine bm E.f1 ?_;simp -dsimp only[cA];refine eC ?_;refine S_ [0,1,2] (λt:Nat=>[(8,.pointer (some ⟨t,0,none⟩)),(9,.I q)]) (λt r=>w.heap.size<=t/\Ext w r/\r.heap[t]? = some (.cells (a.enc (.slice bN a.guard.length bO) (.slice bP a.b6.length bR)).toArray T.q)) ?_ ?_
 .refine aa ?_;intro l b;replace g:=b.obj g;replace B:=B.ext Flat.ext b;refine aa ?_;refine⟨?_,?_⟩
  .refine J_ (V l b) ?_;rintro _ X ⟨rfl,d⟩;refine⟨d,?_⟩;refine aa ?_;intro al t Y h c;refine⟨d.trans h,?_⟩;refine X_ c rfl rfl (by simp[Value.oneCell',et.enc]) λC an ao=>?_;have j:Ext X C:=an.ext h Y;refine⟨d.trans j,?_⟩;refine aa ?_
   have:=b.size
   have:=d.size
   exact⟨t,⟨rfl,by first | trivial | (rw[U];trivial) | simp[U,Has],trivial⟩,AW,b.trans (d.trans j),ao⟩
  .refine aa ?_;intro X t Y d c;refine⟨d,?_⟩;refine aa ?_;refine J_ (V X (b.trans d)) ?_;rintro _ al ⟨rfl,h⟩;replace c:=h.obj c;have aT:=d.trans h;refine⟨aT,?_⟩;refine aa ?_;intro C an ao;have j:Ext l C:=an.ext aT Y;refine⟨j,?_⟩;refine aa ?_
   have:=b.size
   exact⟨t,⟨rfl,by first | trivial | (rw[U];trivial) | simp[U,Has],trivial⟩,AW,b.trans j,ao⟩
 clear V g;rintro t bW l ⟨Y,b,c⟩;have dt:=ca c;have g:=bV b;have aU:=Q.ext Flat.ext b;have aW:s[b7 m q]? = some (s[b7 m q]' AW):=List.getElem?_eq_getElem AW;refine aa ?_;refine J_ (Hy _ s l aU (by unfold eO;omega)) ?_;rintro G X ⟨Z,d⟩;replace g:=d.obj g;replace c:=d.obj c;have bX:=b.trans d;obtain⟨bY,J,rfl,_⟩:=(gT Z).form;obtain⟨i,rfl⟩:∃i,bY=some ⟨i,0,none⟩:=by
  rcases Z.2 with ⟨aX,aM⟩ | ⟨i,cap,cur,n,_⟩
  .exfalso;injection aX with _ S _;omega
  .injection n with n _ _;exact⟨i,n⟩
 refine aa ?_;intro al ab du h aY;have aq:=bX.trans h;have a0:ml l al ab y i J q l.heap.size m s:=⟨d.trans h,Fy _,aI.ext b,aY,Z.ext h⟩;replace g:=h.obj g;replace c:=h.obj c;have bZ:=Q.ext Flat.ext aq;have b0:=aK.ext Flat.ext aq;clear aU Z;refine eC ?_;refine AA6 g (Ext.refl _) rfl ?_;refine eC ?_;simp -dsimp only[cA];refine eC ?_;refine M_ (b7 m q) (by rw[aH]) AW ?_;refine eC ?_;intro C j;have ar:=a0.ext j;replace c:=j.obj c;replace g:=j.obj g;have K:=aq.trans j;clear bZ b0 a0 aY;refine eC ?_;apply I_<;>intro a2;rotate_left
 .refine aa ?_;exact⟨.inl ⟨by unfold hr;rw[aW,if_pos (by simpa using a2)],aZ⟩,K⟩
 have L:hr m s q a=if 0<a.guard.length/\((o.eval a.guard (cd m s q)).2≠0\/(o.eval a.guard (cd m s q)).1=0) then none else (jo m q a.b6 s).map λf=>f.set (b7 m q) a.to:=by
  unfold hr;rw[aW,if_neg (by simpa using a2)]
 have a5:=c;refine eC ?_;refine S_ [0,2,8,9,10,11] (λ_:Unit=>[]) (λ_ r=>Ext C r/\¬(0<a.guard.length/\((o.eval a.guard (cd m s q)).2≠0\/(o.eval a.guard (cd m s q)).1=0))) ?_ ?_
 .refine aa ?_;apply I_<;>intro b1;rotate_left
  .refine aa ?_;exact⟨(),trivial,Ext.refl _,λa6=>AW⟩
  refine aa ?_;refine J_ (Dn ab y i J q p l.heap.size m s _ a.guard C ar aj ai H (aQ.ext K)) ?_;rintro _ a7 ⟨rfl,u⟩;obtain⟨e,a9⟩:∃e,e=(o.eval a.guard (cd m s q)).1:=⟨_,rfl⟩;obtain⟨W,ba⟩:∃W,W=(o.eval a.guard (cd m s q)).2:=⟨_,rfl⟩;rw[<-a9,<-ba];rw[<-a9,<-ba] at L;refine aa ?_;refine I_ (λau=>?_) (λau=>?_);rotate_left
  .refine aa ?_;exact⟨.inl ⟨by rw[L,if_pos ⟨AW,.inl au⟩],aZ⟩,K.trans u⟩
  refine aa ?_;refine I_ (λav=>?_) (λav=>?_)
  .refine aa ?_;exact⟨.inl ⟨by rw[L,if_pos ⟨AW,.inr av⟩],aZ⟩,K.trans u⟩
  .refine aa ?_;exact⟨(),trivial,u,λa6=>by rcases a6.2 with x | x;exact x au;exact av x⟩
 clear c g;rintro _ bW a7 ⟨u,bb⟩;have bf:hr m s q a=(jo m q a.b6 s).map λf=>f.set (b7 m q) a.to:=by rw[L,if_neg bb]
 rw[bf];clear L bb bf;have c:=u.obj a5;have aw:=ar.ext u;have b3:=K.trans u;refine aa ?_;refine J_ (ane _ a.b6 a7 (aS.ext b) (d.trans (h.trans (j.trans u))) (λb4 b5=>(Jm I b4 b5).kind) AW) ?_;rintro G bk ⟨⟨ax,dv,az,b6⟩,M⟩;obtain⟨dw,dx,rfl,_⟩:=(aR.iw hs az).form;have b8:=aw.ext M;have b9:=M.obj c;have bn:=b3.trans M;have dz:=aw.FE;have dB:=M.size;clear c a5 ar aw;refine aa ?_;refine K_ 69 ax.length [0,2,8,9,10,11,67,68] (λ_:C_ Int=>[]) s (λe f r=>Mod (λz=>z=i) bk r/\jo m q (a.b6.take e) s=some f/\o.Fits m f/\ml l r ab y i J q l.heap.size m f) aV aV ⟨Mod.refl _ _,rfl,ai,b8⟩ ?_;rintro e f dC ae aX ⟨N,af,ag,O⟩;have cb:i≠t:=AW
 have bo:=N.obj (λx=>cb x.symm) b9;have cc:=aR.mod az N λz ah x=>by have:=(aR.lt az z ah).1;omega
 refine aa ?_;apply I_<;>intro b1
 .have aA:e<ax.length:=AW
  have P:e<a.b6.length:=AW
  have bp:=aR.iw hs cc;obtain⟨ch,rfl⟩:=bp.addr;obtain⟨br,bt,cj,ck,cm⟩:=b6 e aA P;have cp:ae.cell? (ch.add (e*1))=some (.iface (rk a.b6[e].kind) (.agg (a.b6[e].enc br bt).toArray)):=by
   have:=bp.at e aA 0 _ (by show(ax[e].1)[0]? = _;rw[cj];rfl)
   rwa[add_zero] at this
  have bu:Ext l ae:=N.ext (d.trans (h.trans (j.trans (u.trans M)))) λz ah x=>AW
  have bw:=O.box;refine aa ?_;refine L_ cp ?_;refine aa ?_;refine anc ab y i J q p l.heap.size m f a.b6[e] br bt ae _ O aj ag H (Jm I _ (ID P)) (ck.ext bu) (cm.ext bu) λG bx B=>?_;obtain⟨B,bz⟩:=B;have bA:Mod (λz=>z=i) bk bx:=N.trans bz;rcases B with ⟨t2,n,rfl,S⟩ | ⟨n,rfl⟩
  .have bB:=P0 aG H (Jm I _ (ID P)) ag n;refine aa ?_;exact⟨aA,aZ,t2,trivial,bA,by rw[P2 m q a.b6 s P,af];exact n,bB,O.mod bz S (by rw[bB.len,ag.len])⟩
  .have cq:jo m q a.b6 s=none:=P1 m q a.b6 s (e+1) (by rw[P2 m q a.b6 s P,af];exact n);refine aa ?_;exact⟨.inl ⟨by rw[cq];rfl,aZ⟩,bA.ext bn λz ah x=>by have:=b.size;omega⟩
 have cr:e=a.b6.length:=AW
 rw[cr,AG9] at af;rw[af];have bw:=O.box;have dF:=ag.len;have hh:Ext w ae:=N.ext bn λz ah x=>by have:=b.size;omega
 have ct:=b.size;refine aa ?_;intro bx aB;have aC:=O.ext aB;have dG:=aC.box;replace bo:=aB.obj bo;clear bw;refine aa ?_;refine M_ (b7 m q) (by rw[aH]) AW ?_;refine aa ?_;refine _a (k:=b7 m q) aC.own AW λdJ bC bE=>?_;have cu:=aC.mod (bC.mod rfl) bE (ZA ..);have cv:=cu.box;rw[ZA] at cv;refine aa ?_;refine⟨.inr ⟨_,some ⟨i,0,none⟩,J,rfl,by rw[ZA],by rw[ZA];exact aR.low ct bE⟩,bC.ext (hh.trans aB) (by show w.heap.size<=i;omega)⟩
end Go.Proofs.R
namespace a8
open Go Go.RowKit
def eo.low{α:Type}{C:A_->C_ B_->α->Prop}{e:F_}{sz base b:Nat}{w:A_}{v:B_}{xs:C_ α}(c:b<=base)(h:eo C e sz base w v xs):eo C e sz b w v xs:=by
 obtain⟨d,f,g,i⟩:=h.ex;exact⟨d,f,aR.low c g,λj k l=>(i j k l).mono λm _ a=>by
  rcases a with a | a
  .exact .inl a
  .exact .inr AW⟩
end a8
namespace Go.Proofs.R
open Go Go.RowKit a8 o
def CK(w:A_)(cs:C_ B_)(x:j6):Prop := ∃a,cs=[.int .i64 x.cmd,.int .i64 x.eM,a]/\cH w a x.to
def yL(w:A_)(a:Addr)(x:j6):Prop := ∃b,fx w a [.int .i64 x.cmd,.int .i64 x.eM,b]/\cH w b x.to
instance aBq:Rel yL CK 3 where
 out h:=by
  obtain⟨v,I,U⟩:=h;exact⟨_,I,v,rfl,U⟩
 kC h k:=by
  obtain⟨v,rfl,k⟩:=k;exact⟨v,h,k⟩
 len h:=by obtain⟨v,rfl,_⟩:=h;rfl
 one h:=by obtain⟨v,rfl,h⟩:=h;simpa[Value.oneCell'] using h.one
 ext e h:=let ⟨v,I,U⟩:=h; ⟨v,I,U.ext Flat.ext e⟩
def I9(w:A_)(cs:C_ B_)(x:j6):Prop := ∃a,cs=[.int .i64 x.cmd,.int .i64 x.eM,a]/\fe 0 w a x.to
def X0(w:A_)(a:Addr)(x:j6):Prop := ∃b,fx w a [.int .i64 x.cmd,.int .i64 x.eM,b]/\fe 0 w b x.to
instance aBr:Rel X0 I9 3 where
 out h:=by
  obtain⟨v,I,U⟩:=h;exact⟨_,I,v,rfl,U⟩
 kC h k:=by
  obtain⟨v,rfl,k⟩:=k;exact⟨v,h,k⟩
 len h:=by obtain⟨v,rfl,_⟩:=h;rfl
 one h:=by obtain⟨v,rfl,h⟩:=h;simpa[Value.oneCell'] using(gT h).one
 ext e h:=let ⟨v,I,U⟩:=h; ⟨v,I,aR.ext e U⟩
def UA{w w':A_}{v:B_}{l:C_ Int}(h:fe w.heap.size w' v l):ei w (λa=>fe 0 a v l) w':=λa b=>aR.low (AG2 _) (aR.mod h b λc d e=>by have:=(aR.lt h c d).1;omega)
theorem yL.ext{w w':A_}{a:Addr}{x:j6}(b:Ext w w')(h:yL w a x):yL w' a x :=
 let ⟨c,d,e⟩:=h; ⟨c,d.ext b,e.ext Flat.ext b⟩
def av2(cs:C_ B_)(v:B_)(m:o.Model)(s:C_ Int)(w:A_)(h:nR w cs m)(aW:m.cS)(e:(o.check m).bN=0)(G:cH w v s)(r:o.Fits m s) :
  EG F.NB #[.agg cs.toArray,v] w λH ao=>eo I9 T.n 3 w.heap.size ao H (eP m s)/\Ext w ao:=by
 have l:=h;have I:=g6 e;have aX:=I.HG;have cv:=Vg aX;obtain⟨cw,cx,cB,cC,cD,cF,cI,cJ,cL,cM,cN,cO,cP,cQ,cS,cT,cU,cW,aq,cX,cY,cZ,c1,c2,rfl,_,_,_,_,_,_,_,_,_,aY,_⟩:=l.form;obtain⟨c3,c4,rfl,c5⟩:=G.form;refine bm E.NB ?_;refine aa ?_;intro S c9 db t ar;refine aa ?_;refine K_ 6 (o.refs m).length [1,2] (λv:ef=>[(5,.slice v.1 v.2.1 v.2.2)]) (none,0,0) (λa v au=>Ext S au/\eo I9 T.n 3 S.heap.size au (.slice v.1 v.2.1 v.2.2) (hy m s a)) aV aV ⟨Ext.refl _,eo.nil _ _ _ _ _⟩ ?_;rintro a v dc u dd ⟨g,c⟩;have x:=t.trans g;have av:=g.obj ar;have de:=Uo m s a;obtain⟨df,dg,a0,_⟩:=c.form;refine aa ?_;refine I_ (λa2=>?_) (λa2=>?_)
 .have U:a<(o.refs m).length:=AW
  obtain⟨V,n,p,i⟩:=FX (m:=m) (ref:=a) ⟨e,AW,AW⟩;refine aa ?_;refine J_ (av6 _ _ m s a V n p u (l.ext x) aW (G.ext Flat.ext x) r i) ?_;rintro H W ⟨a5,d⟩;have a6:=d.obj av;have dh:=x.trans d;rcases a5 with ⟨a7,rfl⟩ | ⟨f,di,X,rfl,J⟩
  .refine aa ?_;exact⟨U,aZ,v,⟨rfl,trivial⟩,g.trans d,by rw[HP,i.off a7,AG8];exact c.ext d⟩
  obtain⟨a9,ba,rfl,_⟩:=J.form;have bb:=gT J;have Y:=UA J;have y:=c.ext d;have bf:=g.size;have bk:=d.size;refine aa ?_;intro Z dj dr z aw;have j:=y.ext z;have bn:=z.size;refine _A (x:=(⟨a,0,f⟩:j6)) (cs:=[.I a,.I 0,.slice a9 f.length ba]) j (gP aw)
   (((ei.own (w1:=W) Y c AW).imp λw h=>⟨_,rfl,h⟩).ext z λk K e=>by have:=c.under AW k e;omega) rfl (by simp[Value.oneCell']) AW (by unfold maxLen;omega) AW λax az A L=>?_
  have B:=j.hN ((g.trans d).trans z) L (Fy _);have bo:=t.trans B;have bp:=(Y.ext z AW).grown L λa e=>(c.lt a e).2;have br:=B.size;have aA:=B.obj ar;obtain⟨bt,bu,rfl,_⟩:=A.form;have bw:=gT bp.here;have dt:u.heap.size<=az.heap.size:=by have:=L.size;omega
  clear av a6 aw j y Y L J bb;refine aa ?_;intro aB ab;have du:=ab.obj aA;have aC:=bo.trans ab;refine aa ?_;refine J_ (U7 _ m a V n p aB (l.ext aC) i) ?_;rintro _ bx ⟨⟨bz,bA,rfl,bB,ae⟩,M⟩;have aD:=aC.trans M;refine⟨M,?_⟩;refine aa ?_;refine J_ (axd _ _ _ _ m.ay bx (ae.ext M) (aY.ext aD)) ?_;rintro _ bC ⟨rfl,aE⟩;have aF:=aD.trans aE;have q:=(ab.trans M).trans aE;have bE:=q.obj aA;have aG:=A.ext q;obtain⟨dv,bF⟩:∃bG,bG=o.ways (cR m n p) m.ay:=⟨_,rfl⟩;rw[<-bF];refine aa ?_;refine I_ (λC=>?_) (λC=>?_);rotate_left
  .refine aa ?_;exact⟨U,aZ,(bt,_,bu),⟨rfl,trivial⟩,B.trans q,by rw[HP,i.HV X AW];exact aG⟩
  have aH:o.ways (cR m n p) m.ay=2:=AW
  obtain⟨b,aI,af⟩:=O4 aH;have bH:=aal i r X;have bI:(o.chanOf m s b).length=1+gq m b:=pI (by rw[r.len];exact mn af);refine aa ?_;refine J_ (U7 _ m a V n p bC (l.ext aF) i) ?_;rintro _ bJ ⟨⟨bz,bA,rfl,bB,ae⟩,N⟩;have bK:=aF.trans N;have bL:=N.obj bE;refine aa ?_;refine J_ (agz _ _ _ bJ (ae.ext N)) ?_;rintro _ dw ⟨rfl,ag⟩;have bM:=bK.trans ag;have bN:=ag.obj bL;rw[aI];refine aa ?_;intro bO ah;have dx:=ah.obj bN;have ai:=bM.trans ah;refine aa ?_;refine J_ (U8 _ _ m s b bO (l.ext ai) I (G.ext Flat.ext ai) r.len af) ?_;rintro H bP ⟨aJ,aj⟩;obtain⟨dz,dB,rfl,_⟩:=aJ.form;have bR:=ai.trans aj;have O:=((N.trans ag).trans ah).trans aj;refine⟨aj,?_⟩;refine aa ?_;refine J_ (Vk _ _ _ m f (o.chanOf m s b) b bP (l.ext bR) I (bw.ext Flat.ext (q.trans O)) aJ bH af bI) ?_;rintro H bV ⟨aK,ak⟩;obtain⟨bW,bX,rfl,_⟩:=aK.form;have bY:=UA aK;have al:=aG.ext O;have dC:=ak.size;have dF:=(q.trans O).size;refine aa ?_;intro dG dJ dK P bZ;have dL:=P.size;have aM:=al.ext (ak.trans P);have dN:(hy m s a++[(⟨a,0,f⟩:j6)]).length<=2*a+1:=by rw[Jv];simp only[List.length_cons,List.length_nil];omega
  have b0:o.lost m s f (cR m n p)=hY f (bT m b) (o.chanOf m s b):=by unfold o.lost;rw[aI,AG4]
  refine _A (x:=(⟨a,1,hY f (bT m b) (o.chanOf m s b)⟩:j6)) (cs:=[.I a,.I 1,.slice bW (hY f (bT m b) (o.chanOf m s b)).length bX]) aM (gP bZ)
   (((ei.own (w1:=bV) bY al AW).imp λw h=>⟨_,rfl,h⟩).ext P λk K e=>by have:=al.under AW k e;omega) rfl (by simp[Value.oneCell']) AW (by unfold maxLen;omega) AW λax dP aP b1=>?_
  have b3:=aM.hN (((B.trans (q.trans O)).trans ak).trans P) b1 (Fy _);obtain⟨aQ,aS,rfl,_⟩:=aP.form;have b4:hy m s (a+1)=hy m s a++[(⟨a,0,f⟩:j6)]++[(⟨a,1,hY f (bT m b) (o.chanOf m s b)⟩:j6)]:=by rw[HP,i.HW X aH,b0,VA];rfl
  refine aa ?_;exact⟨U,aZ,(aQ,_,aS),⟨rfl,trivial⟩,b3,by rw[b4];exact aP⟩
 .have b5:a=(o.refs m).length:=AW
  subst b5;obtain⟨b6,dQ,b8⟩:=v;cases a0;refine aa ?_;refine I_ (λC=>?_) (λC=>?_)
  .have aT:hy m s (o.refs m).length=[]:=AG1 AW;have an:eP m s=hy m s (o.refs m).length++[⟨-1,0,s⟩]:=by unfold eP;rw[aT];rfl
   replace c:eo I9 T.n 3 S.heap.size u (.slice b6 (hy m s (o.refs m).length).length b8) (hy m s (o.refs m).length):=c;have dR:(hy m s (o.refs m).length).length=0:=by rw[aT];rfl
   have b9:=G.ext Flat.ext x;have bf:=g.size;refine aa ?_;intro W cb cc d ch;have y:fe u.heap.size W (.slice (some ⟨cb,0,none⟩) 0 0) []:=aR.empty cc ch;have bk:=d.size;have dS:cG m<=64:=iq I;have dT:=r.len;refine aa ?_;refine _D y (b9.ext Flat.ext d) (λ_=>rfl) je (by simp only[List.length_nil];omega) (by simp only[List.length_nil];unfold maxLen;omega) d.size λdV Z j cj=>?_;have dO:Ext u Z:=d.grown cj λk K=>(y.lt k K).1;rw[AH2] at j;obtain⟨ck,aq,rfl,_⟩:=j.form;have cm:=UA j;have cp:=c.ext dO;have bn:=dO.size;refine aa ?_;intro az dW dX Q cq;have A:=cp.ext Q;have br:=Q.size;refine _A (x:=(⟨-1,0,s⟩:j6)) (cs:=[.I (-1),.I 0,.slice ck s.length aq]) A (gP cq)
    (((ei.own (w1:=Z) cm c AW).imp λw h=>⟨_,rfl,h⟩).ext Q λk K e=>by have:=c.under AW k e;omega) rfl (by simp[Value.oneCell']) AW (by unfold maxLen;omega) AW λax aB aU cr=>?_
   have ct:=A.hN ((g.trans dO).trans Q) cr (Fy _);obtain⟨aQ,aS,rfl,_⟩:=aU.form;refine aa ?_;exact⟨by rw[an];exact eo.low t.size aU,t.trans ct⟩
  .have an:eP m s=hy m s (o.refs m).length:=by
    unfold eP;split
    .rename_i cu;rw[cu] at C;simp at C
    .rfl
   refine aa ?_;exact⟨by rw[an];exact eo.low t.size c,x⟩
end Go.Proofs.R