/- Parts. -/
import Derived.Test.YtakmdjclehkglaaGreatDoorQasl
import Derived.Shelf.SlGeneric
import Derived.Shelf.SlIterI.Nil
import Derived.Shelf.SortM.Plain
import Derived.Shelf.SortM.SortNone
set_option linter.all false
set_option maxRecDepth 8000
set_option maxHeartbeats 16000000
section
namespace o
open Go
theorem aal(s w:Int):∀(l:C_ ed) (k j:Nat) (h:j<l.length),(fH s w l k)[j]? = some ⟨s,w,(k+j:Nat),l[j].aR,l[j].U,l[j].kind⟩
 | [],_,_,h=>by simp at h
 | b :: l,k,0,_=>by simp[fH]
 | b :: l,k,j+1,h=>by
  simp only[fH,List.getElem?_cons_succ,List.getElem_cons_succ];rw[aal s w l (k+1) j (by simpa using h),show k+1+j=k+(j+1) from AK]
theorem M9(s:Int):∀(ls:C_ (C_ ed)) (i w k:Nat) (hw:w<ls.length) (hk:k<ls[w].length),(cellsOf s ls i)[total (ls.take w)+k]? = some ⟨s,(i+w:Nat),k,ls[w][k].aR,ls[w][k].U,ls[w][k].kind⟩
 | [],_,_,_,hw,_=>by simp at hw
 | l :: r,i,0,k,_,hk=>by
  simp only[List.take_zero,total,List.map_nil,List.sum_nil,Nat.zero_add,List.getElem_cons_zero,cellsOf] at hk ⊢;rw[List.getElem?_append_left (by rw[u3];exact hk),aal s i l 0 k hk];simp
 | l :: r,i,w+1,k,hw,hk=>by
  simp only[List.take_succ_cons,GM,List.getElem_cons_succ,cellsOf] at hk ⊢;rw[List.getElem?_append_right (by rw[u3];omega),u3,show l.length+total (r.take w)+k - l.length=total (r.take w)+k from AK,M9 s r (i+1) w k (by simpa using hw) hk,show i+1+w=i+(w+1) from AK]
theorem amq{m:Model}{k p:Nat}(hk:k<(insts m).length)(au:p<m.procs.length)(ao:me m (insts m)[k]=vd m.scalars m.procs[p]):∃h:dG m k<(b1 m).length,(b1 m)[dG m k].aR=0/\(b1 m)[dG m k].U=m.procs[p].cp - 1:=by
 have hw:k<(fE m).length:=by simpa[fE] using hk
 have e:(fE m)[k]=vd m.scalars m.procs[p]:=by simp[fE,ao]
 have af:0<(fE m)[k].length:=by rw[e,AG];omega
 have h1:=M9 3 (fE m) 0 k 0 hw af;have I:=amp (m:=m) (c:=dG m k) (by unfold dG;omega);rw[show dG m k - (total (c0 m)+total (dK m))=total ((fE m).take k)+0 from by unfold dG;omega,h1] at I;obtain⟨ab,aH⟩:=List.getElem?_eq_some_iff.1 I;refine⟨ab,?_,?_⟩
 .rw[aH];simp only[e];rfl
 .rw[aH];simp only[e];rfl
theorem Fits.loc{m:Model}{s:C_ Int}(h:Fits m s){k p:Nat}(hk:k<(insts m).length)(au:p<m.procs.length)(ao:me m (insts m)[k]=vd m.scalars m.procs[p]):∃d:Nat,s[dG m k]? = some (d:Int)/\(d:Int)<m.procs[p].cp:=by
 obtain⟨h1,I,ab⟩:=amq hk au ao;have ak:dG m k<s.length:=by rw[h.len];exact h1
 have aH:=h.cell _ ak h1;rw[I,ab] at aH;refine⟨s[dG m k].toNat,?_,AK⟩;rw[List.getElem?_eq_getElem ak,Int.toNat_of_nonneg aH.1]
theorem Vt(m:Model)(s:C_ Int)(p l:Int)(k:Nat):vJ m s p l (k+1)=vJ m s p l k+if ((insts m)[k]?.map (·.proc))=some p/\s[dG m k]? = some l then 1 else 0:=by
 unfold vJ;rw[AH5,AK3,Ln,List.filter_cons,List.filter_nil];by_cases h:((insts m)[k]?.map (·.proc))=some p/\s[dG m k]? = some l
 .rw[decide_eq_true h,if_pos rfl,if_pos h];rfl
 .rw[decide_eq_false h,if_neg Bs,if_neg h];rfl
theorem vK(m:Model)(s:C_ Int)(p:Nat)(n:Int)(k:Nat):(kz m s p n k).length=n.toNat:=by simp[kz]
theorem DH{m:Model}{s:C_ Int}{p:Nat}{n:Int}{k d:Nat}(h:d<n.toNat):(kz m s p n k)[d]? = some ((vJ m s p d k:Nat):Int):=by
 simp[kz,h]
theorem Vw(m:Model)(s:C_ Int)(p:Nat)(n:Int):kz m s p n 0=List.replicate n.toNat 0:=by
 apply List.ext_getElem?;intro i;by_cases h:i<n.toNat
 .rw[DH h];simp[vJ,h]
 .rw[List.getElem?_eq_none (by rw[vK];omega),List.getElem?_eq_none (by simp;omega)]
theorem Vu{m:Model}{s:C_ Int}{p:Nat}{n:Int}{k:Nat}(h:(insts m)[k]?.map (·.proc)≠some (p:Int)):kz m s p n (k+1)=kz m s p n k:=by
 unfold kz;apply List.map_congr_left;intro l _;rw[Vt,if_neg (fun e=>h e.1),AJ2]
theorem Vv{m:Model}{s:C_ Int}{p:Nat}{n:Int}{k d:Nat}(h:(insts m)[k]?.map (·.proc)=some (p:Int))(ak:s[dG m k]? = some (d:Int))(bb:d<n.toNat):kz m s p n (k+1)=(kz m s p n k).set d ((vJ m s p d k:Nat)+1:Int):=by
 apply List.ext_getElem?;intro i;rw[List.getElem?_set];by_cases U:i<n.toNat
 .rw[DH U,Vt];by_cases Pc:d=i
  .subst Pc;rw[if_pos ⟨h,ak⟩,if_pos rfl,if_pos (by rw[vK];exact bb)];rfl
  .rw[if_neg (fun e=>Pc (by have aJ:=e.2;rw[ak] at aJ;have a7:=Option.some.inj aJ;omega)),if_neg Pc,DH U,AJ2]
 .rw[List.getElem?_eq_none (by rw[vK];omega),if_neg AK,List.getElem?_eq_none (by rw[vK];omega)]
theorem MR(m:Model)(s:C_ Int)(p l:Int)(k:Nat):vJ m s p l k<=k:=by
 unfold vJ;refine QB (AK6 _ _) ?_;simp
theorem ZJ{m:Model}:∀(l:C_ dJ) (i:Nat),l=m.procs.drop i->∀x∈j1 m l i,∃(p:Nat) (h:p<m.procs.length),x.proc=p/\(m.procs[p].over≠0->1<=x.elem)
 | [],_,_,x,ag=>by simp[j1] at ag
 | p :: r,i,h,x,ag=>by
  have U:i<m.procs.length:=by
   apply Classical.byContradiction;intro az;rw[AF0 AK] at h;cases h
  rw[AF2 U] at h;injection h with h1 I
  simp only[j1,List.mem_append] at ag;rcases ag with (ag | ag) | ag
  .unfold jA at ag;split at ag
   .rename_i af;rw[AG0] at ag;subst ag;exact⟨i,U,rfl,fun az=>absurd (h1 ▸ af) az⟩
   .cases ag
  .unfold j6 at ag;obtain⟨k,_,rfl⟩:=List.mem_map.1 ag;exact⟨i,U,rfl,fun _=>by simp only;omega⟩
  .exact ZJ r (i+1) I x ag
structure fY(m:Model)(q p:Nat):Prop where
 ar:q<(insts m).length
 au:p<m.procs.length
 eq:(insts m)[q].proc=p
 elem:m.procs[p].over≠0->1<=(insts m)[q].elem
 fP:0<=(insts m)[q].elem/\(insts m)[q].elem<=4
theorem Fy{m:Model}{q:Nat}(h:q<(insts m).length):∃p,fY m q p:=by
 obtain⟨p,au,e,h1⟩:=ZJ m.procs 0 Bs _ (GR h);exact⟨p,h,au,e,h1,(rC _ (GR h)).elem⟩
theorem fY.nth{m:Model}{q p:Nat}(h:fY m q p):o.nth m.procs ((insts m)[q]'(h.ar)).proc=some (m.procs[p]'(h.au)):=by
 rw[h.eq,iM AK (by have:=h.au;omega)];rfl
theorem fY.aet{m:Model}{q p:Nat}(h:fY m q p):me m ((insts m)[q]'(h.ar))=vd m.scalars (m.procs[p]'(h.au)):=by
 unfold me;rw[h.nth]
theorem fY.room{m:Model}{q p:Nat}(h:fY m q p):dG m q+(1+(m.procs[p]'(h.au)).vars.length)<=dN m:=by
 have:=Qi h.ar
 rw[h.aet,AG] at this;exact this
theorem Ih{m:Model}{q:Nat}(h:q<(insts m).length):Ig m q=((insts m)[q]'h).elem.toNat:=by
 unfold Ig;rw[List.getElem?_eq_getElem h]
theorem ss{m:Model}{v:Nat}(h:v<m.vars.length):ph m v=(cells m.vars[v] m.scalars).toNat:=by
 unfold ph;rw[List.getElem?_eq_getElem h]
theorem pJ{m:Model}{c:Nat}(h:c<m.aw.length):gE m c=m.aw[c].cap.toNat:=by
 unfold gE;rw[List.getElem?_eq_getElem h]
theorem LV{m:Model}(aW:eX m){v:Nat}(h:v<m.vars.length):hn m v+ph m v<=64:=by
 have:=rQ h
 rw[ss h]
 have:=mZ m
 have:dN m<=64:=jd aW
 omega
theorem xS{m:Model}(aW:eX m){c:Nat}(h:c<m.aw.length):cm m c+(1+gE m c)<=64:=by
 have:=vR h
 rw[pJ h]
 have:=mZ m
 have:dN m<=64:=jd aW
 omega
theorem Fx{m:Model}(aW:eX m){q:Nat}(h:q<(insts m).length):dG m q+1<=64:=by
 obtain⟨p,au⟩:=Fy h
 have:=au.room
 have:dN m<=64:=jd aW
 omega
theorem fY.Gt{m:Model}(aW:eX m){q p:Nat}(h:fY m q p):dG m q+(1+(m.procs[p]'(h.au)).vars.length)<=64:=by
 have:=h.room
 have:dN m<=64:=jd aW
 omega
structure fL(n:Nat)(l:List Int):Prop where
 aR:∀x∈l,0<=x/\x<80
 len:l.length<=n
theorem fL.row{a n k:Nat}(h:a+n<=80)(az:n<=k):fL k (gQ a n):=⟨fun x ag=>by have:=tZ.1 ag;omega,by rw[apV];exact az⟩
theorem fL.nil(n:Nat):fL n []:=⟨fun x ag=>(by cases ag),AF6 _⟩
theorem fL.app{a b n:Nat}{l r:C_ Int}(h:fL a l)(k:fL b r)(az:a+b<=n):fL n (l++r):=⟨fun x ag=>by
 rcases List.mem_append.1 ag with ag | ag
 .exact h.aR x ag
 .exact k.aR x ag,by rw[Ln];have:=h.len;have:=k.len;omega⟩
theorem fL.mono{a n:Nat}{l:C_ Int}(h:fL a l)(az:a<=n):fL n l:=⟨h.aR,QB h.len az⟩
theorem ZW{m:Model}(aW:eX m){q v:Nat}(ar:q<(insts m).length)(aG:v<m.vars.length)(own:Bool):fL 64 (rD m q v own):=by
 have:=LV aW aG
 have aH:=(rC _ (GR ar)).elem
 have:=Ih ar
 unfold rD;cases own
 .exact fL.row AK AK
 .exact fL.row AK AK
theorem Vs{m:Model}(aW:eX m)(p:Int):∀n,n<=(insts m).length->fL n (s5 m p n)
 | 0,_=>fL.nil _
 | n+1,h=>by
  rw[DG AK]
  have:=Fx aW (q:=n) AK
  refine fL.app (Vs aW p n AK) (b:=1) ?_ (GA _);split
  .exact fL.row AK (GA _)
  .exact fL.nil _
theorem Fz{m:Model}(aW:eX m):(insts m).length<=30:=by have:=tH m;have:=aW.procs;omega
theorem anm{m:Model}(aW:eX m){q p:Nat}(h:fY m q p){x:Node}(ag:Dp (inner (m.procs[p]'(h.au)) (eR m)) x)(own:Bool):fL 64 (hW m q own x):=by
 unfold hW;by_cases I:x.op=2
 .rw[if_pos I];obtain⟨_,v,aG,_⟩:=ag.var I;have e1:x.n.toNat<m.vars.length:=(List.getElem?_eq_some_iff.1 aG).1
  have:=rQ e1
  have:=mZ m
  have:dN m<=64:=jd aW
  exact fL.row AK AK
 rw[if_neg I];by_cases ab:x.op=3
 .rw[if_pos ab];exact ZW aW h.ar (ag.item ab).2 own
 rw[if_neg ab];by_cases aH:x.op=4
 .rw[if_pos aH];have a8:x.n.toNat<(m.procs[p]'(h.au)).vars.length:=(ag.loc aH).2
  have:=h.Gt aW
  exact fL.row AK AK
 rw[if_neg aH];by_cases bE:x.op=6
 .rw[if_pos bE]
  have:=xS aW (ag.len bE).2
  exact fL.row AK AK
 rw[if_neg bE];by_cases cj:x.op=7
 .rw[if_pos cj];exact(Vs aW _ _ (GA _)).mono (by have:=Fz aW;omega)
 .rw[if_neg cj];exact fL.nil _
theorem WR{m:Model}(aW:eX m){q p:Nat}(h:fY m q p){e:C_ Node}(he:ug (inner (m.procs[p]'(h.au)) (eR m)) e):∀n,n<=e.length->fL (64*n) (sc m q e n)
 | 0,_=>fL.nil _
 | n+1,az=>by
  rw[WQ AK];exact fL.app (WR aW h he n AK) (anm aW h (he.node n AK).1 _) AK
theorem NO{m:Model}(aW:eX m){q p:Nat}(h:fY m q p){e:C_ Node}(he:ug (inner (m.procs[p]'(h.au)) (eR m)) e){n:Nat}(az:n<=e.length):fL 1536 (sc m q e n) :=
 (WR aW h he n az).mono (by have:=he.len;omega)
theorem Nc{m:Model}(aW:eX m){c:Nat}(h:c<m.aw.length):fL 64 (xV m c):=by
 have:=xS aW h
 exact fL.row AK AK
theorem ad0{m:Model}(aW:eX m){q p:Nat}(h:fY m q p){a:Act}(aV:n0 (inner (m.procs[p]'(h.au)) (eR m)) a):fL 3072 (vH m q a):=by
 unfold vH;by_cases a8:a.kind=5
 .rw[if_pos a8];exact(Nc aW (aV.chan (.inr a8)).2).mono AK
 .rw[if_neg a8];refine fL.app (a:=1536) ?_ (NO aW h (aV.val a8) (GA _)) AK;by_cases I:a.kind=2
  .rw[if_pos I];exact NO aW h (aV.item I).2.2 (GA _)
  rw[if_neg I];by_cases aH:a.kind=4
  .rw[if_pos aH]
   have:=xS aW (aV.chan (.inl aH)).2
   exact fL.row AK AK
  .rw[if_neg aH];exact fL.nil _
theorem ad1{m:Model}(aW:eX m){q p:Nat}(h:fY m q p){a:Act}(aV:n0 (inner (m.procs[p]'(h.au)) (eR m)) a):fL 80 (oj m q a):=by
 have kA:=h.Gt aW;unfold oj;by_cases h1:a.kind=1
 .rw[if_pos h1];obtain⟨_,v,aG,_⟩:=aV.set h1;have e1:a.to.toNat<m.vars.length:=(List.getElem?_eq_some_iff.1 aG).1
  have:=LV aW e1
  exact fL.row AK AK
 rw[if_neg h1];by_cases I:a.kind=2
 .rw[if_pos I];exact(ZW aW h.ar (aV.item I).2.1 _).mono AK
 rw[if_neg I];by_cases ab:a.kind=3
 .rw[if_pos ab];have a8:a.to.toNat<(m.procs[p]'(h.au)).vars.length:=(aV.loc ab).2;exact fL.row AK AK
 rw[if_neg ab];by_cases aH:a.kind=4
 .rw[if_pos aH];exact(Nc aW (aV.chan (.inl aH)).2).mono AK
 rw[if_neg aH];by_cases a8:a.kind=5
 .rw[if_pos a8];have bE:a.loc.toNat<(m.procs[p]'(h.au)).vars.length:=(aV.recv a8).2;exact fL.app (Nc aW (aV.chan (.inr a8)).2) (fL.row (k:=1) AK AK) AK
 .rw[if_neg a8];exact fL.nil _
theorem ah7{m:Model}(aW:eX m){q p:Nat}(h:fY m q p){c:ea}(an:xz (inner (m.procs[p]'(h.au)) (eR m)) c):fL 1537 (IS m q c):=by
 have:=Fx aW h.ar
 exact fL.app (fL.row (k:=1) AK AK) (NO aW h an.guard (GA _)) AK
theorem abI{m:Model}(aW:eX m){q p:Nat}(h:fY m q p){c:ea}(an:xz (inner (m.procs[p]'(h.au)) (eR m)) c):∀n,n<=c.bQ.length->fL (1537+3072*n) (rL m q c n)
 | 0,_=>by
  unfold rL;simpa using ah7 aW h an
 | n+1,az=>by
  rw[abH AK];exact fL.app (abI aW h an n AK) (ad0 aW h (an.act n AK)) AK
theorem adk{m:Model}(aW:eX m){q p:Nat}(h:fY m q p){c:ea}(an:xz (inner (m.procs[p]'(h.au)) (eR m)) c):∀n,n<=c.bQ.length->fL (1+80*n) (oP m q c n)
 | 0,_=>by
  have:=Fx aW h.ar
  unfold oP;simpa using fL.row (a:=dG m q) (n:=1) (k:=1) AK AK
 | n+1,az=>by
  rw[adj AK];exact fL.app (adk aW h an n AK) (ad1 aW h (an.act n AK)) AK
theorem aqs{a:Act}(h:a.index.length=1):sE a=decide ((a.index[0]' AK).op=5):=by
 obtain⟨x,ag⟩:=List.length_eq_one_iff.1 h;unfold sE;simp[ag]
theorem aqr{a:Act}(h:¬a.index.length=1):sE a=false:=by
 unfold sE;split
 .rename_i x ag;rw[ag] at h;exact absurd rfl h
 .rfl
theorem abn(L:C_ Int)(a n:Nat):L++gQ a (n+1)=L++gQ a n++[((a+n:Nat):Int)]:=by rw[apW,Vq]
end o
namespace Go.Proofs.R
open Go Go.RowKit ba
structure pA(w:World)(b:Nat)(m:o.Model)(q:Nat):Prop where
 ex:∃cs ys bL,w.heap[b]? = some (.cells (cs++ys++[bL,.int .i64 q]).toArray T.jG)/\o.eh w cs m/\o.kK w ys (o.layout m)/\ku w bL (o.insts m)
theorem pA.ext{w w':A_}{b q:Nat}{m:o.Model}(he:Ext w w')(h:pA w b m q):pA w' b m q :=
 let ⟨xs,cs,bL,af,h1,I,ab⟩:=h.ex; ⟨xs,cs,bL,he.obj af,h1.ext he,I.ext he,ab.ext Flat.ext he⟩
theorem pA.form{w:A_}{b q:Nat}{m:o.Model}(h:pA w b m q):∃b6 bx bR c1 bX c2 bZ bu ca bC eK d0 dM d1 et d2 eB d3 eL d4 cn ci,
  w.heap[b]? = some (.cells #[.slice eK m.scalars.length d0,.slice dM m.vars.length d1,.slice et m.aw.length d2,.slice eB m.procs.length d3,.slice eL m.props.length d4,
   .slice b6 (o.layout m).vars.length bx,.slice bR (o.layout m).aw.length c1,.slice bX (o.layout m).insts.length c2,.I (o.layout m).cells,.slice bZ (o.layout m).aR.length bu,.slice ca (o.layout m).U.length bC,.slice cn (o.insts m).length ci,.I q] T.jG) /\
  bn 1 (Flat cL) w (.slice b6 (o.layout m).vars.length bx) (o.layout m).vars/\bn 1 (Flat cL) w (.slice bR (o.layout m).aw.length c1) (o.layout m).aw/\bn 1 (Flat cL) w (.slice bX (o.layout m).insts.length c2) (o.layout m).insts /\
  o.ih w (.slice eK m.scalars.length d0) m.scalars/\o.h3 w (.slice dM m.vars.length d1) m.vars/\o.mT w (.slice et m.aw.length d2) m.aw/\o.qV w (.slice eB m.procs.length d3) m.procs /\
  ku w (.slice cn (o.insts m).length ci) (o.insts m):=by
 obtain⟨cs,xs,bL,ao,aW,cY,aZ⟩:=h.ex;obtain⟨b6,bx,bR,c1,bX,c2,bZ,bu,ca,bC,rfl,en,dU,du,eW,fQ⟩:=cY.form;obtain⟨eK,d0,dM,d1,et,d2,eB,d3,eL,d4,rfl,af,h1,I,ab,aH,_⟩:=aW.form;obtain⟨cn,ci,rfl,_⟩:=aZ.form;exact⟨b6,bx,bR,c1,bX,c2,bZ,bu,ca,bC,eK,d0,dM,d1,et,d2,eB,d3,eL,d4,cn,ci,ao,en,dU,du,af,h1,I,ab,aZ⟩
theorem tV(b:Nat)(L:C_ Int)(a n:Nat)(x y:Int)(w:A_)(h:fu w b L)(ag:x=a)(bV:y=n)(hm:a+n<=1000000000) :
  DD F.f #[.map (some b),.I x,.I y] w fun _ w'=>fu w' b (L++o.gQ a n)/\Mod (fun i=>i=b) w w':=by
 subst ag bV;refine br E.f ?_;refine J ?_;refine L_ 8 n [0,1,7] (fun _:Unit=>[]) () (fun k _ W=>Mod (fun i=>i=b) w W/\fu W b (L++o.gQ a k)) bc bc ⟨Mod.refl _ _,by simpa[o.abZ] using h⟩ ?_;rintro k _ S w1 hk ⟨o8,fp⟩;refine J ?_;apply I_<;>intro g1
 .refine J ?_;refine AD0 fp fun z=>?_;refine J ?_;refine _l ?_;refine J ?_;refine AD1 fp AK fun aD nR ep=>?_;refine J ?_;refine⟨AK,aL,(),trivial,o8.trans (nR.mod rfl),?_⟩;rw[o.abn];exact ep
 .have jL:k=n:=AK
  subst jL;refine J ?_;exact⟨fp,o8⟩
theorem ET(b q:Nat)(m:o.Model)(w:A_)(h:pA w b m q)(ar:q<(o.insts m).length) :
  DD F.v #[.pointer (some ⟨b,0,none⟩)] w fun v w'=>v = .I (o.dG m q)/\Ext w w':=by
 obtain⟨b6,bx,bR,c1,bX,c2,bZ,bu,ca,bC,eK,d0,dM,d1,et,d2,eB,d3,eL,d4,cn,ci,ao,en,dU,du,af,h1,I,ab,aZ⟩:=h.form;obtain⟨U,he⟩:=o.rB ar;obtain⟨a2,rfl⟩:=du.addr;refine br E.v ?_;refine J ?_;intro w1 ai;refine J ?_;exact⟨by rw[he],ai⟩
theorem R9(b cP q i:Nat)(L:C_ Int)(m:o.Model)(w0 w:A_)(h:pA w0 b m q)(he:Ext w0 w)(mC:w0.heap.size<=cP)(ak:fu w cP L)(aW:o.eX m)(U:i<m.aw.length) :
  DD F.bB #[.pointer (some ⟨b,0,none⟩),.map (some cP),.I i] w fun _ w'=>fu w' cP (L++o.xV m i)/\Mod (fun k=>k=cP) w w':=by
 obtain⟨b6,bx,bR,c1,bX,c2,bZ,bu,ca,bC,eK,d0,dM,d1,et,d2,eB,d3,eL,d4,cn,ci,ao,en,dU,du,af,h1,I,ab,aZ⟩:=(h.ext he).form;obtain⟨kl,e0⟩:=o.s8 U;have wM:=o.xS aW U;have eU:=o.pJ U;have iu:=(aW.chan _ (GR U)).cap;have gM:=aW.gM;obtain⟨db,rfl⟩:=dU.addr;obtain⟨a2,rfl⟩:=I.addr;have ej:=(I.at i U).cells;refine br E.bB ?_;refine J ?_;intro w1 ai;refine J ?_;refine J_ (tV cP L (o.cm m i) (1+o.gE m i) _ _ w1 (ak.ext ai) (by rw[e0]) AK AK) ?_;rintro _ aD ⟨ep,fN⟩;refine J ?_;exact⟨ep,ai.mod.trans fN⟩
theorem GQ(b cP q i:Nat)(item own:Bool)(L:C_ Int)(m:o.Model)(w0 w:A_)(h:pA w0 b m q)(he:Ext w0 w)(mC:w0.heap.size<=cP)(ak:fu w cP L)(aW:o.eX m)(ar:q<(o.insts m).length)(U:i<m.vars.length)
  (aO:item=true->own=true->1<=(o.insts m)[q].elem) :
  DD F.w #[.pointer (some ⟨b,0,none⟩),.map (some cP),.I i,.bool item,.bool own] w fun _ w'=>fu w' cP (L++o.rD m q i (item&&own))/\Mod (fun k=>k=cP) w w':=by
 obtain⟨b6,bx,bR,c1,bX,c2,bZ,bu,ca,bC,eK,d0,dM,d1,et,d2,eB,d3,eL,d4,cn,ci,ao,en,dU,du,af,h1,I,ab,aZ⟩:=(h.ext he).form;obtain⟨eV,hP⟩:=o.xr U;have wM:=o.LV aW U;have E7:=o.ss U;have uP:=(o.rC _ (GR ar)).elem;have fC:=o.Ih ar;have dY:=o.r7 m.vars[i] m.scalars;obtain⟨a0,rfl⟩:=en.addr;obtain⟨db,rfl⟩:=h1.addr;obtain⟨ij,rfl⟩:=aZ.addr;have ej:=(h1.at i U).cells;cases item<;>cases own;rotate_left 3
 .have nh:=aO rfl rfl;refine br E.w ?_;refine J ?_;intro w1 ai;refine J ?_;refine J_ (tV cP L (o.hn m i+o.Ig m q - 1) 1 _ _ w1 (ak.ext ai) (by rw[hP];omega) rfl AK) ?_;rintro _ aD ⟨ep,fN⟩;refine J ?_;exact⟨ep,ai.mod.trans fN⟩
 all_goals
  clear aO;refine br E.w ?_;refine J ?_;intro w1 ai;refine J ?_;refine J_ (BC m.vars[i] _ m.scalars w1 (af.ext ai)) ?_;rintro _ aD ⟨rfl,aj⟩;refine J ?_;refine J_ (tV cP L (o.hn m i) (o.ph m i) _ _ aD ((ak.ext ai).ext aj) (by rw[hP]) AK AK) ?_;rintro _ aN ⟨gO,js⟩;refine J ?_;exact⟨gO,(ai.mod.trans aj.mod).trans js⟩
end Go.Proofs.R
end
section
namespace o
open Go
theorem aaQ{m:Model}{q:Nat}{own:Bool}{x:Node}(h:x.op=2){v:Var}(aG:m.vars[x.n.toNat]? = some v)(af:v.over=0):rD m q x.n.toNat false=hW m q own x:=by
 obtain⟨h1,I⟩:=List.getElem?_eq_some_iff.1 aG;unfold hW rD;rw[if_pos h,if_neg Bs,ss h1,I]
 have:cells v m.scalars=1:=by unfold cells;rw[if_pos af]
 rw[this];rfl
end o
namespace Go.Proofs.R
open Go Go.RowKit ba
structure xx(w:World)(bM kM b cP:Nat):Prop where
 x:w.heap[bM]? = some (.cells #[.pointer (some ⟨b,0,none⟩)] T.gD)
 z:w.heap[kM]? = some (.cells #[.map (some cP)] T.s)
theorem xx.mod{w w':A_}{bM kM b cP:Nat}{L:C_ Int}(h:xx w bM kM b cP)(ak:fu w cP L)(hm:Mod (fun k=>k=cP) w w'):xx w' bM kM b cP:=by
 obtain⟨es,c,an,_⟩:=ak.ex;have az:∀{k:Nat} {cs t},w.heap[k]? = some (.cells cs t)->¬k=cP:=fun hk e=>by subst e;rw[hk] at an;cases an
 exact⟨hm.obj (az h.x) h.x,hm.obj (az h.z) h.z⟩
theorem xx.ext{w w':A_}{bM kM b cP:Nat}(h:xx w bM kM b cP)(he:Ext w w'):xx w' bM kM b cP:=⟨he.obj h.x,he.obj h.z⟩
theorem ag2(x:o.Node)(own:Bool)(b cP bM kM q p:Nat)(L:C_ Int)(m:o.Model)(w0 w:A_)(h:pA w0 b m q)(he:Ext w0 w)(mC:w0.heap.size<=cP)(ak:fu w cP L)(ki:xx w bM kM b cP)(aW:o.eX m)(aZ:o.fY m q p)
  (ag:o.Dp (o.inner (m.procs[p]'(aZ.au)) (o.eR m)) x)(dh:x.ok)(aO:own=true->1<=((o.insts m)[q]'(aZ.ar)).elem) :
  DD F.cC #[.agg x.enc.toArray,.bool own,.pointer (some ⟨bM,0,none⟩),.pointer (some ⟨kM,0,none⟩)] w fun _ w'=>fu w' cP (L++o.hW m q own x)/\Mod (fun k=>k=cP) w w':=by
 have ar:=aZ.ar;have kA:=aZ.Gt aW;have Qe:=dh.op;have Qd:=dh.n;unfold o.ee at Qe Qd;have ow:=ki.x;have wv:=ki.z;obtain⟨b6,bx,bR,c1,bX,c2,bZ,bu,ca,bC,eK,d0,dM,d1,et,d2,eB,d3,eL,d4,cn,ci,sg,en,dU,du,_,_,_,_,Oc⟩:=h.form;refine br E.cC ?_;refine J ?_;intro w1 cC ff ai bp;replace ow:=ai.obj ow;replace wv:=ai.obj wv;have fp:=ak.ext ai;have jQ:=he.trans ai;obtain⟨es,ce,e0,_⟩:=fp.ex;have tP:¬cC=cP:=fun e=>by subst e;rw[bp] at e0;cases e0
 have va:¬bM=cP:=fun e=>by subst e;rw[ow] at e0;cases e0
 have anx:¬kM=cP:=fun e=>by subst e;rw[wv] at e0;cases e0
 clear e0;unfold o.Node.enc at bp;refine J ?_;apply I_<;>intro g2
 .obtain⟨gI,v,aG,jb⟩:=ag.var g2;have e1:x.n.toNat<m.vars.length:=(List.getElem?_eq_some_iff.1 aG).1;have hq:x.n=(x.n.toNat:Nat):=AK
  refine J ?_;rw[hq];refine J_ (GQ b cP q x.n.toNat false false L m w0 w1 h jQ mC fp aW ar e1 (fun a=>by cases a)) ?_;rintro _ aD ⟨ep,fN⟩;rw[Bool.false_and,o.aaQ g2 aG jb (own:=own)] at ep;refine J ?_;exact⟨ep,ai.mod.trans fN⟩
 refine J ?_;apply I_<;>intro g3
 .obtain⟨gI,e1⟩:=ag.item g3;have hq:x.n=(x.n.toNat:Nat):=AK
  refine J ?_;rw[hq];refine J_ (GQ b cP q x.n.toNat true own L m w0 w1 h jQ mC fp aW ar e1 (fun _ a=>aO a)) ?_;rintro _ aD ⟨ep,fN⟩;have a7:o.hW m q own x=o.rD m q x.n.toNat (true&&own):=by unfold o.hW;rw[if_neg g2,if_pos g3,AJ3]
  rw[<-a7] at ep;refine J ?_;exact⟨ep,ai.mod.trans fN⟩
 refine J ?_;apply I_<;>intro g4
 .obtain⟨gI,e1⟩:=ag.loc g4;have fl:x.n.toNat<(m.procs[p]'(aZ.au)).vars.length:=e1;have bD:o.hW m q own x=o.gQ (o.dG m q+1+x.n.toNat) 1:=by unfold o.hW;rw[if_neg g2,if_neg g3,if_pos g4]
  rw[bD];refine J ?_;intro aD aj;refine J ?_;refine J_ (ET b q m aD (h.ext (jQ.trans aj)) ar) ?_;rintro _ aN ⟨rfl,ah⟩;refine⟨ah,?_⟩;refine J ?_;refine J_ (tV cP L (o.dG m q+1+x.n.toNat) 1 _ _ aN ((fp.ext aj).ext ah) AK rfl AK) ?_;rintro _ aU ⟨ly,jY⟩;refine J ?_;exact⟨ly,((ai.mod.trans aj.mod).trans ah.mod).trans jY⟩
 refine J ?_;apply I_<;>intro g6
 .obtain⟨gI,e1⟩:=ag.len g6;have fl:x.n.toNat<m.aw.length:=e1;have EL:=o.xS aW fl;have hq:x.n=(x.n.toNat:Nat):=AK
  have cv:o.hW m q own x=o.gQ (o.cm m x.n.toNat) 1:=by unfold o.hW;rw[if_neg g2,if_neg g3,if_neg g4,if_pos g6]
  rw[cv];obtain⟨kl,e0⟩:=o.s8 fl;obtain⟨db,rfl⟩:=dU.addr;have ao:=jQ.obj sg;have Ri:=dU.ext Flat.ext jQ;rw[hq] at bp;refine J ?_;intro aD aj;refine J ?_;refine J_ (tV cP L (o.cm m x.n.toNat) 1 _ _ aD (fp.ext aj) (by rw[e0]) rfl AK) ?_;rintro _ aU ⟨ly,jY⟩;refine J ?_;exact⟨ly,(ai.mod.trans aj.mod).trans jY⟩
 refine J ?_;apply I_<;>intro g7;rotate_left
 .have fk:o.hW m q own x=[]:=by unfold o.hW;rw[if_neg g2,if_neg g3,if_neg g4,if_neg g6,if_neg g7]
  rw[fk,AF1];refine J ?_;exact⟨fp,ai.mod⟩
 have dz:o.hW m q own x=o.s5 m (x.n.tdiv 16) (o.insts m).length:=by unfold o.hW;rw[if_neg g2,if_neg g3,if_neg g4,if_neg g6,if_pos g7]
 rw[dz];obtain⟨f6,f7,f8⟩:=o.tI m;obtain⟨gI,tz⟩:=ag.at_ g7;have akI:(x.n.tdiv 16).toNat<m.procs.length:=tz;have akU:=Int.tdiv_nonneg gI (show(0:Int)<=16 by omega);have akM:=aW.procs;have akT : -9223372036854775808<=x.n.tdiv 16/\x.n.tdiv 16<=9223372036854775807:=AK
 have se:∀{W},Mod (fun k=>k=cP) w1 W->Ext w0 W:=fun hm=>hm.ext jQ fun k hk e=>AK
 have gM:=o.Fz aW;have cM:=jQ.obj sg;clear en dU;refine J ?_;refine L_ 55 (o.insts m).length [2,3,4,53,54] (fun _:Unit=>[]) () (fun k _ W=>Mod (fun i=>i=cP) w1 W/\fu W cP (L++o.s5 m (x.n.tdiv 16) k)) bc bc ⟨Mod.refl _ _,by simpa[o.s5] using fp⟩ ?_;have OU:=wv;have lq:=ow;have gF:=bp;clear ow wv bp cM;rintro k _ S aD hk ⟨fN,ep⟩;have ow:=fN.obj va lq;have wv:=fN.obj anx OU;have bp:=fN.obj tP gF;have ao:=(se fN).obj sg;have zK:=Oc.ext Flat.ext (se fN);refine J ?_;apply I_<;>intro g1
 .have cI:k<(o.insts m).length:=AK
  obtain⟨ij,rfl⟩:=Oc.addr;obtain⟨EW,qB⟩:=o.rB cI;have EX:=o.Fx aW cI;obtain⟨a2,rfl⟩:=du.addr;have abx:=du.ext Flat.ext (se fN);refine J ?_;intro wn hp ir fC eU;refine J ?_;intro aN gg ct;have ah:Ext aD aN:=gg.ext fC ir;replace ow:=ah.obj ow;replace wv:=ah.obj wv;replace bp:=ah.obj bp;replace ao:=ah.obj ao;replace abx:=abx.ext Flat.ext ah;have gO:=ep.ext ah;have js:=fN.trans ah.mod;clear ep zK;refine J ?_;refine _J AK ?_;refine J ?_;apply I_<;>intro g2
  .refine J ?_;intro aU ax;refine J ?_;refine J_ (tV cP _ (o.dG m k) 1 _ _ aU (gO.ext ax) (by rw[qB]) rfl AK) ?_;rintro _ bt ⟨rA,lM⟩;refine J ?_;refine⟨cI,aL,(),trivial,(js.trans ax.mod).trans lM,?_⟩;rw[o.DG cI,if_pos g2,<-Vq];exact rA
  .refine J ?_;refine⟨cI,aL,(),trivial,js,?_⟩;rw[o.DG cI,if_neg g2,AF1];exact gO
 .have jL:(o.insts m).length=k:=AK
  rw[jL];refine J ?_;exact⟨ep,ai.mod.trans fN⟩
theorem agl(e:C_ o.Node)(v:B_)(b cP bM kM q p:Nat)(L:C_ Int)(m:o.Model)(w0 w:A_)(h:pA w0 b m q)(he:Ext w0 w)(mC:w0.heap.size<=cP)(ak:fu w cP L)(ki:xx w bM kM b cP)(aW:o.eX m)(aZ:o.fY m q p)
  (az:o.eS w0 v e)(ag:o.ug (o.inner (m.procs[p]'(aZ.au)) (o.eR m)) e) :
  DD F.ei #[v,.func (.func F.cC) #[] #[.pointer (some ⟨bM,0,none⟩),.pointer (some ⟨kM,0,none⟩)]] w fun _ w'=>fu w' cP (L++o.sc m q e e.length)/\Mod (fun k=>k=cP) w w':=by
 obtain⟨aQ,eZ,rfl,aC⟩:=az.form;have se:∀{W},Mod (fun k=>k=cP) w W->Ext w0 W:=fun hm=>hm.ext he fun k hk e=>AK
 have hle:=ag.len;refine br E.ei ?_;refine J ?_;refine L_ 9 e.length [1,7,8] (fun ae:Bool=>[(4,.bool ae)]) false (fun k ae W=>ae=o.CD e k/\Mod (fun i=>i=cP) w W/\fu W cP (L++o.sc m q e k)) bc bc ⟨rfl,Mod.refl _ _,by simpa[o.sc] using ak⟩ ?_;rintro k ae S w1 hk ⟨rfl,o8,fp⟩;have nP:=az.ext (se o8);have Xw:=ki.mod ak o8;refine J ?_;apply I_<;>intro g1
 .have cI:k<e.length:=AK
  obtain⟨a,rfl⟩:=az.addr;have fD:=(az.at k cI).ok;have uX:=ag.node k cI;refine J ?_;intro aD ez gm aj cb;have ep:=fp.ext aj;have fN:=o8.trans aj.mod;have aii:=Xw.ext aj;have n6:¬ez=cP:=fun e=>by subst e;obtain⟨_,_,e0,_⟩:=ep.ex;rw[cb] at e0;cases e0
  clear nP fp Xw;refine J ?_;refine V_ (first:=[]) (cap:=[.pointer (some ⟨bM,0,none⟩),.pointer (some ⟨kM,0,none⟩)]) Ct (ag2 e[k] (o.CD e k) b cP bM kM q p _ m w0 aD h (se fN) mC ep aii aW aZ uX.1 fD ?_) ?_
  .intro fO;cases k with
   | zero=>cases fO
   | succ j =>
    rw[o.aa3 AK] at fO;have a8:=(ag.node j AK).1.self (by simpa using fO);exact aZ.elem (by have:(o.inner (m.procs[p]'(aZ.au)) (o.eR m)).self=(m.procs[p]'(aZ.au)).over:=rfl;omega)
  rintro _ aN ⟨gO,js⟩;have ajc:=js.obj n6 cb;clear cb;refine J ?_;refine⟨cI,aL,_,⟨rfl,trivial⟩,?_,fN.trans js,?_⟩
  .rw[o.aa3 cI]
  .rw[o.WQ cI,<-Vq];exact gO
 .have jL:e.length=k:=AK
  rw[jL];refine J ?_;exact⟨fp,o8⟩
theorem D9(e:C_ o.Node)(v:B_)(b cP q p:Nat)(L:C_ Int)(m:o.Model)(w0 w:A_)(h:pA w0 b m q)(he:Ext w0 w)(mC:w0.heap.size<=cP)(ak:fu w cP L)(aW:o.eX m)(aZ:o.fY m q p)
  (az:o.eS w0 v e)(ag:o.ug (o.inner (m.procs[p]'(aZ.au)) (o.eR m)) e) :
  DD F.d0 #[.pointer (some ⟨b,0,none⟩),.map (some cP),v] w fun _ w'=>fu w' cP (L++o.sc m q e e.length)/\Mod (fun k=>k=cP) w w':=by
 refine br E.d0 ?_;refine J ?_;intro w1 bM ow ai lq;refine J ?_;intro aD kM wv aj OU;refine J ?_;refine J_ (agl e v b cP bM kM q p L m w0 aD h ((he.trans ai).trans aj) mC ((ak.ext ai).ext aj) ⟨aj.obj lq,OU⟩ aW aZ az ag) ?_;rintro _ aN ⟨gO,js⟩;refine J ?_;exact⟨gO,(ai.mod.trans aj.mod).trans js⟩
theorem apl(a:o.Act)(bL b2:B_)(b cP q p:Nat)(L:C_ Int)(m:o.Model)(w0 w:A_)(h:pA w0 b m q)(he:Ext w0 w)(mC:w0.heap.size<=cP)(ak:fu w cP L)(aW:o.eX m)(aZ:o.fY m q p)
  (U:o.eS w0 bL a.index)(aG:o.eS w0 b2 a.value)(aV:o.n0 (o.inner (m.procs[p]'(aZ.au)) (o.eR m)) a) :
  DD F.d1 #[.pointer (some ⟨b,0,none⟩),.map (some cP),.agg (a.enc bL b2).toArray] w fun _ w'=>fu w' cP (L++o.vH m q a)/\Mod (fun k=>k=cP) w w':=by
 obtain⟨b6,bx,bR,c1,bX,c2,bZ,bu,ca,bC,eK,d0,dM,d1,et,d2,eB,d3,eL,d4,cn,ci,sg,en,dU,du,_,_,_,_,Oc⟩:=h.form;have z1:=aV.kind;refine br E.d1 ?_;refine J ?_;intro w1 dR kT ai b9;have fp:=ak.ext ai;have jQ:=he.trans ai;have ao:=jQ.obj sg;obtain⟨es,ce,e0,_⟩:=fp.ex;have n5:¬dR=cP:=fun e=>by subst e;rw[b9] at e0;cases e0
 clear e0;unfold o.Act.enc at b9;refine J ?_;apply I_<;>intro g2
 .refine J ?_;refine J_ (D9 a.index bL b cP q p L m w0 w1 h jQ mC fp aW aZ U (aV.item g2).2.2) ?_;rintro _ aD ⟨ep,fN⟩;have B1:=fN.obj n5 b9;clear b9 ao;refine J ?_;refine J_ (D9 a.value b2 b cP q p _ m w0 aD h (fN.ext jQ fun k hk e=>AK) mC ep aW aZ aG (aV.val AK)) ?_;rintro _ aN ⟨gO,js⟩;refine J ?_;refine⟨?_,(ai.mod.trans fN).trans js⟩;unfold o.vH;rw[if_neg AK,if_pos g2,<-Vq];exact gO
 refine J ?_;apply I_<;>intro g4
 .obtain⟨gI,e1⟩:=aV.chan (.inl g4);have fl:a.to.toNat<m.aw.length:=e1;have EL:=o.xS aW fl;have hq:a.to=(a.to.toNat:Nat):=AK
  obtain⟨kl,e0⟩:=o.s8 fl;obtain⟨db,rfl⟩:=dU.addr;have Ri:=dU.ext Flat.ext jQ;rw[hq] at b9;refine J ?_;intro aD aj;have B1:=aj.obj b9;refine J ?_;refine J_ (tV cP L (o.cm m a.to.toNat) 1 _ _ aD (fp.ext aj) (by rw[e0]) rfl AK) ?_;rintro _ aN ⟨gO,js⟩;have aty:=js.obj n5 B1;clear b9 B1 ao;refine J ?_;refine J_ (D9 a.value b2 b cP q p _ m w0 aN h (js.ext (jQ.trans aj) fun k hk e=>AK) mC gO aW aZ aG (aV.val AK)) ?_;rintro _ aU ⟨ly,jY⟩;refine J ?_;refine⟨?_,((ai.mod.trans aj.mod).trans js).trans jY⟩;unfold o.vH;rw[if_neg AK,if_neg g2,if_pos g4,<-Vq];exact ly
 refine J ?_;apply I_<;>intro g5
 .obtain⟨gI,e1⟩:=aV.chan (.inr g5);have fl:a.to.toNat<m.aw.length:=e1;have hq:a.to=(a.to.toNat:Nat):=AK
  rw[hq] at b9;refine J ?_;refine J_ (R9 b cP q a.to.toNat L m w0 w1 h jQ mC fp aW fl) ?_;rintro _ aD ⟨ep,fN⟩;refine J ?_;refine⟨?_,ai.mod.trans fN⟩;unfold o.vH;rw[if_pos g5];exact ep
 .refine J ?_;refine J_ (D9 a.value b2 b cP q p _ m w0 w1 h jQ mC fp aW aZ aG (aV.val g5)) ?_;rintro _ aD ⟨ep,fN⟩;refine J ?_;refine⟨?_,ai.mod.trans fN⟩;unfold o.vH;rw[if_neg g5,if_neg g2,if_neg g4,AF8];exact ep
theorem ar6(a:o.Act)(bL b2:B_)(b cP q p:Nat)(L:C_ Int)(m:o.Model)(w0 w:A_)(h:pA w0 b m q)(he:Ext w0 w)(mC:w0.heap.size<=cP)(ak:fu w cP L)(aW:o.eX m)(aZ:o.fY m q p)
  (U:o.eS w0 bL a.index)(aV:o.n0 (o.inner (m.procs[p]'(aZ.au)) (o.eR m)) a) :
  DD F.d2 #[.pointer (some ⟨b,0,none⟩),.map (some cP),.agg (a.enc bL b2).toArray] w fun _ w'=>fu w' cP (L++o.oj m q a)/\Mod (fun k=>k=cP) w w':=by
 have z1:=aV.kind;have ar:=aZ.ar;have kA:=aZ.Gt aW;refine br E.d2 ?_;refine J ?_;intro w1 dR kT ai b9;have fp:=ak.ext ai;have jQ:=he.trans ai;obtain⟨es,ce,e0,_⟩:=fp.ex;have n5:¬dR=cP:=fun e=>by subst e;rw[b9] at e0;cases e0
 clear e0;obtain⟨cn,ci,rfl,auP⟩:=U.form;unfold o.Act.enc at b9;refine J ?_;apply I_<;>intro g1
 .obtain⟨gI,v,aG,jb⟩:=aV.set g1;have e1:a.to.toNat<m.vars.length:=(List.getElem?_eq_some_iff.1 aG).1;have hq:a.to=(a.to.toNat:Nat):=AK
  rw[hq] at b9;refine J ?_;refine J_ (GQ b cP q a.to.toNat false false L m w0 w1 h jQ mC fp aW ar e1 (fun a=>by cases a)) ?_;rintro _ aD ⟨ep,fN⟩;refine J ?_;refine⟨?_,ai.mod.trans fN⟩;unfold o.oj;rw[if_pos g1];have e:=o.aaQ (m:=m) (q:=q) (own:=false) (x:=⟨2,a.to⟩) rfl aG jb;unfold o.hW at e;rw[if_pos rfl] at e;rw[Bool.false_and,e] at ep;exact ep
 refine J ?_;apply I_<;>intro g2
 .obtain⟨gI,e1,Pe⟩:=aV.item g2;have fl:a.to.toNat<m.vars.length:=e1;have hq:a.to=(a.to.toNat:Nat):=AK
  rw[hq] at b9;have NF:o.oj m q a=o.rD m q a.to.toNat (o.sE a):=by unfold o.oj;rw[if_neg g1,if_pos g2]
  rw[NF];have Jy:=U.ext jQ;refine J ?_;intro aD aj;replace b9:=aj.obj b9;replace Jy:=Jy.ext aj;refine J ?_;apply I_<;>intro g3
  .obtain⟨ij,rfl⟩:=U.addr;have uX:=(Pe.node 0 AK).1;have Ai:=o.aqs (a:=a) AK;refine J ?_;refine K_ 0 rfl AK ?_;refine J ?_;refine J_ (GQ b cP q a.to.toNat true (decide ((a.index[0]' AK).op=5)) L m w0 aD h (jQ.trans aj) mC (fp.ext aj) aW ar fl (fun _ a8=>?_)) ?_
   .have a8:=uX.self (by simpa using a8);exact aZ.elem (by have:(o.inner (m.procs[p]'(aZ.au)) (o.eR m)).self=(m.procs[p]'(aZ.au)).over:=rfl;omega)
   rintro _ aN ⟨gO,js⟩;rw[AJ3,<-Ai] at gO;refine J ?_;exact⟨gO,(ai.mod.trans aj.mod).trans js⟩
  .have Ai:=o.aqr (a:=a) AK;refine J ?_;refine J_ (GQ b cP q a.to.toNat true false L m w0 aD h (jQ.trans aj) mC (fp.ext aj) aW ar fl (fun _ a8=>by cases a8)) ?_;rintro _ aN ⟨gO,js⟩;rw[Bool.and_false,<-Ai] at gO;refine J ?_;exact⟨gO,(ai.mod.trans aj.mod).trans js⟩
 refine J ?_;apply I_<;>intro g3
 .obtain⟨gI,e1⟩:=aV.loc g3;have fl:a.to.toNat<(m.procs[p]'(aZ.au)).vars.length:=e1;have NF:o.oj m q a=o.gQ (o.dG m q+1+a.to.toNat) 1:=by unfold o.oj;rw[if_neg g1,if_neg g2,if_pos g3]
  rw[NF];refine J ?_;intro aD aj;refine J ?_;refine J_ (ET b q m aD (h.ext (jQ.trans aj)) ar) ?_;rintro _ aN ⟨rfl,ah⟩;refine⟨ah,?_⟩;refine J ?_;refine J_ (tV cP L (o.dG m q+1+a.to.toNat) 1 _ _ aN ((fp.ext aj).ext ah) AK rfl AK) ?_;rintro _ aU ⟨ly,jY⟩;refine J ?_;exact⟨ly,((ai.mod.trans aj.mod).trans ah.mod).trans jY⟩
 refine J ?_;apply I_<;>intro g4
 .obtain⟨gI,e1⟩:=aV.chan (.inl g4);have fl:a.to.toNat<m.aw.length:=e1;have hq:a.to=(a.to.toNat:Nat):=AK
  rw[hq] at b9;refine J ?_;refine J_ (R9 b cP q a.to.toNat L m w0 w1 h jQ mC fp aW fl) ?_;rintro _ aD ⟨ep,fN⟩;refine J ?_;refine⟨?_,ai.mod.trans fN⟩;unfold o.oj;rw[if_neg g1,if_neg g2,if_neg g3,if_pos g4];exact ep
 have g5:a.kind=5:=AK
 .obtain⟨gI,e1⟩:=aV.chan (.inr g5);obtain⟨cE,iK⟩:=aV.recv g5;have rq:a.loc.toNat<(m.procs[p]'(aZ.au)).vars.length:=iK;have fl:a.to.toNat<m.aw.length:=e1;have hq:a.to=(a.to.toNat:Nat):=AK
  rw[hq] at b9;refine J ?_;refine J_ (R9 b cP q a.to.toNat L m w0 w1 h jQ mC fp aW fl) ?_;rintro _ aD ⟨ep,fN⟩;have atx:=fN.obj n5 b9;have da:=fN.ext jQ fun k hk e=>AK
  clear b9;refine J ?_;intro aN ah;refine J ?_;refine J_ (ET b q m aN (h.ext (da.trans ah)) ar) ?_;rintro _ aU ⟨rfl,ax⟩;refine⟨ax,?_⟩;refine J ?_;refine J_ (tV cP _ (o.dG m q+1+a.loc.toNat) 1 _ _ aU ((ep.ext ah).ext ax) AK rfl AK) ?_;rintro _ bt ⟨rA,lM⟩;refine J ?_;refine⟨?_,(((ai.mod.trans fN).trans ah.mod).trans ax.mod).trans lM⟩;unfold o.oj;rw[if_neg g1,if_neg g2,if_neg g3,if_neg g4,if_pos g5,<-Vq];exact rA
end Go.Proofs.R
end
section
namespace o
open Go
structure fr(m:Model)(ref:Int)(q p k:Nat):Prop where
 ok:(check m).cN=0
 aR:0<=ref
 U:ref.toNat<(refs m).length
 at_:UF m ((refs m)[ref.toNat]) q p k
def Told(m:Model)(ref:Int):Prop:=(check m).cN=0/\0<=ref/\ref<(refs m).length
theorem pM{m:Model}{ref:Int}(h:Told m ref):∃q p k,fr m ref q p k:=by
 obtain⟨h1,I,ab⟩:=h;obtain⟨q,p,k,aH⟩:=apI (GR (show ref.toNat<(refs m).length by omega));exact⟨q,p,k,h1,I,AK,aH⟩
theorem fr.told{m:Model}{ref:Int}{q p k:Nat}(h:fr m ref q p k):Told m ref:=⟨h.ok,h.aR,by have:=h.U;have:=h.aR;omega⟩
theorem fr.inst{m:Model}{ref:Int}{q p k:Nat}(h:fr m ref q p k):fY m q p:=by
 obtain⟨gB,au⟩:=Fy h.at_.U;have e:gB=p:=by
  have h1:=au.eq;rw[h.at_.ip] at h1;omega
 subst e;exact au
theorem fr.one{m:Model}{ref:Int}{q p k e3 gB k':Nat}(h:fr m ref q p k)(bo:fr m ref e3 gB k'):q=e3/\p=gB/\k=k':=by
 have bB:q=e3:=by have a:=h.at_.pk;have b:=bo.at_.pk;omega
 subst bB;have a:=h.at_.ip;have b:=bo.at_.ip;have c:=h.at_.sC;have d:=bo.at_.sC;exact⟨rfl,AK,AK⟩
def bT(m:Model)(p k:Nat):ea:=((m.procs[p]?.map (·.cQ[k]?)).join).getD ⟨⟨#[]⟩,0,0,[],[],false⟩
theorem xX{m:Model}{p k:Nat}(au:p<m.procs.length)(hk:k<m.procs[p].cQ.length):bT m p k=m.procs[p].cQ[k]:=by
 unfold bT;rw[List.getElem?_eq_getElem au];simp[hk]
theorem fr.cin{m:Model}{ref:Int}{q p k:Nat}(h:fr m ref q p k):xz (inner (m.procs[p]'(h.at_.au)) (eR m)) (bT m p k):=by
 rw[xX h.at_.au h.at_.hk];exact afL h.ok h.at_.au h.at_.hk
structure lD(m:Model)(ref:Int)(a b:List Int):Prop where
 there:∀q p k,fr m ref q p k->sR (rL m q (bT m p k) (bT m p k).bQ.length) a/\sR (oP m q (bT m p k) (bT m p k).bQ.length) b
 none:¬Told m ref->a=[]/\b=[]
theorem lD.eq{m:Model}{ref:Int}{a b cF gS:C_ Int}(h:lD m ref a b)(bo:lD m ref cF gS):a=cF/\b=gS:=by
 by_cases aB:Told m ref
 .obtain⟨q,p,k,an⟩:=pM aB;obtain⟨h1,I⟩:=h.there q p k an;obtain⟨ab,aH⟩:=bo.there q p k an;exact⟨h1.eq ab fun _=>Iff.rfl,I.eq aH fun _=>Iff.rfl⟩
 .obtain⟨rfl,rfl⟩:=h.none aB;obtain⟨rfl,rfl⟩:=bo.none aB;exact⟨rfl,rfl⟩
theorem lD.of{m:Model}{ref:Int}{q p k:Nat}{a b:C_ Int}(an:fr m ref q p k)(h1:sR (rL m q (bT m p k) (bT m p k).bQ.length) a)(I:sR (oP m q (bT m p k) (bT m p k).bQ.length) b):lD m ref a b :=
 ⟨fun e3 gB k' h=>by obtain⟨rfl,rfl,rfl⟩:=an.one h;exact⟨h1,I⟩,fun az=>absurd an.told az⟩
theorem lD.nil{m:Model}{ref:Int}(h:¬Told m ref):lD m ref [] []:=⟨fun _ _ _ an=>absurd an.told h,fun _=>⟨rfl,rfl⟩⟩
structure asj(m:Model)(ref:Int)(a:List Int):Prop where
 there:∀q p k,fr m ref q p k->sR (IS m q (bT m p k)) a
 none:¬Told m ref->a=[]
theorem eX.lim{m:Model}(h:eX m):vB m:=⟨by have:=h.procs;omega,fun p au=>by have:=(h.proc p au).gM;omega⟩
end o
namespace ba
open Go
def V0:C_ B_:=[.string ⟨#[]⟩,.int .i64 0,.int .i64 0,.slice none 0 0,.slice none 0 0,.bool false]
end ba
end
section
namespace Go.Proofs.R
open Go Go.RowKit ba
def adN(m:o.Model)(ref:Int)(v:B_)(w:A_):Prop :=
 (¬o.Told m ref/\v = .tuple #[.pointer none,.agg V0.toArray,.bool false]) \/
 (∃(b q p k:Nat) (fq dH:B_),o.fr m ref q p k/\v = .tuple #[.pointer (some ⟨b,0,none⟩),.agg ((o.bT m p k).enc fq dH).toArray,.bool true]/\pA w b m q/\o.eS w fq (o.bT m p k).guard/\o.lX w dH (o.bT m p k).bQ)
theorem anO(cs:C_ B_)(m:o.Model)(ref:Int)(w:A_)(h:o.eh w cs m)(aK:m.cK)(aO:gK w) :
  DD F.Ic #[.agg cs.toArray,.I ref] w fun v w'=>adN m ref v w'/\Ext w w':=by
 have dc:=h;obtain⟨b6,bx,bR,c1,bX,c2,bZ,bu,ca,bC,rfl,af,h1,I,ab,aH,e2,eE,eJ,er,eH⟩:=h.form;refine br E.Ic ?_;refine J ?_;intro w1 bS dm ai av;refine J ?_;intro aD dR kT aj b9;have zR:=aj.obj av;have aJ:=ai.trans aj;refine J ?_;refine J_ (yC _ m aD (dc.ext aJ) aK (aO.ext aJ)) ?_;rintro _ aN ⟨rfl,ah⟩;have a7:=aJ.trans ah;replace av:=ah.obj zR;replace b9:=ah.obj b9;have z5:=cA b9;have avZ:=ai.size;clear zR;refine J ?_;refine _K (v:=.I (o.check m).cN) rfl ?_;refine J ?_;refine I_ (fun hk=>?_) (fun hk=>?_);rotate_left
 .refine J ?_;intro aU dE bp;refine J ?_;exact⟨.inl ⟨fun aB=>hk aB.1,aL⟩,dE.ext a7 AK⟩
 have aW:=o.j3 hk;have cY:=aW.lim;have ix:=o.ve cY;refine J ?_;refine J_ (yN _ m aN (dc.ext a7) cY) ?_;rintro hy aU ⟨jt,ax⟩;obtain⟨fA,ql,rfl,_⟩:=jt.form;have wm:bn 2 (Flat o.Ref.enc) aU (.slice fA (o.refs m).length ql) (o.refs m):=aS.hE (enc:=o.Ref.enc) (fun _=>rfl) jt;replace av:=ax.obj av;replace b9:=ax.obj b9;have bD:=a7.trans ax;clear jt;refine J ?_;apply I_<;>intro g1
 .refine J ?_;intro bt fg B1;refine J ?_;exact⟨.inl ⟨fun aB=>by have:=aB.2;omega,aL⟩,fg.ext bD AK⟩
 obtain⟨r,rfl⟩:=QA (show 0<=ref by omega);refine J ?_;apply I_<;>intro g2
 .refine J ?_;intro bt fg B1;refine J ?_;exact⟨.inl ⟨fun aB=>by have:=aB.2;omega,aL⟩,fg.ext bD AK⟩
 have aB:o.Told m r:=⟨hk,AK,AK⟩;obtain⟨q,p,k,bF⟩:=o.pM aB;have ar:=bF.at_.U;have au:=bF.at_.au;have nd:=bF.at_.hk;have gu:(o.refs m)[r].inst=(q:Int):=bF.at_.pk;have pd:(o.refs m)[r].cmd=(k:Int):=bF.at_.sC;have oB:=bF.at_.ip;obtain⟨jG,rfl⟩:=wm.addr;refine J ?_;intro bt aI;replace av:=aI.obj av;replace b9:=aI.obj b9;have Es:=wm.ext Flat.ext aI;have bJ:=bD.trans aI;refine J ?_;refine J_ (FI _ m bt (dc.ext bJ) aK (aO.ext bJ)) ?_;rintro _ bz ⟨⟨xs,rfl,zL⟩,aM⟩;rw[o.FJ hk] at zL;have I0:=zL;replace zL:=zL.here;obtain⟨mj,d0,ka,d1,k3,d2,pq,d3,oQ,d4,rfl,_⟩:=zL.form;have cv:=bJ.trans aM;refine⟨aM,?_⟩;refine J ?_;refine J_ (wU _ m bz (dc.ext cv) aK) ?_;rintro bL bK ⟨eV,bq⟩;obtain⟨cn,ci,rfl,_⟩:=eV.form;have dz:=cv.trans bq;refine⟨aM.trans bq,?_⟩;refine J ?_;intro c4 iI ov bG cG;have fk:=dz.trans bG;have Ce:ku c4 (.slice cn (o.insts m).length ci) (o.insts m):=aS.hE (enc:=o.cX.enc) (fun _=>rfl) (eV.ext bG);have XH:=zL.ext (bq.trans bG);rw[gu] at cG;have Ot:pA c4 iI m q:=⟨_,_,_,cG,dc.ext fk,XH,Ce⟩;have N6:=(aM.trans bq).trans bG;have XM:=Es.ext Flat.ext N6;replace av:=N6.obj av;replace b9:=N6.obj b9;have Sn:=fk.size;obtain⟨ij,rfl⟩:=Ce.addr;obtain⟨a3,rfl⟩:=ab.addr;obtain⟨mc,b2,dV,dP,e7,fy⟩:=ab.at p au;obtain⟨CB,BA,rfl,Cs⟩:=fy.form;obtain⟨ac,rfl⟩:=fy.addr;obtain⟨eU,fq,dH,gF,h6,gG⟩:=fy.at k nd;replace dP:=dP.ext fk;replace gF:=gF.ext fk;obtain⟨gw,fS,rfl,_⟩:=h6.form;obtain⟨sy,r6,rfl,_⟩:=gG.form;unfold o.dJ.enc at dP;unfold o.ea.enc at gF;clear zL wm Es XH;refine J ?_;intro c6 b5;replace av:=b5.obj av;replace b9:=b5.obj b9;replace cG:=b5.obj cG;replace XM:=XM.ext Flat.ext b5;replace Ce:=Ce.ext Flat.ext b5;replace dP:=dP.ext b5;replace gF:=gF.ext b5;refine J ?_;refine K_ p (by rw[oB]) au ?_;refine J ?_;refine K_ k (by rw[pd]) nd ?_;refine J ?_;intro eO pe kk;refine J ?_;have ll:Ext w c6:=fk.trans b5;have p5:=ax.size;have pn:=aI.size;have ap8:=aM.size;have avf:=bq.size;have lk:Ext w eO:=pe.ext ll AK;have ais:=((I0.ext ((bq.trans bG).trans b5) ap8).wr pe AK).here;have ajY:ku eO (.slice (some ij) (o.insts m).length ci) (o.insts m):=aS.hE (enc:=o.cX.enc) (fun _=>rfl) (aS.wr pe AK ((eV.ext bG).ext b5));have km:=o.xX au nd;refine⟨.inr ⟨iI,q,p,k,.slice gw (o.bT m p k).guard.length fS,.slice sy (o.bT m p k).bQ.length r6,bF,by rw[km];rfl,⟨_,_,_,pe.obj cG AK,dc.ext lk,ais,ajY⟩,?_,?_⟩,lk⟩
 .rw[km];exact h6.ext lk
 .rw[km];exact gG.ext lk
end Go.Proofs.R
end
section
namespace Go.Proofs
open Go.Shelf
def Tryz.Z9:Go.Shelf.Ren:=⟨fun | 7=>192 | 10=>243 | n=>n,fun | 23=>190 | 26=>3 | 3=>3 | 28=>117 | 0=>0 | 27=>116 | 33=>129 | 4=>4 | n=>n,fun | n=>n⟩
theorem Tryz.Qt:Go.Proofs.SlLaysZI.n7 Tryz.prog Tryz.Z9:={
 mixed:=Ct
 f7:=⟨Tryz.f192.name,BN,Tryz.func192.trans (congrArg some Ct)⟩
 f10:=⟨Tryz.f243.name,BN,Tryz.func243.trans (congrArg some Ct)⟩
 t0:=Tryz.underlying0
 a0:=Tryz.isAgg0
 z0:=Tryz.sizeOf0
 v0:=Tryz.zeroValue0
 t4:=Tryz.underlying4
 a4:=Tryz.isAgg4
 z4:=Tryz.sizeOf4
 v4:=Tryz.zeroValue4
 t23:=Tryz.underlying190
 a23:=Tryz.isAgg190
 z23:=Tryz.sizeOf190
 v23:=Tryz.zeroValue190
 t26:=Tryz.underlying3
 a26:=Tryz.isAgg3
 z26:=Tryz.sizeOf3
 v26:=Tryz.zeroValue3
 t27:=Tryz.underlying116
 a27:=Tryz.isAgg116
 z27:=Tryz.sizeOf116
 v27:=Tryz.zeroValue116
 t28:=Tryz.underlying117
 a28:=Tryz.isAgg117
 z28:=Tryz.sizeOf117
 v28:=Tryz.zeroValue117
 t33:=Tryz.underlying129
 a33:=Tryz.isAgg129
 z33:=Tryz.sizeOf129
 v33:=Tryz.zeroValue129 }
def Tryz.acz:Go.Shelf.Ren:=⟨fun | 6=>191 | 8=>241 | 9=>242 | 11=>276 | 13=>245 | 12=>277 | 23=>286 | 24=>287 | 14=>297 | 15=>298 | 16=>299 | 17=>300 | 18=>301 | 19=>302 | 20=>303 | 21=>304 | 22=>305 | 25=>312 | 26=>307 | 27=>308 | 28=>313 | 29=>314 | 30=>315 | 31=>317 | n=>n,fun | 26=>3 | 28=>117 | 24=>29 | 0=>0 | 3=>3 | 37=>169 | 48=>337 | 50=>52 | 4=>4 | 40=>331 | 39=>330 | 45=>249 | 5=>5 | 9=>9 | 51=>346 | 55=>350 | 57=>355 | 58=>89 | 33=>129 | n=>n,fun | n=>n⟩
theorem Tryz.aqL:Go.Proofs.SlLaysZI.n6 Tryz.prog Tryz.acz:={
 mixed:=Ct
 f6:=⟨Tryz.f191.name,BN,Tryz.func191.trans (congrArg some Ct)⟩
 f8:=⟨Tryz.f241.name,BN,Tryz.func241.trans (congrArg some Ct)⟩
 f11:=⟨Tryz.f276.name,BN,Tryz.func276.trans (congrArg some Ct)⟩
 t0:=Tryz.underlying0
 a0:=Tryz.isAgg0
 z0:=Tryz.sizeOf0
 v0:=Tryz.zeroValue0
 t24:=Tryz.underlying29
 a24:=Tryz.isAgg29
 z24:=Tryz.sizeOf29
 v24:=Tryz.zeroValue29
 t26:=Tryz.underlying3
 a26:=Tryz.isAgg3
 z26:=Tryz.sizeOf3
 v26:=Tryz.zeroValue3
 t28:=Tryz.underlying117
 a28:=Tryz.isAgg117
 z28:=Tryz.sizeOf117
 v28:=Tryz.zeroValue117
 i26:=by kernel_rfl }
def Tryz.aqF:Go.Shelf.Ren:=⟨fun | 5=>242 | 8=>245 | 7=>277 | 19=>286 | 20=>287 | 10=>297 | 11=>298 | 12=>299 | 13=>300 | 14=>301 | 15=>302 | 16=>303 | 17=>304 | 18=>305 | 30=>312 | 31=>307 | 32=>308 | 33=>313 | 34=>314 | 35=>315 | 40=>317 | n=>n,fun | 23=>29 | 25=>3 | 3=>3 | 32=>169 | 22=>29 | 0=>0 | 44=>337 | 46=>52 | 4=>4 | 36=>331 | 35=>330 | 41=>249 | 5=>5 | 9=>9 | 53=>346 | 57=>350 | 63=>355 | 64=>89 | n=>n,fun | n=>n⟩
theorem Tryz.RM:Go.Proofs.SlLaysM.n5 Tryz.prog Tryz.aqF:={
 mixed:=Ct
 f5:=⟨Tryz.f242.name,BN,Tryz.func242.trans (congrArg some Ct)⟩
 f7:=⟨Tryz.f277.name,BN,Tryz.func277.trans (congrArg some Ct)⟩
 f8:=Tryz.func245.trans (congrArg some Ct)
 f10:=⟨Tryz.f297.name,BN,Tryz.func297.trans (congrArg some Ct)⟩
 f11:=⟨Tryz.f298.name,BN,Tryz.func298.trans (congrArg some Ct)⟩
 f12:=⟨Tryz.f299.name,BN,Tryz.func299.trans (congrArg some Ct)⟩
 f13:=⟨Tryz.f300.name,BN,Tryz.func300.trans (congrArg some Ct)⟩
 f14:=⟨Tryz.f301.name,BN,Tryz.func301.trans (congrArg some Ct)⟩
 f15:=⟨Tryz.f302.name,BN,Tryz.func302.trans (congrArg some Ct)⟩
 f16:=⟨Tryz.f303.name,BN,Tryz.func303.trans (congrArg some Ct)⟩
 f17:=⟨Tryz.f304.name,BN,Tryz.func304.trans (congrArg some Ct)⟩
 f18:=⟨Tryz.f305.name,BN,Tryz.func305.trans (congrArg some Ct)⟩
 f19:=Tryz.func286.trans (congrArg some Ct)
 f20:=Tryz.func287.trans (congrArg some Ct)
 f30:=⟨Tryz.f312.name,BN,Tryz.func312.trans (congrArg some Ct)⟩
 f31:=Tryz.func307.trans (congrArg some Ct)
 f32:=Tryz.func308.trans (congrArg some Ct)
 f33:=⟨Tryz.f313.name,BN,Tryz.func313.trans (congrArg some Ct)⟩
 f34:=⟨Tryz.f314.name,BN,Tryz.func314.trans (congrArg some Ct)⟩
 f35:=⟨Tryz.f315.name,BN,Tryz.func315.trans (congrArg some Ct)⟩
 f40:=⟨Tryz.f317.name,BN,Tryz.func317.trans (congrArg some Ct)⟩
 t0:=Tryz.underlying0
 a0:=Tryz.isAgg0
 z0:=Tryz.sizeOf0
 v0:=Tryz.zeroValue0
 t3:=Tryz.underlying3
 a3:=Tryz.isAgg3
 z3:=Tryz.sizeOf3
 v3:=Tryz.zeroValue3
 t4:=Tryz.underlying4
 a4:=Tryz.isAgg4
 z4:=Tryz.sizeOf4
 v4:=Tryz.zeroValue4
 t5:=Tryz.underlying5
 a5:=Tryz.isAgg5
 z5:=Tryz.sizeOf5
 v5:=Tryz.zeroValue5
 t9:=Tryz.underlying9
 a9:=Tryz.isAgg9
 z9:=Tryz.sizeOf9
 v9:=Tryz.zeroValue9
 t22:=Tryz.underlying29
 a22:=Tryz.isAgg29
 z22:=Tryz.sizeOf29
 v22:=Tryz.zeroValue29
 t23:=Tryz.underlying29
 a23:=Tryz.isAgg29
 z23:=Tryz.sizeOf29
 v23:=Tryz.zeroValue29
 t25:=Tryz.underlying3
 a25:=Tryz.isAgg3
 z25:=Tryz.sizeOf3
 v25:=Tryz.zeroValue3
 t32:=Tryz.underlying169
 a32:=Tryz.isAgg169
 z32:=Tryz.sizeOf169
 v32:=Tryz.zeroValue169
 t35:=Tryz.underlying330
 a35:=Tryz.isAgg330
 z35:=Tryz.sizeOf330
 v35:=Tryz.zeroValue330
 t36:=Tryz.underlying331
 a36:=Tryz.isAgg331
 z36:=Tryz.sizeOf331
 v36:=Tryz.zeroValue331
 t41:=Tryz.underlying249
 a41:=Tryz.isAgg249
 z41:=Tryz.sizeOf249
 v41:=Tryz.zeroValue249
 t44:=Tryz.underlying337
 a44:=Tryz.isAgg337
 z44:=Tryz.sizeOf337
 v44:=Tryz.zeroValue337
 t46:=Tryz.underlying52
 a46:=Tryz.isAgg52
 z46:=Tryz.sizeOf52
 v46:=Tryz.zeroValue52
 t53:=Tryz.underlying346
 a53:=Tryz.isAgg346
 z53:=Tryz.sizeOf346
 v53:=Tryz.zeroValue346
 t57:=Tryz.underlying350
 a57:=Tryz.isAgg350
 z57:=Tryz.sizeOf350
 v57:=Tryz.zeroValue350
 t63:=Tryz.underlying355
 a63:=Tryz.isAgg355
 z63:=Tryz.sizeOf355
 v63:=Tryz.zeroValue355
 t64:=Tryz.underlying89
 a64:=Tryz.isAgg89
 z64:=Tryz.sizeOf89
 v64:=Tryz.zeroValue89 }
end Go.Proofs
end
section
namespace Go.Proofs
open Go Go.RowKit Go.Maps Go.Sort Go.Shelf
theorem Tryz.aqN(m:Nat):AnyZI.SortsIn Tryz.prog Tryz.acz Fence.wide m :=
 ⟨fun cx off cap b7 W hH hblk dr=>callsIn_wide.2 (AnyM.slices_Sort_int Tryz.RM cx off cap b7 W hH hblk dr),fun p cap W=>callsIn_wide.2 (AnyM.slices_Sort_int_none Tryz.RM p cap W)⟩
end Go.Proofs
namespace Go.Proofs.R
open Go Go.RowKit Go.Maps Go.Sort Go.Shelf ba
theorem al3(F8:H_ Nat)(w:A_):DD F.Xn #[.map F8] w fun v w'=>v = .func (.func F.Ef) #[] #[.pointer (some ⟨w.heap.size,0,none⟩)]/\w'=w.alloc (.cells #[.map F8] T.s):=by
 have h:CallsIn Fence.wide 5 Tryz.prog F.Xn #[.map F8] w fun e w'=>e = .returned (.func (.func F.Ef) #[] #[.pointer (some ⟨w.heap.size,0,none⟩)])/\w'=w.alloc (.cells #[.map F8] T.s):=AnyZI.keys_in Tryz.Qt Fence.wide 5 trivial rfl F8 w;exact Calls.mono (callsIn_wide.1 h) fun e w' ⟨h1,I⟩=>⟨_,h1,rfl,I⟩
theorem aaE:∀l:C_ Int,l.map encZ=l.flatMap cL
 | []=>rfl
 | x :: l=>by rw[AG1,AI0,aaE l];rfl
theorem aqM(b:Nat)(L:C_ Int)(w:A_)(h:fu w b L)(cY:L.length<=1000000) :
  DD F.Xm #[.func (.func F.Ef) #[] #[.pointer (some ⟨w.heap.size,0,none⟩)]] (w.alloc (.cells #[.map (some b)] T.s)) fun v w'=>(∃r,aS cL T.a 1 (w.alloc (.cells #[.map (some b)] T.s)).heap.size w' v r/\o.sR L r)/\Ext (w.alloc (.cells #[.map (some b)] T.s)) w':=by
 obtain⟨uf,fO,dr,PO⟩:=h.own (P:=Tryz.prog) (k:=T.a) Ct (by unfold maxLen;omega);have Je:=fO.lt;have tD:SeqGives Fence.wide 2 Tryz.prog F.Ef #[.pointer (some ⟨w.heap.size,0,none⟩)] encZ (fun b7=>b7.Perm (intKeys uf)) (Maps.size uf) (w.alloc (.cells #[.map (some b)] T.s)) :=
  AnyZI.keys_gives (ρ:=Tryz.Z9) { Tryz.Qt with } Fence.wide _ trivial rfl AK w.heap.size b _ uf _ Bs Bs (by
   obtain⟨es,clock,ao,adE,ak,im⟩:=fO;exact⟨es,clock,(Below.heap_alloc _ _ b Je).trans ao,adE,ak,im⟩)
 have VO:=AnyZI.sorted_in Tryz.aqL Fence.wide 5 trivial trivial trivial trivial rfl AK (Tryz.aqN _) (Tryz.RM.f5.enters rfl) F.Ef #[.pointer (some ⟨w.heap.size,0,none⟩)] trivial (Tryz.Qt.f10.enters rfl) _ _ (by unfold maxLen;omega) AK _ tD;change CallsIn _ _ Tryz.prog F.Xm _ _ _ at VO;refine Calls.mono (callsIn_wide.1 VO) ?_;rintro e w' ⟨v,b7,rfl,cc,ma,_,ao⟩;obtain⟨h1,I⟩:=PO b7 cc;refine⟨v,rfl,⟨b7.mergeSort fun x y=>decide (x<=y),?_,aqK h1,fun x=>?_⟩,ao⟩
 .unfold aS;rw[<-aaE,List.length_mergeSort];exact ma
 .rw[(List.mergeSort_perm b7 _).mem_iff];exact I x
theorem abS(b:Nat)(L:C_ Int)(w:A_)(h:fu w b L)(cY:L.length<=1000000) :
  DD F.d3 #[.map (some b)] w fun v w'=>(∃r,aS cL T.a 1 w.heap.size w' v r/\o.sR L r)/\Ext w w':=by
 have he:Ext w (w.alloc (.cells #[.map (some b)] T.s)):=(Ext.refl w).alloc _;have hk:=al3 (some b) w;have ak:=aqM b L w h cY;generalize w.alloc (.cells #[.map (some b)] T.s)=w1 at he hk ak;refine br E.d3 ?_;refine J ?_;refine J_ hk ?_;rintro _ _ ⟨rfl,rfl⟩;refine J ?_;refine J_ ak ?_;rintro v aD ⟨⟨r,aO,aP⟩,aj⟩;refine J ?_;exact⟨⟨r,aS.low he.size aO,aP⟩,he.trans aj⟩
end Go.Proofs.R
end
section
namespace Go.Proofs.R
open Go Go.RowKit ba
theorem Ua(cs:C_ B_)(m:o.Model)(ref:Int)(w:A_)(h:o.eh w cs m)(aK:m.cK)(aO:gK w) :
  DD F.be #[.agg cs.toArray,.I ref] w fun v w'=>(∃dH lV a b,v = .tuple #[dH,lV]/\aS cL T.a 1 w.heap.size w' dH a/\aS cL T.a 1 w.heap.size w' lV b/\o.lD m ref a b)/\Ext w w':=by
 have dc:=h;obtain⟨b6,bx,bR,c1,bX,c2,bZ,bu,ca,bC,rfl,_⟩:=h.form;refine br E.be ?_;refine J ?_;intro w1 bS dm ai av;refine J ?_;refine J_ (anO _ m ref w1 (dc.ext ai) aK (aO.ext ai)) ?_;rintro _ aD ⟨hO,aj⟩;replace av:=aj.obj av;have aJ:=ai.trans aj;rcases hO with ⟨Fc,rfl⟩ | ⟨b,q,p,k,fq,dH,bF,rfl,nb,h6,gG⟩
 .unfold V0;refine J ?_;intro wn ez gm fC eU;refine J ?_;intro aN gg cb;refine J ?_;exact⟨⟨_,_,[],[],rfl,aS.nil _ _ _ _ _,aS.nil _ _ _ _ _,o.lD.nil Fc⟩,aJ.trans (gg.ext fC gm)⟩
 obtain⟨gw,fS,rfl,_⟩:=h6.form;obtain⟨sy,r6,rfl,_⟩:=gG.form;have aW:=o.j3 bF.ok;have aZ:=bF.inst;have o6:=bF.cin;have sj:=o6.gM;obtain⟨c,yh⟩:∃c,c=o.bT m p k:=⟨_,rfl⟩;rw[<-yh] at o6 sj h6 gG ⊢;unfold o.ea.enc;refine J ?_;intro wn hp ir fC eU;refine J ?_;intro aN gg ct;have ah:Ext aD aN:=gg.ext fC ir;clear fC eU gg;have a7:=aJ.trans ah;have Ew:=nb.ext ah;have akv:=h6.ext ah;have Pt:=gG.ext ah;have EX:=o.Fx aW aZ.ar;clear av nb h6 gG;refine J ?_;refine _g fun aU vP Oy ax EL=>?_;refine J ?_;refine _g fun bt c9 att aI uN=>?_;have tB:=(fu.empty EL).ext aI;have fg:=fu.empty uN;have cz:vP≠c9:=by have:=cA EL;omega
 have iP:=ax.trans aI;have Jg:=iP.obj ct;have aiW:aN.heap.size<=c9:=by have:=ax.size;omega
 clear EL uN;refine J ?_;refine J_ (ET b q m bt (Ew.ext iP) aZ.ar) ?_;rintro _ bz ⟨rfl,aM⟩;refine J ?_;refine J_ (tV vP [] (o.dG m q) 1 _ _ bz (tB.ext aM) rfl rfl AK) ?_;rintro _ bK ⟨Zh,iv⟩;have dL:=(fg.ext aM).mod iv (Ne.symm cz);have gR:=iv.ext (iP.trans aM) fun k hk e=>AK
 refine J ?_;refine J_ (ET b q m bK (Ew.ext gR) aZ.ar) ?_;rintro _ c4 ⟨rfl,bG⟩;refine J ?_;refine J_ (tV c9 [] (o.dG m q) 1 _ _ c4 (dL.ext bG) rfl rfl AK) ?_;rintro _ c6 ⟨hQ,ng⟩;have Zj:=(Zh.ext bG).mod ng cz;have gk:=ng.ext (gR.trans bG) fun k hk e=>AK
 have aje:=gk.obj ct;refine J ?_;refine J_ (D9 c.guard _ b vP q p _ m aN c6 Ew gk Oy Zj aW aZ akv o6.guard) ?_;rintro _ eO ⟨PD,sl⟩;have pe:=hQ.mod sl (Ne.symm cz);have xB:=sl.ext gk fun k hk e=>AK
 have ajd:=xB.obj ct;rw[AF8] at pe PD;have Xp:fu eO vP (o.rL m q c 0):=by
  unfold o.rL o.IS;rw[AK7,List.flatMap_nil,AF1];exact PD
 have Xq:fu eO c9 (o.oP m q c 0):=by
  unfold o.oP;rw[AK7,List.flatMap_nil,AF1];exact pe
 clear tB fg Zh dL Zj hQ PD pe Jg aje iv ng sl aM bG iP gR gk;refine J ?_;refine L_ 40 c.bQ.length [6,7,9,10,38,39] (fun _:Unit=>[]) () (fun n _ W=>Ext aN W/\fu W vP (o.rL m q c n)/\fu W c9 (o.oP m q c n)) bc bc ⟨xB,Xp,Xq⟩ ?_;clear ajd Xp Xq xB;rintro n _ S gy az ⟨sJ,PE,iz⟩;have akq:=Pt.ext sJ;refine J ?_;apply I_<;>intro g1
 .have j0:n<c.bQ.length:=AK
  obtain⟨oi,rfl⟩:=Pt.addr;obtain⟨bL,b2,rh,pa,pV⟩:=Pt.at n j0;have Ez:=o6.act n j0;obtain⟨cn,ci,rfl,_⟩:=pa.form;obtain⟨eF,fB,rfl,_⟩:=pV.form;replace rh:=rh.ext sJ;clear akq;refine J ?_;intro ji Bt tq fb iX;have qc:=sJ.trans fb;have Ag:=PE.ext fb;have lP:=iz.ext fb;have kX:¬Bt=vP:=fun e=>by subst e;obtain⟨_,_,h,_⟩:=Ag.ex;rw[iX] at h;cases h
  have j5:¬Bt=c9:=fun e=>by subst e;obtain⟨_,_,h,_⟩:=lP.ex;rw[iX] at h;cases h
  clear rh PE iz;refine J ?_;refine J_ (apl c.bQ[n] _ _ b vP q p _ m aN ji Ew qc Oy Ag aW aZ pa pV Ez) ?_;rintro _ mR ⟨akX,tw⟩;have kq:=lP.mod tw (Ne.symm cz);have xC:=tw.ext qc fun k hk e=>AK
  replace iX:=tw.obj kX iX;clear Ag lP;refine J ?_;refine J_ (ar6 c.bQ[n] _ _ b c9 q p _ m aN mR Ew xC aiW kq aW aZ pa Ez) ?_;rintro _ vn ⟨yu,JD⟩;have JL:=akX.mod JD cz;have y0:=JD.ext xC fun k hk e=>AK
  refine J ?_;exact⟨j0,aL,(),trivial,y0,by rw[o.abH j0];exact JL,by rw[o.adj j0];exact yu⟩
 .have JH:c.bQ.length=n:=AK
  have ix:=(o.abI aW aZ o6 n AK).len;have Zu:=(o.adk aW aZ o6 n AK).len;refine J ?_;refine J_ (abS vP _ gy PE AK) ?_;rintro u ji ⟨⟨apd,akB,akZ⟩,fb⟩;refine J ?_;refine J_ (abS c9 _ ji (iz.ext fb) AK) ?_;rintro AS mR ⟨⟨Rm,akC,ak0⟩,hL⟩;refine J ?_;have Sl:=(a7.trans sJ).size;have z12:=fb.size;refine⟨⟨_,_,apd,Rm,rfl,aS.ext hL (aS.low Sl akB),aS.low (QB Sl z12) akC,?_⟩,((a7.trans sJ).trans fb).trans hL⟩;subst yh;refine o.lD.of bF ?_ ?_
  .rw[JH];exact akZ
  .rw[JH];exact ak0
theorem adM(cs:C_ B_)(m:o.Model)(ref:Int)(w:A_)(h:o.eh w cs m)(aK:m.cK)(aO:gK w) :
  DD F.be #[.agg cs.toArray,.I ref] w fun v w'=>(∃dH lV a b,v = .tuple #[dH,lV]/\dw w' dH a/\dw w' lV b/\o.lD m ref a b)/\Ext w w' :=
 (Ua cs m ref w h aK aO).mono fun v w' ⟨⟨dH,lV,a,b,aG,aV,ao,bH⟩,he⟩=>⟨⟨dH,lV,a,b,aG,aS.hE (enc:=cL) (fun _=>rfl) aV,aS.hE (enc:=cL) (fun _=>rfl) ao,bH⟩,he⟩
end Go.Proofs.R
end
section
namespace ba
open Go Go.RowKit
structure ash(e:TypeId)(base:Nat)(w:World)(v1:Value)(eE:List Int)(v2:Value)(eJ:List Int):Prop where
 dU:aS cL e 1 base w v1 eE
 du:aS cL e 1 base w v2 eJ
 ap:∀k,v1.ownBlock=some k->v2.ownBlock≠some k
end ba
end
section
namespace o
open Go
theorem ag0(x:Node)(h : -1000<=x.op/\x.op<=1000 /\ -1000<=x.n/\x.n<=1000):x.ok:=⟨pf ⟨h.1,h.2.1⟩,pf h.2.2⟩
end o
end
section
namespace o
theorem abt{s:C_ Scalar}{c:dB}{l:C_ Int}(aC:l.length=1+c.cap.toNat)(af:1<=c.cap):lZ s c l↔(0<=l[0]' AK/\l[0]' AK<=c.cap/\∀k (h:k+1<l.length),((k:Int)<l[0]' AK->(eY c.scalar c.aR c.U s).aR<=l[k+1]/\l[k+1]<=(eY c.scalar c.aR c.U s).U)/\(l[0]' AK<=k->l[k+1]=0)):=by
 unfold lZ;constructor
 .rintro⟨n,h1,I,ab,aH⟩;obtain⟨_,rfl⟩:=List.getElem?_eq_some_iff.1 h1;refine⟨I,ab,fun k h=>?_⟩;obtain⟨x,a8,bE⟩:=aH k AK;obtain⟨_,rfl⟩:=List.getElem?_eq_some_iff.1 a8;exact bE
 .rintro⟨I,ab,aH⟩;exact⟨l[0]' AK,List.getElem?_eq_getElem _,I,ab,fun k h=>⟨l[k+1]' AK,List.getElem?_eq_getElem _,aH k AK⟩⟩
end o
namespace Go.Proofs.R
open Go Go.RowKit ba
theorem xL.form{w:A_}{b:Nat}{m:o.Model}(h:xL w b m):∃b6 bx bR c1 bX c2 bZ bu ca bC eK d0 dM d1 et d2 eB d3 eL d4 cn ci,
  w.heap[b]? = some (.cells #[.slice b6 (o.layout m).vars.length bx,.slice bR (o.layout m).aw.length c1,.slice bX (o.layout m).insts.length c2,.I (o.layout m).cells,.slice bZ (o.layout m).aR.length bu,.slice ca (o.layout m).U.length bC,
   .slice eK m.scalars.length d0,.slice dM m.vars.length d1,.slice et m.aw.length d2,.slice eB m.procs.length d3,.slice eL m.props.length d4,.slice cn (o.insts m).length ci] T.uv) /\
  bn 1 (Flat cL) w (.slice b6 (o.layout m).vars.length bx) (o.layout m).vars/\bn 1 (Flat cL) w (.slice bR (o.layout m).aw.length c1) (o.layout m).aw/\bn 1 (Flat cL) w (.slice bX (o.layout m).insts.length c2) (o.layout m).insts /\
  bn 1 (Flat cL) w (.slice bZ (o.layout m).aR.length bu) (o.layout m).aR/\bn 1 (Flat cL) w (.slice ca (o.layout m).U.length bC) (o.layout m).U /\
  o.ih w (.slice eK m.scalars.length d0) m.scalars/\o.h3 w (.slice dM m.vars.length d1) m.vars/\o.mT w (.slice et m.aw.length d2) m.aw/\o.qV w (.slice eB m.procs.length d3) m.procs /\
  ku w (.slice cn (o.insts m).length ci) (o.insts m):=by
 obtain⟨xs,cs,bL,ao,cY,aW,aZ⟩:=h.ex;obtain⟨b6,bx,bR,c1,bX,c2,bZ,bu,ca,bC,rfl,en,dU,du,eW,fQ⟩:=cY.form;obtain⟨eK,d0,dM,d1,et,d2,eB,d3,eL,d4,rfl,af,h1,I,ab,aH,_⟩:=aW.form;obtain⟨cn,ci,rfl,_⟩:=aZ.form;exact⟨b6,bx,bR,c1,bX,c2,bZ,bu,ca,bC,eK,d0,dM,d1,et,d2,eB,d3,eL,d4,cn,ci,ao,en,dU,du,eW,fQ,af,h1,I,ab,aZ⟩
theorem ao0(b i:Nat)(v:B_)(s:C_ Int)(m:o.Model)(w:A_)(aP:xL w b m)(aW:o.eX m)(U:i<m.aw.length)(ak:dw w v s)(aC:s.length=o.dN m) :
  DD F.Ib #[.pointer (some ⟨b,0,none⟩),.I i,v] w fun u w'=>(∃t:Bool,u = .bool t/\(t=true↔o.lZ m.scalars m.aw[i] (o.nC m i m.aw[i] s)))/\Ext w w':=by
 obtain⟨b6,bx,bR,c1,bX,c2,bZ,bu,ca,bC,eK,d0,dM,d1,et,d2,eB,d3,eL,d4,cn,ci,ao,en,dU,du,eW,fQ,af,h1,I,ab,aZ⟩:=aP.form;obtain⟨eF,fB,rfl,fm⟩:=ak.form;have dh:=aW.chan _ (GR U);have iu:=dh.cap;have gM:=aW.gM;obtain⟨kl,e0⟩:=o.s8 U;have nL:=o.vR U;have eU:=o.mZ m;have kA:o.dN m<=64:=o.jd aW;obtain⟨ac,rfl⟩:=I.addr;obtain⟨db,rfl⟩:=dU.addr;have ej:=(I.at i U).cells;refine br E.Ib ?_;refine J ?_;intro w1 hp ir ai ct;replace ao:=ai.obj ao;replace af:=af.ext ai;replace dU:=dU.ext Flat.ext ai;replace ak:=ak.ext Flat.ext ai;clear ej h1 I ab aZ en du eW fQ aP;refine J ?_;refine P_ (.tuple #[.I (o.eY m.aw[i].scalar m.aw[i].aR m.aw[i].U m.scalars).aR,.I (o.eY m.aw[i].scalar m.aw[i].aR m.aw[i].U m.scalars).U]) (fun w' e=>by
  rw[show o.eY m.aw[i].scalar m.aw[i].aR m.aw[i].U m.scalars=_ from o.zm ⟨⟨#[]⟩,m.aw[i].scalar,0,m.aw[i].aR,m.aw[i].U,0⟩ m.scalars];exact HL ⟨⟨#[]⟩,m.aw[i].scalar,0,m.aw[i].aR,m.aw[i].U,0⟩ _ m.scalars w' (af.ext e)) ?_
 refine J ?_;intro aD aj;replace ao:=aj.obj ao;replace dU:=dU.ext Flat.ext aj;replace ak:=ak.ext Flat.ext aj;replace ct:=aj.obj ct;have aJ:=ai.trans aj;obtain⟨aR,hN⟩:∃aR,aR=(o.eY m.aw[i].scalar m.aw[i].aR m.aw[i].U m.scalars).aR:=⟨_,rfl⟩;obtain⟨cH,tv⟩:∃U,U=(o.eY m.aw[i].scalar m.aw[i].aR m.aw[i].U m.scalars).U:=⟨_,rfl⟩;rw[<-hN,<-tv];refine J ?_;refine _Y (k:=.i64) (k':=.i64) (o.cm m i) (o.cm m i+(1+m.aw[i].cap.toNat)) ak (by simp[de,bN,e0]) (by simp[de,bN,e0];omega) AK AK fun ae c au=>?_;rw[show o.cm m i+(1+m.aw[i].cap.toNat) - o.cm m i=1+m.aw[i].cap.toNat from AK] at au ⊢;obtain⟨l,cY⟩:∃l,l=o.nC m i m.aw[i] s:=⟨_,rfl⟩;have au:bn 1 (Flat cL) aD (.slice ae (1+m.aw[i].cap.toNat) c) l:=by rw[cY];exact au
 have qC:l.length=1+m.aw[i].cap.toNat:=au.len.1.symm;rw[<-cY];obtain⟨ap,rfl⟩:=au.addr;refine J ?_;intro aN ah;replace au:=au.ext Flat.ext ah;replace ct:=ah.obj ct;have a7:=aJ.trans ah;have ar:=o.abt (s:=m.scalars) (c:=m.aw[i]) (l:=l) qC iu.1;rw[<-hN,<-tv] at ar;refine J ?_;refine K_ 0 rfl AK ?_;refine J ?_;apply I_<;>intro g1
 .refine J ?_;intro aU ax;exact⟨⟨false,rfl,by simp only[Bool.false_eq_true,false_iff];intro h;exact absurd (ar.1 h).1 AK⟩,a7.trans ax⟩
 refine J ?_;refine K_ 0 rfl AK ?_;refine J ?_;intro aU ax;replace au:=au.ext Flat.ext ax;replace ct:=ax.obj ct;replace a7:=a7.trans ax;apply I_<;>intro g2
 .refine J ?_;exact⟨⟨false,rfl,by simp only[Bool.false_eq_true,false_iff];intro h;exact absurd (ar.1 h).2.1 AK⟩,a7⟩
 have aB:=au.tail 1 AK;refine J ?_;refine _8 (k:=.i64) 1 (by simp[ot]) ⟨AK,au.len.2.1⟩ ?_;obtain⟨rF,het⟩:∃rF,rF=(if c=1 then some ap else (some ap).map (·.add (1*1))):=⟨_,rfl⟩;rw[<-het] at aB ⊢;have at5:(l.drop 1).length=m.aw[i].cap.toNat:=by rw[AF7];omega
 rw[show 1+m.aw[i].cap.toNat - 1=m.aw[i].cap.toNat from AK] at aB ⊢;refine J ?_;refine L_ 74 m.aw[i].cap.toNat [7,8,9,10,72,73] (fun _:Unit=>[]) () (fun k _ W=>Ext aU W/\∀j (h:j+1<l.length),j<k->((j:Int)<l[0]->aR<=l[j+1]/\l[j+1]<=cH)/\(l[0]<=j->l[j+1]=0)) bc bc ⟨Ext.refl _,fun j _ h=>absurd h (K8 _)⟩ ?_;have OD:=ct;clear ct;rintro k _ S bt hk ⟨aI,dI⟩;have ct:=aI.obj OD;have bD:=a7.trans aI;refine J ?_;apply I_<;>intro g3
 .have a1:k<(l.drop 1).length:=AK
  have cI:k+1<l.length:=AK
  obtain⟨at_,rfl⟩:=aB.addr;have aG:(l.drop 1)[k]=l[k+1]:=by simp[Nat.add_comm]
  have bad:¬(((k:Int)<l[0]->aR<=l[k+1]/\l[k+1]<=cH)/\(l[0]<=k->l[k+1]=0))->(false=true↔o.lZ m.scalars m.aw[i] l):=fun h=>by
   simp only[Bool.false_eq_true,false_iff];exact fun c3=>h ((ar.1 c3).2.2 k cI)
  refine J ?_;refine K_ 0 rfl AK ?_;refine J ?_;apply I_<;>intro g4
  .refine J ?_;apply I_<;>intro g5
   .refine J ?_;exact⟨⟨false,rfl,bad fun h=>by have:=h.1 g4;omega⟩,bD⟩
   refine J ?_;apply I_<;>intro g6
   .refine J ?_;exact⟨⟨false,rfl,bad fun h=>by have:=h.1 g4;omega⟩,bD⟩
   refine J ?_;refine K_ 0 rfl AK ?_;refine J ?_;refine⟨AK,aL,(),trivial,aI,fun j h aF=>?_⟩;by_cases hh:j=k
   .subst hh;exact⟨fun _=>AK,fun _=>AK⟩
   .exact dI j h AK
  .refine J ?_;refine K_ 0 rfl AK ?_;refine J ?_;apply I_<;>intro g5
   .refine J ?_;refine⟨AK,aL,(),trivial,aI,fun j h aF=>?_⟩;by_cases hh:j=k
    .subst hh;exact⟨fun _=>AK,fun _=>AK⟩
    .exact dI j h AK
   .refine J ?_;exact⟨⟨false,rfl,bad fun h=>by have:=h.2 AK;omega⟩,bD⟩
 .refine J ?_;exact⟨⟨true,rfl,by simp only[true_iff];exact ar.2 ⟨AK,AK,fun j h=>dI j h AK⟩⟩,bD⟩
theorem apM(b:Nat)(v:B_)(s:C_ Int)(m:o.Model)(w:A_)(aP:xL w b m)(aW:o.eX m)(ak:dw w v s) :
  DD F.bC #[.pointer (some ⟨b,0,none⟩),v] w fun u w'=>(∃t:Bool,u = .bool t/\(t=true↔o.Fits m s))/\Ext w w':=by
 obtain⟨b6,bx,bR,c1,bX,c2,bZ,bu,ca,bC,eK,d0,dM,d1,et,d2,eB,d3,eL,d4,cn,ci,ao,en,dU,du,eW,fQ,af,h1,I,ab,aZ⟩:=aP.form;obtain⟨eF,fB,rfl,fm⟩:=ak.form;have WV:(o.layout m).cells=(o.dN m:Int):=rfl;have f2:=o.Kb m;have f3:=o.J9 m;have kA:o.dN m<=64:=o.jd aW;have gM:=aW.gM;refine br E.bC ?_;refine J ?_;apply I_<;>intro g1;rotate_left
 .refine J ?_;exact⟨⟨false,rfl,by simp only[Bool.false_eq_true,false_iff];intro h;have:=h.len;omega⟩,Ext.refl _⟩
 have aC:s.length=o.dN m:=AK
 clear af h1 ab aZ en dU du;refine J ?_;refine L_ 22 m.aw.length [0,1,20,21] (fun _:Unit=>[]) () (fun k _ W=>Ext w W/\∀j (h:j<m.aw.length),j<k->o.lZ m.scalars m.aw[j] (o.nC m j m.aw[j] s)) bc bc ⟨Ext.refl _,fun j _ h=>absurd h (K8 _)⟩ ?_;rintro k _ S w1 hk ⟨ai,dI⟩;refine J ?_;apply I_<;>intro g2
 .have a1:k<m.aw.length:=AK
  refine J ?_;refine J_ (ao0 b k _ s m w1 (aP.ext ai) aW a1 (ak.ext Flat.ext ai) aC) ?_;rintro _ aD ⟨⟨t,rfl,aB⟩,aj⟩;cases t with
  | false =>
   refine J ?_;exact⟨⟨false,rfl,by simp only[Bool.false_eq_true,false_iff];intro h;exact absurd (aB.2 (h.queue k a1)) Bs⟩,ai.trans aj⟩
  | true =>
   refine J ?_;refine⟨a1,aL,(),trivial,ai.trans aj,fun j h aF=>?_⟩;by_cases hh:j=k
   .subst hh;exact aB.1 rfl
   .exact dI j h AK
 have akW:∀j (h:j<m.aw.length),o.lZ m.scalars m.aw[j] (o.nC m j m.aw[j] s):=fun j h=>dI j h AK;have BY:=ai.obj ao;refine J ?_;refine L_ 33 s.length [0,1,31,32] (fun _:Unit=>[]) () (fun k _ W=>W=w1/\∀j (h:j<s.length) (bo:j<(o.b1 m).length),j<k->(o.b1 m)[j].aR<=s[j]/\s[j]<=(o.b1 m)[j].U) bc bc ⟨rfl,fun j _ _ h=>absurd h (K8 _)⟩ ?_;clear ao;rintro k' _ a6 aD cI ⟨rfl,BW⟩;refine J ?_;apply I_<;>intro g3
 .have a1:k'<s.length:=AK
  have nN:k'<(o.b1 m).length:=by unfold o.dN at aC;omega
  have er:(o.layout m).aR[k']' AK=(o.b1 m)[k'].aR:=o.Ka _ nN;have eH:(o.layout m).U[k']' AK=(o.b1 m)[k'].U:=o.J8 _ nN;obtain⟨pH,rfl⟩:=ak.addr;obtain⟨a3,rfl⟩:=eW.addr;obtain⟨a4,rfl⟩:=fQ.addr;have bad:¬((o.b1 m)[k'].aR<=s[k']/\s[k']<=(o.b1 m)[k'].U)->(false=true↔o.Fits m s):=fun h=>by
   simp only[Bool.false_eq_true,false_iff];exact fun c3=>h (c3.cell k' a1 nN)
  refine J ?_;apply I_<;>intro g4
  .refine J ?_;exact⟨⟨false,rfl,bad AK⟩,ai⟩
  refine J ?_;apply I_<;>intro g5
  .refine J ?_;exact⟨⟨false,rfl,bad AK⟩,ai⟩
  refine J ?_;refine⟨a1,aL,(),trivial,aL,fun j h bo aF=>?_⟩;by_cases hh:j=k'
  .subst hh;omega
  .exact BW j h bo AK
 .refine J ?_;exact⟨⟨true,rfl,by simp only[true_iff];exact⟨aC,akW,fun j h bo=>BW j h bo AK⟩⟩,ai⟩
end Go.Proofs.R
end
section
namespace o
open Classical in
noncomputable def Gm(s:C_ Scalar)(c:dB)(l:C_ Int):Bool:=decide (lZ s c l)
theorem Rg{s:C_ Scalar}{c:dB}{l:C_ Int}:Gm s c l=true↔lZ s c l:=by unfold Gm;simp
theorem aoY{s:C_ Scalar}{c:dB}{l:C_ Int}{t:Bool}(h:t=true↔lZ s c l):t=Gm s c l:=by
 rw[<-Rg] at h;cases t<;>cases ar:Gm s c l<;>simp_all
end o
namespace Go.Proofs.R
open Go Go.RowKit ba
theorem acH(cs:C_ B_)(m:o.Model)(v:B_)(s:C_ Int)(w:A_)(h:o.eh w cs m)(aK:m.cK)(aO:gK w)(ak:dw w v s) :
  DD F.co #[.agg cs.toArray,v] w fun u w'=>(∃t:Bool,u = .bool t/\(t=true↔o.gL m s))/\Ext w w':=by
 have aW:=h;obtain⟨b6,bx,bR,c1,bX,c2,bZ,bu,ca,bC,rfl,_⟩:=h.form;refine br E.co ?_;refine J ?_;intro w1 bw cM ai al;refine J ?_;refine J_ (apm _ m w1 (aW.ext ai) aK (aO.ext ai)) ?_;rintro _ aD ⟨aP,aj⟩;have aJ:=ai.trans aj;rcases aP with ⟨rfl,hk⟩ | ⟨b,rfl,hk,aP⟩
 .refine J ?_;refine AB6 Ct ?_;refine J ?_;exact⟨⟨false,rfl,by simp only[Bool.false_eq_true,false_iff];exact fun h=>hk h.1⟩,aJ⟩
 .refine J ?_;refine AB7 Ct ?_;refine J ?_;refine J_ (apM b _ s m aD aP (o.j3 hk) (ak.ext Flat.ext aJ)) ?_;rintro _ aN ⟨⟨t,rfl,aB⟩,ah⟩;refine J ?_;exact⟨⟨t,by cases t<;>rfl,aB.trans ⟨fun h=>⟨hk,h⟩,fun h=>h.2⟩⟩,aJ.trans ah⟩
theorem apj(cs:C_ B_)(m:o.Model)(v:B_)(l:C_ Int)(i:Nat)(w:A_)(h:o.eh w cs m)(aW:o.eX m)(U:i<m.aw.length)(au:dw w v l)(qC:l.length=1+m.aw[i].cap.toNat) :
  DD F.KX #[.agg cs.toArray,v,.I i] w fun u w'=>(∃t:Bool,u = .bool t/\(t=true↔o.lZ m.scalars m.aw[i] l))/\Ext w w':=by
 obtain⟨b6,bx,bR,c1,bX,c2,bZ,bu,ca,bC,rfl,af,h1,I,ab,aH,e2,eE,eJ,er,eH⟩:=h.form;obtain⟨eF,fB,rfl,fm⟩:=au.form;have dh:=aW.chan _ (GR U);have iu:=dh.cap;have gM:=aW.gM;obtain⟨ac,rfl⟩:=I.addr;obtain⟨ap,rfl⟩:=au.addr;have ej:=(I.at i U).cells;have ar:=o.abt (s:=m.scalars) (c:=m.aw[i]) (l:=l) qC iu.1;obtain⟨aR,hN⟩:∃aR,aR=(o.eY m.aw[i].scalar m.aw[i].aR m.aw[i].U m.scalars).aR:=⟨_,rfl⟩;obtain⟨cH,tv⟩:∃U,U=(o.eY m.aw[i].scalar m.aw[i].aR m.aw[i].U m.scalars).U:=⟨_,rfl⟩;rw[<-hN,<-tv] at ar;refine br E.KX ?_;refine J ?_;intro w1 bw cM ai al;replace ej:=ej.ext ai;refine J ?_;intro aD hp ir aj ct;replace al:=aj.obj al;have aJ:=ai.trans aj;replace au:=au.ext Flat.ext aJ;clear ej;refine J ?_;refine K_ 0 rfl AK ?_;refine J ?_;apply I_<;>intro g1
 .refine J ?_;intro aN ah;refine J ?_;exact⟨⟨false,rfl,by simp only[Bool.false_eq_true,false_iff];intro h;exact absurd (ar.1 h).1 AK⟩,aJ.trans ah⟩
 refine J ?_;refine K_ 0 rfl AK ?_;refine J ?_;intro aN ah;replace al:=ah.obj al;replace ct:=ah.obj ct;replace au:=au.ext Flat.ext ah;have a7:=aJ.trans ah;apply I_<;>intro g2
 .refine J ?_;exact⟨⟨false,rfl,by simp only[Bool.false_eq_true,false_iff];intro h;exact absurd (ar.1 h).2.1 AK⟩,a7⟩
 refine J ?_;refine J_ (Rq ⟨⟨#[]⟩,m.aw[i].scalar,0,m.aw[i].aR,m.aw[i].U,0⟩ _ m.scalars aN (af.ext a7)) ?_;rintro _ aU ⟨rfl,ax⟩;have WB:((o.bounds ⟨⟨#[]⟩,m.aw[i].scalar,0,m.aw[i].aR,m.aw[i].U,0⟩ m.scalars).1=aR)/\(o.bounds ⟨⟨#[]⟩,m.aw[i].scalar,0,m.aw[i].aR,m.aw[i].U,0⟩ m.scalars).2=cH:=by
  rw[hN,tv,show o.eY m.aw[i].scalar m.aw[i].aR m.aw[i].U m.scalars=_ from o.zm ⟨⟨#[]⟩,m.aw[i].scalar,0,m.aw[i].aR,m.aw[i].U,0⟩ m.scalars];exact⟨rfl,rfl⟩
 rw[WB.1,WB.2];have OD:=ax.obj ct;replace au:=au.ext Flat.ext ax;have bD:=a7.trans ax;refine J ?_;refine _P [1,7,8,9] (fun x:Nat=>[(10,.I ((x:Int)+1))]) 0 (fun x W=>Ext aU W/\(x:Int)<=m.aw[i].cap/\∀j (h:j+1<l.length),j<x->((j:Int)<l[0]->aR<=l[j+1]/\l[j+1]<=cH)/\(l[0]<=j->l[j+1]=0)) (fun x=>(m.aw[i].cap - x).toNat) bc ⟨Ext.refl _,AK,fun j _ h=>absurd h (K8 _)⟩ ?_;clear al ct;rintro k S bt ⟨aI,hk,dI⟩;have ct:=aI.obj OD;have bJ:=bD.trans aI;replace au:=au.ext Flat.ext aI;refine J ?_;apply I_<;>intro g3
 .have cI:k+1<l.length:=AK
  have bad:¬(((k:Int)<l[0]->aR<=l[k+1]/\l[k+1]<=cH)/\(l[0]<=k->l[k+1]=0))->(false=true↔o.lZ m.scalars m.aw[i] l):=fun h=>by
   simp only[Bool.false_eq_true,false_iff];exact fun c3=>h ((ar.1 c3).2.2 k cI)
  refine J ?_;refine K_ 0 rfl AK ?_;refine J ?_;apply I_<;>intro g4
  .refine J ?_;apply I_<;>intro g5
   .refine J ?_;exact⟨⟨false,rfl,bad fun h=>by have:=h.1 AK;omega⟩,bJ⟩
   refine J ?_;apply I_<;>intro g6
   .refine J ?_;exact⟨⟨false,rfl,bad fun h=>by have:=h.1 AK;omega⟩,bJ⟩
   refine J ?_;refine K_ 0 rfl AK ?_;refine J ?_;exact⟨k+1,bc,⟨aI,AK,fun j h aF=>by
    by_cases hh:j=k
    .subst hh;exact⟨fun _=>AK,fun _=>AK⟩
    .exact dI j h AK⟩,AK⟩
  .refine J ?_;refine K_ 0 rfl AK ?_;refine J ?_;apply I_<;>intro g5
   .refine J ?_;exact⟨k+1,bc,⟨aI,AK,fun j h aF=>by
     by_cases hh:j=k
     .subst hh;exact⟨fun _=>AK,fun _=>AK⟩
     .exact dI j h AK⟩,AK⟩
   .refine J ?_;exact⟨⟨false,rfl,bad fun h=>by have:=h.2 AK;omega⟩,bJ⟩
 .refine J ?_;exact⟨⟨true,rfl,by simp only[true_iff];exact ar.2 ⟨AK,AK,fun j h=>dI j h AK⟩⟩,bJ⟩
theorem apL(xs:C_ B_)(m:o.Model)(v:B_)(s:C_ Int)(w:A_)(cY:o.kK w xs (o.layout m))(aW:o.eX m)(ak:dw w v s)(aC:s.length=o.dN m) :
  DD F.KY #[.agg xs.toArray,v] w fun u w'=>(∃t:Bool,u = .bool t/\(t=true↔∀i (h:i<s.length) (bo:i<(o.b1 m).length),(o.b1 m)[i].aR<=s[i]/\s[i]<=(o.b1 m)[i].U))/\Ext w w':=by
 obtain⟨mj,d0,ka,d1,k3,d2,pq,d3,oQ,d4,rfl,en,dU,du,eW,fQ⟩:=cY.form;obtain⟨eF,fB,rfl,fm⟩:=ak.form;have WV:(o.layout m).cells=(o.dN m:Int):=rfl;have f2:=o.Kb m;have f3:=o.J9 m;have kA:o.dN m<=64:=o.jd aW;have lx:(o.b1 m).length=s.length:=aC.symm;refine br E.KY ?_;refine J ?_;intro w1 bw cM ai al;have si:=al;clear al;replace ak:=ak.ext Flat.ext ai;replace eW:=eW.ext Flat.ext ai;replace fQ:=fQ.ext Flat.ext ai;refine J ?_;refine L_ 5 s.length [1,2] (fun _:Unit=>[]) () (fun k _ W=>Ext w1 W/\∀j (h:j<s.length) (bo:j<(o.b1 m).length),j<k->(o.b1 m)[j].aR<=s[j]/\s[j]<=(o.b1 m)[j].U) bc bc ⟨Ext.refl _,fun j _ _ h=>absurd h (K8 _)⟩ ?_;rintro k _ S aD hk ⟨aj,dI⟩;have al:=aj.obj si;refine J ?_;apply I_<;>intro g3
 .have a1:k<s.length:=AK
  have nN:k<(o.b1 m).length:=AK
  have er:(o.layout m).aR[k]' AK=(o.b1 m)[k].aR:=o.Ka _ nN;have eH:(o.layout m).U[k]' AK=(o.b1 m)[k].U:=o.J8 _ nN;obtain⟨pH,rfl⟩:=ak.addr;obtain⟨a3,rfl⟩:=eW.addr;obtain⟨a4,rfl⟩:=fQ.addr;have bad:¬((o.b1 m)[k].aR<=s[k]/\s[k]<=(o.b1 m)[k].U)->(false=true↔∀i (h:i<s.length) (bo:i<(o.b1 m).length),(o.b1 m)[i].aR<=s[i]/\s[i]<=(o.b1 m)[i].U):=fun h=>by
   simp only[Bool.false_eq_true,false_iff];exact fun c3=>h (c3 k a1 nN)
  have aJ:=ai.trans aj;refine J ?_;apply I_<;>intro g4
  .refine J ?_;intro aN ah;refine J ?_;exact⟨⟨false,rfl,bad AK⟩,aJ.trans ah⟩
  refine J ?_;intro aN ah;apply I_<;>intro g5
  .refine J ?_;exact⟨⟨false,rfl,bad AK⟩,aJ.trans ah⟩
  refine J ?_;refine⟨a1,aL,(),trivial,aj.trans ah,fun j h bo aF=>?_⟩;by_cases hh:j=k
  .subst hh;omega
  .exact dI j h bo AK
 .refine J ?_;exact⟨⟨true,rfl,by simp only[true_iff];exact fun j h bo=>dI j h bo AK⟩,ai.trans aj⟩
theorem ao8(cs xs:C_ B_)(m:o.Model)(v:B_)(s:C_ Int)(w:A_)(h:o.eh w cs m)(cY:o.kK w xs (o.layout m))(aW:o.eX m)(ak:dw w v s) :
  DD F.KV #[.agg cs.toArray,.agg xs.toArray,v] w fun u w'=>(∃t:Bool,u = .bool t/\(t=true↔o.Fits m s))/\Ext w w':=by
 have dc:=h;have sf:=cY;obtain⟨b6,bx,bR,c1,bX,c2,bZ,bu,ca,bC,rfl,af,h1,I,ab,aH,e2,eE,eJ,er,eH⟩:=h.form;obtain⟨mj,d0,ka,d1,k3,d2,pq,d3,oQ,d4,rfl,en,dU,du,eW,fQ⟩:=cY.form;obtain⟨eF,fB,rfl,fm⟩:=ak.form;have WV:(o.layout m).cells=(o.dN m:Int):=rfl;have kA:o.dN m<=64:=o.jd aW;have gM:=aW.gM;refine br E.KV ?_;refine J ?_;intro w1 bw cM ai al;refine J ?_;intro aD bS dm aj av;replace al:=aj.obj al;have aJ:=ai.trans aj;replace ak:=ak.ext Flat.ext aJ;refine J ?_;apply I_<;>intro g1;rotate_left
 .refine J ?_;exact⟨⟨false,rfl,by simp only[Bool.false_eq_true,false_iff];intro h;have:=h.len;omega⟩,aJ⟩
 have aC:s.length=o.dN m:=AK
 have si:=al;have EF:=av;clear al av;refine J ?_;refine L_ 7 m.aw.length [2,3,4] (fun _:Unit=>[]) () (fun k _ W=>Ext aD W/\∀j (h:j<m.aw.length),j<k->o.lZ m.scalars m.aw[j] (o.nC m j m.aw[j] s)) bc bc ⟨Ext.refl _,fun j _ h=>absurd h (K8 _)⟩ ?_;rintro k _ S aN hk ⟨ah,dI⟩;have al:=ah.obj si;have av:=ah.obj EF;have a7:=aJ.trans ah;have gO:=ak.ext Flat.ext ah;refine J ?_;apply I_<;>intro g2
 .have a1:k<m.aw.length:=AK
  obtain⟨kl,e0⟩:=o.s8 a1;have nL:=o.vR a1;have eU:=o.mZ m;have iu:=(aW.chan _ (GR a1)).cap;obtain⟨db,rfl⟩:=dU.addr;obtain⟨a2,rfl⟩:=I.addr;have ava:=dU.ext Flat.ext a7;have ej:=((I.at k a1).cells).ext a7;refine J ?_;refine _Y (k:=.i64) (k':=.i64) (o.cm m k) (o.cm m k+(1+m.aw[k].cap.toNat)) gO (by simp[de,bN,e0]) (by simp[de,bN,e0];omega) AK AK fun ae c au=>?_;rw[show o.cm m k+(1+m.aw[k].cap.toNat) - o.cm m k=1+m.aw[k].cap.toNat from AK] at au ⊢;replace au:bn 1 (Flat cL) aN (.slice ae (1+m.aw[k].cap.toNat) c) (o.nC m k m.aw[k] s):=au;refine J ?_;refine P_ (.bool (o.Gm m.scalars m.aw[k] (o.nC m k m.aw[k] s))) (fun w' e=>(apj _ m _ _ k w' (dc.ext (a7.trans e)) aW a1 (au.ext Flat.ext e) au.len.1.symm).mono fun u bO ⟨⟨t,aB,ar⟩,he⟩=>⟨by rw[aB,o.aoY ar],he⟩) ?_;refine J ?_;intro aU ax;refine N_ (fun ar=>?_) (fun ar=>?_)
  .refine J ?_;refine⟨a1,aL,(),trivial,ah.trans ax,fun j h aF=>?_⟩;by_cases hh:j=k
   .subst hh;exact o.Rg.1 ar
   .exact dI j h AK
  .refine J ?_;exact⟨⟨false,rfl,by simp only[Bool.false_eq_true,false_iff];intro h;have:=o.Rg.2 (h.queue k a1);rw[ar] at this;cases this⟩,a7.trans ax⟩
 .refine J ?_;refine J_ (apL _ m _ s aN (sf.ext a7) aW gO aC) ?_;rintro _ aU ⟨⟨t,rfl,aB⟩,ax⟩;refine J ?_;exact⟨⟨t,rfl,aB.trans ⟨fun h=>⟨aC,fun j aF=>dI j aF AK,h⟩,fun h=>h.cell⟩⟩,a7.trans ax⟩
end Go.Proofs.R
end
section
namespace ba
open Go Go.RowKit
def nS(l:C_ Int):C_ B_:=l.map (Value.int .i64)
theorem ZR(l:C_ Int):(nS l).length=l.length:=by simp[nS]
theorem ZS{l:C_ Int}{d j:Nat}{x:Int}(aF:j=d)(h:j<(nS l).toArray.size):(nS l).toArray.set j (.I x) h=(nS (l.set d x)).toArray:=by
 subst aF;simp[nS,List.map_set]
theorem ase(n:Nat):rT (Value.int .i64 0).cells (n*1)=(nS (List.replicate n 0)).toArray:=by
 apply Array.ext_getElem?;intro i;by_cases h:i<n
 .simp[rT,nS,Value.cells,h,Nat.mod_one]
 .simp[rT,nS,h]
theorem _y{cT:B_->A_->Prop}{w:A_}{e:F_}{n:Int}{t}(N:Nat)(az:n=N)(ao:N<=1000000)(hk:∀w1 b,w.heap.size<=b->Ext w w1->w1.heap[b]? = some (.cells (nS (List.replicate N 0)).toArray e)->cT (.slice (some ⟨b,0,none⟩) N N) w1) :
  Bd e 1 8 (.I 0) (.I n) (.I n) w cT t:=by
 subst az;refine _6 ⟨AK,AK,AK,AK⟩ ?_;have h:=hk (w.alloc (.cells (nS (List.replicate N 0)).toArray e)) _ (GA _) ((Ext.refl w).alloc _) (heap_alloc_new w _);rw[AG9,ase];exact h
theorem FB:∀l:C_ Int,nS l=l.flatMap cL
 | []=>rfl
 | x :: r=>by
  have:=FB r
  simp only[nS,List.map_cons,List.flatMap_cons] at this ⊢;rw[this];rfl
theorem QS{w:A_}{b n:Nat}{e:F_}{l:C_ Int}(h:w.heap[b]? = some (.cells (nS l).toArray e))(az:n=l.length)(hm:l.length<=maxLen):bn 1 (Flat cL) w (.slice (some ⟨b,0,none⟩) n n) l :=
 bn.cx (enc:=cL) (fun _=>rfl) (by rw[h,FB]) az hm fun _ _ _ h=>h
end ba
namespace Go.Proofs.R
open Go Go.RowKit ba
def Ht(w:A_)(a:Addr)(l:C_ Int):Prop := ∃v,w.cell? a=some v/\dw w v l
abbrev xI(w:A_)(v:B_)(l:C_ (C_ Int)):Prop:=bn 1 Ht w v l
theorem apg(cs ys:C_ B_)(v:B_)(m:o.Model)(s:C_ Int)(p:Nat)(w:A_)(h:o.eh w cs m)(aK:m.cK)(aW:o.eX m)(cY:o.kK w ys (o.layout m))(ak:dw w v s)(ay:o.Fits m s)(au:p<m.procs.length) :
  DD F.FX #[.agg cs.toArray,.agg ys.toArray,v,.I p] w fun u w'=>aS cL T.a 1 w.heap.size w' u (o.kz m s p m.procs[p].cp (o.insts m).length)/\Ext w w':=by
 have dc:=h;obtain⟨b6,bx,bR,c1,bX,c2,bZ,bu,ca,bC,rfl,af,h1,I,ab,aH,e2,eE,eJ,er,eH⟩:=h.form;obtain⟨mj,d0,ka,d1,k3,d2,pq,d3,oQ,d4,rfl,en,dU,du,eW,fQ,gI,cE,cW,fz⟩:=cY.form;obtain⟨eF,fB,rfl,fm⟩:=ak.form;have hlen:=ay.len;have kA:o.dN m<=64:=o.jd aW;have jX:(o.insts m).length<=30:=by have:=o.tH m;have:=aW.procs;omega
 have dh:=aW.proc _ (GR au);have YT:=dh.cp;obtain⟨f6,f7,f8⟩:=o.tI m;obtain⟨a,rfl⟩:=ab.addr;obtain⟨mc,b2,dV,dP,e7,fy⟩:=ab.at p au;refine br E.FX ?_;refine J ?_;intro w1 bw cM ai al;refine J ?_;intro aD bS dm aj av;replace al:=aj.obj al;have aJ:=ai.trans aj;replace dP:=dP.ext aJ;unfold o.dJ.enc at dP;refine J ?_;refine _y m.procs[p].cp.toNat AK AK ?_;intro aN xQ aiT ah oy;rw[<-o.Vw m s p] at oy;replace al:=ah.obj al;replace av:=ah.obj av;have a7:=aJ.trans ah;have z2:=aJ.size;clear dP;refine J ?_;refine J_ (Gs _ m aN (dc.ext a7) aK) ?_;rintro bL qM ⟨eV,uO⟩;obtain⟨cn,ci,rfl,_⟩:=eV.form;replace av:=uO.obj av;replace oy:=uO.obj oy;have j5:xQ≠bS:=by
  intro e;subst e;rw[av] at oy;injection oy with oy;injection oy with _ oy;revert oy;decide
 have aj6:∀{W},Mod (fun k=>k=xQ) qM W->eM [T.a] qM W:=fun h=>eM.mod h fun k c t an a=>by
  subst a;rw[oy] at an;injection an with an;injection an with _ an;rw[<-an];simp
 have Pd:∀{W:A_},Mod (fun k=>k=xQ) qM W->ku W (.slice cn (o.insts m).length ci) (o.insts m):=fun k=>aS.hE (enc:=o.cX.enc) (fun _=>rfl) (eV.iB (aj6 k) BN);have gW:∀{W},Mod (fun k=>k=xQ) qM W->W.heap[bS]? = qM.heap[bS]? := fun h=>h.block _ (cA av) (Ne.symm j5);have dW:∀{W},Mod (fun k=>k=xQ) qM W->Ext aD W:=fun h=>h.ext (ah.trans uO) fun i U e=>AK
 rw[av] at gW;clear al av;refine J ?_;refine L_ 11 (o.insts m).length [2,3,5,9,10] (fun _:Unit=>[]) () (fun k _ W=>Mod (fun i=>i=xQ) qM W/\W.heap[xQ]? = some (.cells (nS (o.kz m s p m.procs[p].cp k)).toArray T.a)) bc bc ⟨Mod.refl _ _,oy⟩ ?_;clear oy;rintro k _ S aU a1 ⟨hm,oy⟩;have av:=gW hm;have fs:=Pd hm;have bD:=aJ.trans (dW hm);refine J ?_;apply I_<;>intro g1
 .have cI:k<(o.insts m).length:=AK
  obtain⟨ij,rfl⟩:=fs.addr;have nj:=o.rC _ (GR cI);obtain⟨q,ar,Af,qo⟩:=o.Am nj;have Ca:(o.insts m)[k]?.map (·.proc)=some (q:Int):=by rw[List.getElem?_eq_getElem cI,AG3,Af]
  obtain⟨d,Fk,ajC⟩:=ay.loc cI ar qo;obtain⟨kp,Fl⟩:=List.getElem?_eq_some_iff.1 Fk;obtain⟨Zs,hP⟩:=o.rB cI;obtain⟨pH,rfl⟩:=ak.addr;obtain⟨a2,rfl⟩:=du.addr;have ly:=ak.ext Flat.ext bD;have yK:=du.ext Flat.ext bD;refine J ?_;apply I_<;>intro g2
  .have akV:q=p:=AK
   subst akV;have hK:d<m.procs[q].cp.toNat:=AK
   have ix:=o.vK m s q m.procs[q].cp k;have PG:=o.DH (m:=m) (s:=s) (p:=q) (k:=k) hK;have dY:=o.MR m s q d k;refine J ?_;refine K_ (o.dG m k) (by rw[hP]) (by rw[hlen];omega) ?_;refine J ?_;have ma:dw aU (.slice (some ⟨xQ,0,none⟩) m.procs[q].cp.toNat m.procs[q].cp.toNat) (o.kz m s q m.procs[q].cp k):=QS oy ix.symm (by rw[ix];unfold maxLen;omega);have EM:d<(o.kz m s q m.procs[q].cp k).length:=AK
   obtain⟨_,PH⟩:=List.getElem?_eq_some_iff.1 PG;refine K_ d Fl hK ?_;refine J ?_;rw[PH];refine J ?_;refine K_ d Fl hK ?_;refine J ?_;refine _E oy (by rw[List.size_toArray,ZR];omega) rfl fun bt fg b9=>?_;rw[ZS (AG5 _),<-o.Vv Ca Fk hK] at b9;refine J ?_;exact⟨AK,aL,(),trivial,hm.trans (fg.mod rfl),b9⟩
  .refine J ?_;refine⟨cI,aL,(),trivial,hm,?_⟩;rw[o.Vu (by rw[Ca];intro e;have:=Option.some.inj e;omega)];exact oy
 .have lL:(o.insts m).length=k:=AK
  refine J ?_;exact⟨by rw[lL];exact aS.low aJ.size (aS.zn _ oy aiT (FB _) (fun _=>rfl) (o.vK _ _ _ _ _).symm (by rw[o.vK];unfold maxLen;omega)),bD⟩
end Go.Proofs.R
end
section
namespace ba
open Go Go.RowKit
section
variable{P:Program}{cT:Value->World->Prop}{e:TypeId}{sz base:Nat}{w:World}{s x:Value}{xs ys:List (fj sz)}
theorem AA4{ty:F_}{b:Nat}{t}(ak:pw e sz base w s xs)(ag:bn sz (Flat kf) w x ys)(ao:(xs.length+ys.length)*b<=140737488355328)(lp:xs.length+ys.length<=maxLen)(kC:base<=w.heap.size)
  (hk:∀b0 w',pw e sz base w' b0 (xs++ys)->w.grownBy w' s.ownBlock->cT b0 w'):ml P ty e sz b s x w cT t:=by
 obtain⟨aQ,cap,rfl,h1,I,ab,aH⟩:=ag.ex;cases aQ with
 | some a=>exact _X ak kg (bn.flat kg (fun _ _ h=>h) ⟨some a,cap,rfl,h1,I,ab,aH⟩) rfl tj ao lp kC fun b0 w' a8 bE _=>hk b0 w' a8 bE
 | none =>
  have:ys=[]:=Classical.byContradiction fun az=>by have:=ab az;cases this
  subst this;rw[AF1] at hk;refine _n fun⟨aB,i,z,U,bI,Cn,B0,Al,JR⟩=>?_;refine⟨ty,s,w,?_,hk s w ak ⟨rfl,rfl,rfl,GA _,fun _ _ _=>rfl⟩⟩;rcases ak.2 with ⟨rfl,af⟩ | ⟨g,cap,cur,rfl,_,_,Fa,_⟩
  .simp[Builtin.append_,run_underlying aB,Go.sizeOf,typeInfo,U,Builtin.lenOf,Builtin.firstCells]
  .simp[Builtin.append_,run_underlying aB,Go.sizeOf,typeInfo,U,Builtin.lenOf,Builtin.firstCells,Fa,storeCells]
end
end ba
end
section
namespace ba
open Go Go.RowKit
structure aso{α:Type}(C:World->List Value->α->Prop)(e:TypeId)(sz base:Nat)(v:Value)(w0 ws:World)(xs:List α)(k:Nat)(x:List (fj sz))(W:World):Prop where
 m:Mod (fun i=>v.ownBlock=some i) ws W
 cx:∀i,v.ownBlock=some i->base<=i/\i<ws.heap.size/\∃cur,ws.heap[i]? = some (.cells cur e)
 len:x.length=xs.length
 own:pw e sz base W v x
 new:∀i (h1:i<x.length) (I:i<xs.length),i<k->hc (fun j=>j<ws.heap.size) (fun w=>C w x[i].1 xs[i]) W
 hD:∀i (h1:i<x.length) (I:i<xs.length),k<=i->C w0 x[i].1 xs[i]
theorem AD2{α:Type}{P:D_}{cT:B_->A_->Prop}{R:A_->Addr->α->Prop}{C:A_->C_ B_->α->Prop}{e:F_}{sz:Nat}[Rel R C sz]{w0 w oO:A_}{x:B_}{xs:C_ α}{ty:F_}{b zl:Nat}{t}
  (ag:bn sz R w0 x xs)(ei:Ext w0 w)(Ja:w.heap.size<=zl)(zV:Ext w oO)(Jh:oO.heap[zl]? = some (.cells #[] e))(ay:∀{w w':A_} {cs x},C w cs x->C w' cs x)(ao:xs.length*b<=140737488355328)
  (hk:∀aQ c w',ey w (fun w=>bn sz R w (.slice aQ xs.length c) xs) w'->Ext w w'->Mod (fun i=>i=zl) oO w'->cT (.slice aQ xs.length c) w'):ml P ty e sz b (.slice (some ⟨zl,0,none⟩) 0 0) x oO cT t:=by
 obtain⟨cq,aC,lK,bF⟩:=ag.cells;have aO:pw e sz w.heap.size oO (.slice (some ⟨zl,0,none⟩) 0 0) []:=aS.empty Ja Jh;have hm:cq.length<=maxLen:=by obtain⟨_,_,_,h1,I,_⟩:=lK.ex;omega
 refine AA4 aO (bn.ext Flat.ext (ei.trans zV) lK) (by rw[AI1,AE8,aC];exact ao) (by rw[AI1,AE8];exact hm) zV.size fun b0 w' nh aK=>?_;rw[AF8] at nh;have az:ey w (fun w=>bn sz R w b0 xs) w':=ey.clone (R:=R) aC nh ay fun i h1 I=>ay (bF i h1 I);obtain⟨aQ,c,rfl,_⟩:=az.here.form;exact hk aQ c w' az (aS.ln aO zV aK (GA _)) (Mod.grown (A:=fun i=>i=zl) aK fun k q=>by injection q with q;exact q.symm)
end ba
end