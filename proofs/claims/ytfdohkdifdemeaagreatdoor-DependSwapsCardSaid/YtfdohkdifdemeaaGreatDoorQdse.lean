/- Parts. -/
import Derived.Test.YtfdohkdifdemeaaGreatDoorQdsd
import Derived.Test.YtfdohkdifdemeaaGreatDoorChecked
set_option linter.all false
set_option maxRecDepth 100000
section
namespace o
open Go
structure B5(v:Var)(s:List Scalar):Prop where
 fI:v.scalar=0\/size v.scalar s≠0
 e3:v.over=0\/size v.over s≠0
 Ip:v.scalar=0->narrow v.bf v.ad=true
 bf:(bounds v s).1<=v.init
 ad:v.init<=(bounds v s).2
structure BJ(c:dr)(s:List Scalar):Prop where
 fI:c.scalar=0\/size c.scalar s≠0
 cap:1<=c.cap/\c.cap<=4
 Ip:c.scalar=0->narrow c.bf c.ad=true
structure ZA(p:dy)(s:List Scalar):Prop where
 over:0<=p.over/\p.over<=s.length
 cw:1<=p.cw/\p.cw<=12
 hJ:p.vars.length<=4/\p.cH.length<=12
 var:∀v∈p.vars,B5 v s
structure eN(m:Model):Prop where
 hJ:m.scalars.length<=2/\m.vars.length<=12/\m.aL.length<=4
 procs:m.procs.length<=6
 var:∀v∈m.vars,B5 v m.scalars
 chan:∀c∈m.aL,BJ c m.scalars
 proc:∀p∈m.procs,ZA p m.scalars
 insts:(pieces m).1<=12
 cells:(pieces m).2.2<=64
theorem Ol{k:Int}{s:List Scalar}(h:¬there k s=false):k=0\/size k s≠0:=by
 unfold there at h;by_cases ak:k=0
 .exact .inl ak
 .exact .inr (by simpa[ak] using h)
theorem YR{l:List Var}{s:List Scalar}{i:Nat}(ad:i<l.length)(h:oL l s i=0):B5 l[i] s:=by
 unfold oL at h;rw[List.getElem?_eq_getElem ad] at h;simp only at h;by_cases h1:there l[i].scalar s=false\/there l[i].over s=false
 .rw[if_pos h1] at h;cases h
 rw[if_neg h1] at h;by_cases U:(l[i].scalar=0/\narrow l[i].bf l[i].ad=false)\/l[i].init<(bounds l[i] s).1\/l[i].init > (bounds l[i] s).2
 .rw[if_pos U] at h;cases h
 refine⟨Ol fun e=>h1 (.inl e),Ol fun e=>h1 (.inr e),fun ak=>?_,?_,?_⟩
 .cases aE:narrow l[i].bf l[i].ad with
  | true=>rfl
  | false=>exact absurd (.inl ⟨ak,aE⟩) U
 .exact Int.not_lt.1 fun e=>U (.inr (.inl e))
 .exact Int.not_lt.1 fun e=>U (.inr (.inr e))
theorem abe{l:List dr}{s:List Scalar}{i:Nat}(ad:i<l.length)(h:oo l s i=0):BJ l[i] s:=by
 unfold oo at h;rw[List.getElem?_eq_getElem ad] at h;simp only at h;by_cases h1:there l[i].scalar s=false
 .rw[if_pos h1] at h;cases h
 rw[if_neg h1] at h;by_cases U:l[i].cap<1\/l[i].cap > 4\/(l[i].scalar=0/\narrow l[i].bf l[i].ad=false)
 .rw[if_pos U] at h;cases h
 refine⟨Ol h1,by omega,fun ak=>?_⟩;cases aE:narrow l[i].bf l[i].ad with
 | true=>rfl
 | false=>exact absurd (.inr (.inr ⟨ak,aE⟩)) U
theorem Ky{fs:Int}{fH:Nat->ByteArray}{mo:Nat->Int}{i:Nat}(h:err fs fH mo i=0):mo i=0:=by
 unfold err at h;split at h
 .cases h
 .split at h
  .cases h
  .split at h
   .cases h
   .exact h
theorem mF{m:Model}(h:(check m).c3=0):eN m:=by
 unfold check at h;by_cases bx:(data m).c3≠0
 .rw[if_pos bx] at h;exact absurd h bx
 rw[if_neg bx] at h;have bx:(data m).c3=0:=by simpa using bx
 by_cases aN:(lO m).c3≠0
 .rw[if_pos aN] at h;exact absurd h aN
 have aN:(lO m).c3=0:=by simpa using aN
 obtain⟨h1,U,ag⟩:=Sq bx;obtain⟨eD,fC,fU⟩:=Iu aN;refine⟨GM bx,?_,fun v aT=>?_,fun c aw=>?_,fun p afT=>?_,fC,fU⟩
 .apply Classical.byContradiction;intro aE
  have:=GS (i:=6) (by omega) (eD 6 (by omega))
  omega
 .obtain⟨i,ad,rfl⟩:=List.mem_iff_getElem.1 aT;exact YR ad (Ky (I5 (U i ad)))
 .obtain⟨i,ad,rfl⟩:=List.mem_iff_getElem.1 aw;exact abe ad (Ky (GC (ag i ad)))
 .obtain⟨i,ad,rfl⟩:=List.mem_iff_getElem.1 afT;obtain⟨_,cX,_,_⟩:=zU ad (eD i ad);have ay:(gM m i).scalars=m.scalars:=by
   unfold gM;split<;>rfl
  obtain⟨f1,f2,f3,f4,_⟩:=No cX;have f5:(vars m.procs[i].vars m.scalars 4).2=0:=by
   apply Classical.byContradiction;intro aE;unfold kI at f4;rw[ay,if_pos aE] at f4;exact aE f4
  unfold whole at f3;rw[ay] at f3;split at f3
  .cases f3
  .split at f3
   .cases f3
   .split at f3
    .cases f3
    .exact⟨by omega,by omega,⟨f1,f2⟩,fun v aT=>by
      obtain⟨j,aR,rfl⟩:=List.mem_iff_getElem.1 aT;exact YR aR (Ky (ud f5 j aR))⟩
theorem WJ{bf ad:Int}(h:narrow bf ad=true) : -1048576<=bf/\bf<=ad/\ad<=1048576/\ad - bf<256:=by
 unfold narrow at h;exact of_decide_eq_true h
theorem aba{v:Var}{s:List Scalar}(h:B5 v s):1<=cells v s:=by
 have:=size_le v.over s
 have:=h.e3
 unfold cells;split<;>omega
theorem BA(s:List Scalar)(v:Var):(y2 s v).length=(cells v s).toNat:=by simp[y2]
theorem tO(s:List Scalar)(c:dr):(mj s c).length=1+c.cap.toNat:=by simp[mj];omega
theorem D5{m:Model}{x:c7}(h:x.of m):∃(i:Nat) (ad:i<m.procs.length),x.proc=i/\lJ m x=tp m.scalars m.procs[i]:=by
 refine⟨x.proc.toNat,by have:=h.ad;have:=h.bf;omega,by have:=h.bf;omega,?_⟩;unfold lJ;rw[iY h.bf (by exact_mod_cast h.ad)]
theorem alW{m:Model}(h:eN m):∀l∈cV m,l≠[]:=fun l aS=>by
 obtain⟨v,aT,rfl⟩:=List.mem_map.1 aS
 have:=aba (h.var v aT)
 intro e
 have:=congrArg List.length e
 rw[BA] at this;simp at this;omega
theorem aaR(m:Model):∀l∈dw m,l≠[]:=fun l aS=>by
 obtain⟨v,aT,rfl⟩:=List.mem_map.1 aS;simp[mj]
theorem agJ(m:Model):∀l∈fc m,l≠[]:=fun l aS=>by
 obtain⟨v,aT,rfl⟩:=List.mem_map.1 aS;obtain⟨i,ad,_,e⟩:=D5 (r2 v aT);rw[e];simp[tp]
theorem ac4{m:Model}(h:eN m):ih 1 (cb m) 0=hq 0 (cV m)/\ih 2 (cb m) 0=hq (total (cV m)) (dw m)/\ih 3 (cb m) 0=hq (total (cV m)+total (dw m)) (fc m):=by
 unfold cb;simp only[CT,ke,List.length_append,Nat.zero_add];refine⟨?_,?_,?_⟩
 .rw[GW 1 _ 0 0 (alW h),xW 1 2 (by decide),xW 1 3 (by decide)];simp
 .rw[GW 2 _ 0 _ (aaR m),xW 2 1 (by decide),xW 2 3 (by decide)];simp
 .rw[GW 3 _ 0 _ (agJ m),xW 3 1 (by decide),xW 3 2 (by decide)];simp
theorem Oe(x:Int)(l:List Int):h8 (x :: l)=x+h8 l:=by
 have key:∀(l:List Int) (a:Int),l.foldl (· + ·) a=a+l.foldl (· + ·) 0:=by
  intro l
  induction l with
  | nil=>intro a;simp
  | cons y r e1 =>
   intro a;simp only[List.foldl_cons];rw[e1 (a+y),e1 (0+y)];omega
 unfold h8;rw[List.foldl_cons,key];omega
theorem FA(l:List dG)(r:List (List dG)):total (l :: r)=l.length+total r:=by simp[total]
theorem Fz(a b:List (List dG)):total (a++b)=total a+total b:=by simp[total]
theorem YH(s:List Scalar):∀l:List Var,(total (l.map (y2 s)):Int)=h8 (l.map fun v=>cells v s)
 | []=>rfl
 | v :: r=>by
  rw[List.map_cons,FA,List.map_cons,Oe,<-YH s r,BA]
  have:=(tN v s).1
  omega
theorem YE(s:List Scalar):∀l:List dr,(∀c∈l,BJ c s)->(total (l.map (mj s)):Int)=h8 (l.map pT)
 | [],_=>rfl
 | c :: r,h=>by
  rw[List.map_cons,FA,List.map_cons,Oe,<-YE s r (fun x ar=>h x (by simp[ar])),tO]
  have:=(h c (by simp)).cap
  unfold pT;omega
theorem Bd(s:List Scalar)(p:dy):(tp s p).length=1+p.vars.length:=by simp[tp];omega
theorem acb(m:Model)(i:Nat)(p:dy)(h:0<=p.over):(((iw i p).length+elems m p:Nat):Int)=ks m p:=by
 unfold iw ks elems;by_cases ak:p.over=0
 .rw[if_pos ak,if_pos ak,hN (.inl (by omega))];rfl
 .rw[if_neg ak,if_neg ak];unfold size;by_cases h1:p.over - 1<m.scalars.length
  .rw[iY (by omega) h1,List.getElem?_eq_getElem (by omega)];simp only;by_cases U:(m.scalars[(p.over - 1).toNat]'(by omega)).size<1\/4<(m.scalars[(p.over - 1).toNat]'(by omega)).size
   .rw[if_pos U,if_neg (by omega)];rfl
   .rw[if_neg U,if_pos (by omega)];simp only[List.length_nil];omega
  .rw[hN (.inr (by omega)),List.getElem?_eq_none (by omega)];rfl
theorem YF(m:Model):∀(l:List dy) (i:Nat),m.procs.drop i=l->(∀p∈l,0<=p.over)->(total ((iW m l i).map (lJ m)):Int)=h8 (l.map fun p=>ks m p*(1+p.vars.length))
 | [],_,_,_=>rfl
 | p :: r,i,bx,h=>by
  have ad:i<m.procs.length:=by
   apply Classical.byContradiction;intro aE;rw[List.drop_eq_nil_of_le (by omega)] at bx;cases bx
  rw[List.drop_eq_getElem_cons ad] at bx;injection bx with aN a6
  have aC:∀x:c7,x.proc=i->(lJ m x).length=1+p.vars.length:=fun x ar=>by
   unfold lJ;rw[ar,iY (by omega) (by omega)];simp only[Int.toNat_natCast];rw[aN,Bd]
  have dC:∀l:List c7,(∀x∈l,x.proc=i)->total (l.map (lJ m))=l.length*(1+p.vars.length):=by
   intro l
   induction l with
   | nil=>intro _;simp[total]
   | cons x r e1 =>
    intro h;rw[List.map_cons,FA,e1 (fun y b2=>h y (by simp[b2])),aC x (h x (by simp)),List.length_cons,Nat.add_mul];omega
  have h1:∀x∈iw i p++iZ i (elems m p),x.proc=i:=fun x ar=>by
   rcases List.mem_append.1 ar with ar | ar
   .unfold iw at ar;split at ar
    .rw[List.mem_singleton] at ar;rw[ar]
    .cases ar
   .unfold iZ at ar;obtain⟨k,_,rfl⟩:=List.mem_map.1 ar;rfl
  rw[iW,List.map_append,Fz,dC _ h1,List.map_cons,Oe,<-YF m r (i+1) a6 (fun x ar=>h x (by simp[ar])),<-acb m i p (h p (by simp))];rw[List.length_append,show(iZ i (elems m p)).length=elems m p from by simp[iZ]];simp only[Int.natCast_add,Int.natCast_mul];rfl
theorem Ig{m:Model}(h:eN m):((cb m).length:Int)=(pieces m).2.2:=by
 rw[Ec];have bR:=YH m.scalars m.vars;have aW:=YE m.scalars m.aL h.chan;have bJ:=YF m m.procs 0 (by simp) (fun p aN=>(h.proc p aN).over.1);unfold pieces;simp only;rw[<-bR,<-aW,<-bJ];simp only[cV,dw,fc,insts];omega
def Te(l:vy)(s:Int):List Int:=if s=3 then l.insts else if s=2 then l.aL else l.vars
structure amu(m:Model)(c:Nat)(x:Cell):Prop where
 sort:1<=x.sort/\x.sort<=3
 vn:0<=x.vn/\x.vn<(Te (layout m) x.sort).length
 at_:(Te (layout m) x.sort)[x.vn.toNat]? = some ((c:Int) - x.place)
 place:0<=x.place/\x.place<=c
 le:x.bf<=x.ad
 chan:x.sort=2->x.bf<=0/\0<=x.ad
theorem ahs{m:Model}{c:Nat}(h1:total (cV m)<=c)(h:c<total (cV m)+total (dw m)):(cb m)[c]? = (cellsOf 2 (dw m) 0)[c - total (cV m)]? := by
 unfold cb;rw[List.getElem?_append_left (by rw[List.length_append,ke,ke];omega),List.getElem?_append_right (by rw[ke];exact h1),ke]
theorem ahu{m:Model}{c:Nat}(h1:total (cV m)+total (dw m)<=c):(cb m)[c]? = (cellsOf 3 (fc m) 0)[c - (total (cV m)+total (dw m))]? := by
 unfold cb;rw[List.getElem?_append_right (by rw[List.length_append,ke,ke];exact h1),List.length_append,ke,ke]
theorem FB{ls:List (List dG)}{i:Nat}(h:i<ls.length):total (ls.take (i+1))=total (ls.take i)+ls[i].length:=by
 rw[List.take_succ_eq_append_getElem h,alE]
theorem alF(ls:List (List dG))(i:Nat):total (ls.take i)<=total ls:=by
 have e:total ls=total (ls.take i)+total (ls.drop i):=by rw[<-Fz,List.take_append_drop]
 omega
theorem Oi{ls:List (List dG)}{i:Nat}(h:i<ls.length):total (ls.take i)+ls[i].length<=total ls:=by
 rw[<-FB h];exact alF _ _
end o
end
section
namespace Go.Proofs.R
open Go bt Go.Proofs
abbrev T.Gq:TypeId:=0
abbrev T.a:TypeId:=3
abbrev T.p:TypeId:=4
abbrev T.s:TypeId:=5
abbrev T.j:TypeId:=9
abbrev T.o0:TypeId:=20
abbrev T.l0:TypeId:=21
abbrev T.ac:TypeId:=22
abbrev T.xz:TypeId:=23
abbrev T.lp:TypeId:=24
abbrev T.rH:TypeId:=25
abbrev T.RW:TypeId:=26
abbrev T.b:TypeId:=28
abbrev T.z:TypeId:=36
abbrev T.c:TypeId:=40
abbrev T.u:TypeId:=42
abbrev T.d:TypeId:=45
abbrev T.ky:TypeId:=50
abbrev T.as:TypeId:=51
abbrev T.n:TypeId:=53
abbrev T.rI:TypeId:=54
abbrev T.h:TypeId:=56
abbrev T.k:TypeId:=58
abbrev T.qx:TypeId:=59
abbrev T.l:TypeId:=62
abbrev T.oi:TypeId:=69
abbrev T.i:TypeId:=72
abbrev T.w:TypeId:=76
abbrev T.q:TypeId:=79
abbrev T.xy:TypeId:=81
abbrev T.r:TypeId:=83
abbrev T.f:TypeId:=85
abbrev T.sC:TypeId:=100
abbrev T.oY:TypeId:=103
abbrev T.g:TypeId:=122
abbrev T.q3:TypeId:=125
abbrev T.ap:TypeId:=142
abbrev T.a3:TypeId:=143
abbrev T.a4:TypeId:=144
abbrev T.a0:TypeId:=156
abbrev T.x:TypeId:=160
abbrev T.dJ:TypeId:=180
abbrev T.y:TypeId:=182
abbrev T.e:TypeId:=197
abbrev T.oZ:TypeId:=207
abbrev T.sy:TypeId:=214
abbrev T.Fm:TypeId:=219
abbrev T.k5:TypeId:=222
abbrev T.kT:TypeId:=237
abbrev T.lZ:TypeId:=246
abbrev T.a2:TypeId:=247
abbrev T.zw:TypeId:=250
abbrev T.qy:TypeId:=256
abbrev T.am:TypeId:=261
abbrev T.lr:TypeId:=264
abbrev T.m:TypeId:=266
abbrev T.v:TypeId:=268
abbrev T.a5:TypeId:=314
abbrev F.EU:FuncId:=6
abbrev F.Ez:FuncId:=8
abbrev F.u0:FuncId:=14
abbrev F.gn:FuncId:=15
abbrev F.n:FuncId:=17
abbrev F.u:FuncId:=19
abbrev F.EJ:FuncId:=21
abbrev F.AR:FuncId:=22
abbrev F.AY:FuncId:=23
abbrev F.wM:FuncId:=24
abbrev F.EV:FuncId:=25
abbrev F.uX:FuncId:=26
abbrev F.ED:FuncId:=28
abbrev F.xI:FuncId:=30
abbrev F.h:FuncId:=31
abbrev F.CS:FuncId:=33
abbrev F.xE:FuncId:=34
abbrev F.CU:FuncId:=35
abbrev F.A3:FuncId:=44
abbrev F.zC:FuncId:=45
abbrev F.zD:FuncId:=46
abbrev F.EA:FuncId:=47
abbrev F.a:FuncId:=50
abbrev F.d:FuncId:=51
abbrev F.qD:FuncId:=52
abbrev F.zE:FuncId:=53
abbrev F.i:FuncId:=54
abbrev F.oY:FuncId:=55
abbrev F.qE:FuncId:=56
abbrev F.bi:FuncId:=57
abbrev F.w:FuncId:=58
abbrev F.AT:FuncId:=61
abbrev F.EH:FuncId:=62
abbrev F.AZ:FuncId:=63
abbrev F.A0:FuncId:=64
abbrev F.ER:FuncId:=65
abbrev F.Es:FuncId:=66
abbrev F.yJ:FuncId:=67
abbrev F.A1:FuncId:=68
abbrev F.AP:FuncId:=69
abbrev F.yL:FuncId:=70
abbrev F.yK:FuncId:=71
abbrev F.Ex:FuncId:=72
abbrev F.x:FuncId:=74
abbrev F.vS:FuncId:=76
abbrev F.vT:FuncId:=77
abbrev F.vU:FuncId:=78
abbrev F.e6:FuncId:=86
abbrev F.oi:FuncId:=88
abbrev F.yH:FuncId:=89
abbrev F.Co:FuncId:=91
abbrev F.zH:FuncId:=92
abbrev F.kT:FuncId:=93
abbrev F.Cp:FuncId:=94
abbrev F.c:FuncId:=95
abbrev F.p:FuncId:=96
abbrev F.am:FuncId:=97
abbrev F.dl:FuncId:=98
abbrev F.Cq:FuncId:=99
abbrev F.l2:FuncId:=100
abbrev F.y:FuncId:=101
abbrev F.Cr:FuncId:=102
abbrev F.Cs:FuncId:=103
abbrev F.nH:FuncId:=104
abbrev F.Ct:FuncId:=105
abbrev F.AS:FuncId:=108
abbrev F.EL:FuncId:=113
abbrev F.EM:FuncId:=114
abbrev F.EI:FuncId:=115
abbrev F.EP:FuncId:=116
abbrev F.yC:FuncId:=117
abbrev F.AU:FuncId:=118
abbrev F.ES:FuncId:=119
abbrev F.A2:FuncId:=120
abbrev F.qx:FuncId:=121
abbrev F.Cu:FuncId:=122
abbrev F.b:FuncId:=123
abbrev F.bv:FuncId:=124
abbrev F.z:FuncId:=125
abbrev F.Cv:FuncId:=126
abbrev F.Cw:FuncId:=127
abbrev F.om:FuncId:=128
abbrev F.ky:FuncId:=129
abbrev F.bW:FuncId:=130
abbrev F.EC:FuncId:=134
abbrev F.EE:FuncId:=135
abbrev F.EB:FuncId:=136
abbrev F.EF:FuncId:=137
abbrev F.rN:FuncId:=138
abbrev F.ap:FuncId:=139
abbrev F.d3:FuncId:=140
abbrev F.d4:FuncId:=141
abbrev F.jv:FuncId:=142
abbrev F.j:FuncId:=143
abbrev F.qy:FuncId:=144
abbrev F.KM:FuncId:=145
abbrev F.KN:FuncId:=146
abbrev F.d5:FuncId:=147
abbrev F.d6:FuncId:=148
abbrev F.CW:FuncId:=149
abbrev F.CX:FuncId:=150
abbrev F.l0:FuncId:=151
abbrev F.yF:FuncId:=152
abbrev F.EG:FuncId:=153
abbrev F.yE:FuncId:=155
abbrev F.AN:FuncId:=156
abbrev F.Em:FuncId:=157
abbrev F.Ei:FuncId:=158
abbrev F.Eh:FuncId:=159
abbrev F.EK:FuncId:=160
abbrev F.EO:FuncId:=161
abbrev F.wN:FuncId:=162
abbrev F.EN:FuncId:=163
abbrev F.rI:FuncId:=164
abbrev F.bC:FuncId:=165
abbrev F.cp:FuncId:=166
abbrev F.b4:FuncId:=167
abbrev F.cN:FuncId:=168
abbrev F.oZ:FuncId:=169
abbrev F.dO:FuncId:=170
abbrev F.fl:FuncId:=171
abbrev F.l1:FuncId:=172
abbrev F.kU:FuncId:=173
abbrev F.Cz:FuncId:=174
abbrev F.CA:FuncId:=175
abbrev F.hv:FuncId:=176
abbrev F.CB:FuncId:=177
abbrev F.GX:FuncId:=178
abbrev F.gf:FuncId:=179
abbrev F.CC:FuncId:=180
abbrev F.qA:FuncId:=181
abbrev F.CD:FuncId:=182
abbrev F.kz:FuncId:=183
abbrev F.pW:FuncId:=184
abbrev F.oq:FuncId:=185
abbrev F.el:FuncId:=186
abbrev F.em:FuncId:=187
abbrev F.Eo:FuncId:=190
abbrev F.AO:FuncId:=191
abbrev F.uZ:FuncId:=192
abbrev F.uY:FuncId:=193
abbrev F.En:FuncId:=194
abbrev F.Ev:FuncId:=195
abbrev F.Ew:FuncId:=196
abbrev F.Ey:FuncId:=197
abbrev F.tj:FuncId:=198
abbrev F.AM:FuncId:=199
abbrev F.kB:FuncId:=202
abbrev F.lr:FuncId:=203
abbrev F.o0:FuncId:=204
abbrev F.q2:FuncId:=207
abbrev F.yI:FuncId:=208
abbrev F.wL:FuncId:=209
abbrev F.r6:FuncId:=210
abbrev F.AJ:FuncId:=211
abbrev F.Ed:FuncId:=212
abbrev F.Ee:FuncId:=213
abbrev F.AV:FuncId:=214
abbrev F.AW:FuncId:=215
abbrev F.AX:FuncId:=216
abbrev F.GY:FuncId:=217
abbrev F.zM:FuncId:=218
abbrev F.CM:FuncId:=219
abbrev F.sC:FuncId:=220
abbrev F.zN:FuncId:=221
abbrev F.bo:FuncId:=222
abbrev F.fn:FuncId:=223
abbrev F.CN:FuncId:=224
abbrev F.ex:FuncId:=225
abbrev F.xT:FuncId:=226
abbrev F.sM:FuncId:=227
abbrev F.a0:FuncId:=228
abbrev F.dQ:FuncId:=229
abbrev F.bR:FuncId:=230
abbrev F.aW:FuncId:=231
abbrev F.Ep:FuncId:=232
abbrev F.yG:FuncId:=233
abbrev F.Er:FuncId:=234
abbrev F.Ef:FuncId:=235
abbrev F.Ej:FuncId:=236
abbrev F.Ek:FuncId:=237
abbrev F.El:FuncId:=238
abbrev F.ig:FuncId:=241
abbrev F.yz:FuncId:=252
abbrev F.GZ:FuncId:=253
abbrev F.iE:FuncId:=254
abbrev F.ub:FuncId:=255
abbrev F.a3:FuncId:=256
abbrev F.cl:FuncId:=257
abbrev F.xU:FuncId:=258
abbrev F.zO:FuncId:=259
abbrev F.fd:FuncId:=260
abbrev F.xM:FuncId:=261
abbrev F.a4:FuncId:=262
abbrev F.co:FuncId:=263
abbrev F.l:FuncId:=264
abbrev F.zQ:FuncId:=265
abbrev F.zR:FuncId:=266
abbrev F.kh:FuncId:=267
abbrev F.cs:FuncId:=268
abbrev F.o6:FuncId:=269
abbrev F.mZ:FuncId:=270
abbrev F.CR:FuncId:=271
abbrev F.fy:FuncId:=272
abbrev F.a5:FuncId:=273
abbrev F.lZ:FuncId:=274
abbrev F.uW:FuncId:=275
abbrev F.Et:FuncId:=276
abbrev F.AK:FuncId:=277
abbrev F.yB:FuncId:=278
abbrev F.Eg:FuncId:=279
abbrev F.wK:FuncId:=280
abbrev F.r5:FuncId:=281
abbrev F.AL:FuncId:=282
abbrev F.yA:FuncId:=297
abbrev F.da:FuncId:=298
abbrev F.sH:FuncId:=299
abbrev F.bP:FuncId:=300
abbrev F.fM:FuncId:=301
abbrev F.c1:FuncId:=302
abbrev F.Eu:FuncId:=303
abbrev F.AQ:FuncId:=304
abbrev F.yD:FuncId:=305
abbrev G.Wu:Nat:=0
theorem mC:Tryz.prog.follows .mixedOrders=true:=by kernel_rfl
theorem bL{f:FuncId}{L:nD}{args:List Value}{R:Value->World->Prop}{w:World}(aw:l3 Tryz.prog f=some L)(h:dV Tryz.prog L.code (rM L.res R ⟨⟩) (hY args 0) w ⟨⟩)(bj:args.length<=L.n:=by exact Nat.le_of_ble_eq_true rfl):bu Tryz.prog f args.toArray w R:=K.start mC aw bj h
abbrev bH(f:FuncId)(c:nD):Prop:=l3 Tryz.prog f=some c
theorem bI{f:FuncId}{c:nD}(h:l3 Tryz.prog f=some c):bH f c:=h
theorem E.EU:bH F.EU ⟨140,[.tmp 8], (J [aG 4 (.box T.b (ab 0)),ai 8 (bU false)] (.seq (J [bd 21 5 4,aY 22 F.Ez [21],bc 23 (.un .not (ab 22)),I 24 23,ao 24 (I 25 1),ao 24 (bK 26 25),ao 24 (az .gtr T.a 27 26 200),ch 28 24 27,I 29 28,ao 29 (bd 30 5 4),ao 29 (I 31 1),ao 29 (aY 32 F.EJ [30,31]),ao 29 (bc 33 (.un .not (ab 32))),ch 34 29 33] (aF 34 (J [aY 35 F.u0 [],I 8 35] .ret) .skip)) (J [bd 36 5 4,aY 37 F.AR [36],bK 38 37,I 9 38] (J [bd 39 5 4,aY 40 F.gn [39],I 10 40] (.seq (J [I 41 10,bK 42 41,I 43 9,bl .neq T.a 44 42 43] (aF 44 (J [ai 8 (bU false)] .ret) .skip)) (.seq (J [I 45 9,az .eql T.a 46 45 0] (aF 46 (J [aY 47 F.u0 [],I 8 47] .ret) .skip)) (.seq (.dP [I 48 2,bc 49 (.tR .i64 (ab 48)),I 50 9,bl .rem T.a 51 49 50,I 52 3,bc 53 (.tR .i64 (ab 52)),I 54 9,bl .rem T.a 55 53 54,I 11 51,I 12 55]) (.seq (J [I 56 10,I 57 11,bn 58 1 56 57,ae 59 58,bK 60 59,I 61 9,bl .neq T.a 62 60 61] (aF 62 (J [ai 8 (bU false)] .ret) .skip)) (.seq (J [I 63 10,I 64 11,bn 65 1 63 64,ae 66 65,I 67 12,bn 68 1 66 67,ae 69 68,I 70 69,ao 70 (bd 71 5 4),ao 70 (I 72 1),ao 70 (I 73 11),ao 70 (aY 74 F.AY [71,72,73]),ao 70 (bc 75 (.un .not (ab 74))),ch 76 70 75,I 77 76,ao 77 (bd 78 5 4),ao 77 (I 79 1),ao 77 (I 80 12),ao 77 (aY 81 F.AY [78,79,80]),ao 77 (bc 82 (.un .not (ab 81))),ch 83 77 82] (aF 83 (J [aY 84 F.u0 [],I 8 84] .ret) .skip)) (J [bd 86 5 4,I 87 1,I 88 11,dd 89 (.fn F.wM [(ab 86),(ab 87),(ab 88),(aj 0)]),I 85 89,bD 90 85 0,bD 91 85 1,I 13 90,I 14 91] (J [bd 93 5 4,I 94 1,I 95 12,dd 96 (.fn F.wM [(ab 93),(ab 94),(ab 95),(aj 0)]),I 92 96,bD 97 92 0,bD 98 92 1,I 15 97,I 16 98] (J [bd 100 5 4,I 101 13,I 102 12,dd 103 (.fn F.wM [(ab 100),(ab 101),(ab 102),(aj 0)]),I 99 103,bD 104 99 0,bD 105 99 1,I 17 104,I 18 105] (J [bd 107 5 4,I 108 15,I 109 11,dd 110 (.fn F.wM [(ab 107),(ab 108),(ab 109),(aj 0)]),I 106 110,bD 111 106 0,bD 112 106 1,I 19 111,I 20 112] (J [I 113 11,I 114 12,bl .neq T.a 115 113 114,I 116 115,aV 116 (I 117 14),aV 116 (az .eql T.d 118 117 0),de 119 116 118,I 120 119,aV 120 (I 121 16),aV 120 (az .eql T.d 122 121 0),de 123 120 122,I 124 123,aV 124 (I 125 18),aV 124 (az .eql T.d 126 125 0),de 127 124 126,I 128 127,aV 128 (I 129 20),aV 128 (az .eql T.d 130 129 0),de 131 128 130,I 132 131,aV 132 (I 133 17),aV 132 (I 134 19),aV 132 (aY 135 F.EV [133,134]),de 136 132 135,I 137 136,aV 137 (aY 138 F.u0 []),de 139 137 138,I 8 139] .ret))))))))))))))⟩:=bI (by kernel_rfl)
theorem E.Ez:bH F.Ez ⟨96,[.tmp 2], (J [aG 1 (.box T.b (ab 0)),ai 2 (bU false)] (.seq (J [ah 6 0 1,ae 7 6,bK 8 7,az .gtr T.a 9 8 8,I 10 9,ao 10 (ah 11 1 1),ao 10 (ae 12 11),ao 10 (bK 13 12),ao 10 (az .gtr T.a 14 13 20),ch 15 10 14,I 16 15,ao 16 (ah 17 2 1),ao 16 (ae 18 17),ao 16 (bK 19 18),ao 16 (az .gtr T.a 20 19 8),ch 21 16 20,I 22 21,ao 22 (ah 23 3 1),ao 22 (ae 24 23),ao 22 (bK 25 24),ao 22 (az .gtr T.a 26 25 10),ch 27 22 26,I 28 27,ao 28 (ah 29 4 1),ao 28 (ae 30 29),ao 28 (bK 31 30),ao 28 (az .gtr T.a 32 31 16),ch 33 28 32] (aF 33 (J [ai 2 (bU false)] .ret) .skip)) (.seq (J [ai 3 (aj 0)] (.aX 0 (.loop (.seq (J [I 34 3,ah 35 3 1,ae 36 35,bK 37 36,bl .lss T.a 38 34 37] (aF 38 .skip (.exit 0))) (.seq (.aX 1 (.seq (J [ah 41 3 1,ae 42 41,I 43 3,bn 44 5 42 43,ah 45 3 44,ae 46 45,bK 47 46,az .gtr T.a 48 47 10,I 49 48,ao 49 (ah 50 3 1),ao 49 (ae 51 50),ao 49 (I 52 3),ao 49 (bn 53 5 51 52),ao 49 (ah 54 4 53),ao 49 (ae 55 54),ao 49 (bK 56 55),ao 49 (az .gtr T.a 57 56 16),ch 58 49 57] (aF 58 (J [ai 2 (bU false)] .ret) .skip)) (J [ai 4 (aj 0)] (.aX 2 (.loop (.seq (J [I 59 4,ah 60 3 1,ae 61 60,I 62 3,bn 63 5 61 62,ah 64 4 63,ae 65 64,bK 66 65,bl .lss T.a 67 59 66] (aF 67 .skip (.exit 2))) (.seq (.aX 3 (J [ah 70 3 1,ae 71 70,I 72 3,bn 73 5 71 72,ah 74 4 73,ae 75 74,I 76 4,bn 77 6 75 76,bd 78 6 77,aY 79 F.ED [78],bc 80 (.un .not (ab 79))] (aF 80 (J [ai 2 (bU false)] .ret) .skip))) (.bO [I 68 4,az .add T.a 69 68 1,I 4 69])))))))) (.bO [I 39 3,az .add T.a 40 39 1,I 3 40])))))) (.seq (J [ai 5 (aj 0)] (.aX 4 (.loop (.seq (J [I 81 5,ah 82 4 1,ae 83 82,bK 84 83,bl .lss T.a 85 81 84] (aF 85 .skip (.exit 4))) (.seq (.aX 5 (J [ah 88 4 1,ae 89 88,I 90 5,bn 91 2 89 90,ah 92 1 91,ae 93 92,bK 94 93,az .gtr T.a 95 94 60] (aF 95 (J [ai 2 (bU false)] .ret) .skip))) (.bO [I 86 5,az .add T.a 87 86 1,I 5 87])))))) (J [ai 2 (bU true)] .ret)))))⟩:=bI (by kernel_rfl)
theorem E.u0:bH F.u0 ⟨85,[.tmp 0], (J [ai 0 (bU false)] (J [dd 4 (.fn F.A3 [(.const (.string ⟨#[80]⟩))]),dd 5 (.fn F.A3 [(.const (.string ⟨#[81]⟩))]),aG 6 (.dj T.h 2 5 [cK,au,au,aH,aH,cK,au,au,aH,aH] [(0,(ab 4)),(1,(ab 5))]),bc 7 (.cW [aH,aH,aH,aH,aH] [(0,1),(1,1),(2,1),(3,1),(4,1)] [(3,(ab 6))]),aG 1 (.new T.b (.agg #[aH,aH,aH,aH,aH])),cg 5 1 7] (J [bd 8 5 1,aY 9 F.gn [8],I 2 9] (J [bc 10 (.cW [cK,au,au,aH,aH,(.bool false)] [(0,1),(1,1),(2,1),(3,1),(4,1),(5,1)] [(0,(.const (.string ⟨#[103,111]⟩))),(1,(aj 1))]),aG 11 (.dj T.n 1 6 [cK,au,au,aH,aH,(.bool false)] [(0,(ab 10))]),bc 12 (.cW [cK,au,au,aH,aH] [(0,1),(1,1),(2,1),(3,1),(4,1)] [(0,(.const (.string ⟨#[80]⟩))),(2,(aj 2)),(4,(ab 11))]),aG 13 (.dj T.h 1 5 [cK,au,au,aH,aH] [(0,(ab 12))]),bc 14 (.cW [aH,aH,aH,aH,aH] [(0,1),(1,1),(2,1),(3,1),(4,1)] [(3,(ab 13))]),aG 3 (.new T.b (.agg #[aH,aH,aH,aH,aH])),cg 5 3 14] (.seq (J [I 15 2,bK 16 15,az .neq T.a 17 16 2,I 18 17,ao 18 (I 19 2),ao 18 (bc 20 (.gB 1 (ab 19) (aj 0))),ao 18 (ae 21 20),ao 18 (bK 22 21),ao 18 (az .neq T.a 23 22 2),ch 24 18 23,I 25 24,ao 25 (I 26 2),ao 25 (bc 27 (.gB 1 (ab 26) (aj 1))),ao 25 (ae 28 27),ao 25 (bK 29 28),ao 25 (az .neq T.a 30 29 2),ch 31 25 30] (aF 31 (J [ai 0 (bU false)] .ret) .skip)) (J [I 32 2,bc 33 (.gB 1 (ab 32) (aj 0)),ae 34 33,bc 35 (.gB 1 (ab 34) (aj 0)),ae 36 35,I 37 36,aV 37 (I 38 2),aV 37 (bc 39 (.gB 1 (ab 38) (aj 0))),aV 37 (ae 40 39),aV 37 (bc 41 (.gB 1 (ab 40) (aj 1))),aV 37 (ae 42 41),aV 37 (bc 43 (.un .not (ab 42))),de 44 37 43,I 45 44,aV 45 (I 46 2),aV 45 (bc 47 (.gB 1 (ab 46) (aj 1))),aV 45 (ae 48 47),aV 45 (bc 49 (.gB 1 (ab 48) (aj 0))),aV 45 (ae 50 49),aV 45 (bc 51 (.un .not (ab 50))),de 52 45 51,I 53 52,aV 53 (bd 54 5 1),aV 53 (dd 55 (.fn F.n [(ab 54),(aj 0),(aj 0)])),de 56 53 55,I 57 56,aV 57 (bd 58 5 1),aV 57 (dd 59 (.fn F.n [(ab 58),(aj 1),(aj 0)])),de 60 57 59,I 61 60,aV 61 (bd 62 5 1),aV 61 (dd 63 (.fn F.n [(ab 62),(aj 2),(aj 0)])),aV 61 (bc 64 (.un .not (ab 63))),de 65 61 64,I 66 65,aV 66 (bd 67 5 1),aV 66 (dd 68 (.fn F.n [(ab 67),(aj 0),(aj 2)])),aV 66 (bc 69 (.un .not (ab 68))),de 70 66 69,I 71 70,aV 71 (bd 72 5 1),aV 71 (dd 73 (.fn F.u [(ab 72),(aj 0)])),aV 71 (bc 74 (.un .not (ab 73))),de 75 71 74,I 76 75,aV 76 (bd 77 5 3),aV 76 (dd 78 (.fn F.u [(ab 77),(aj 0)])),de 79 76 78,I 80 79,aV 80 (bd 81 5 1),aV 80 (dd 82 (.fn F.u [(ab 81),(aj 2)])),aV 80 (bc 83 (.un .not (ab 82))),de 84 80 83,I 0 84] .ret))))))⟩:=bI (by kernel_rfl)
theorem E.gn:bH F.gn ⟨50,[.tmp 2], (J [aG 1 (.box T.b (ab 0)),ai 2 (.const aH)] (.seq (J [bd 7 5 1,aY 8 F.h [7],bc 9 (.jg 0 (ab 8)),az .neq T.d 10 9 0] (aF 10 (J [ai 2 (.const aH)] .ret) .skip)) (J [bd 11 5 1,aY 12 F.zC [11],I 3 12] (J [I 13 3,bK 14 13,aG 15 (.qc T.z 1 24 aH (ab 14) (ab 14)),I 4 15] (.seq (J [I 16 3,bK 17 16,ai 18 (aj 0)] (.aX 0 (.loop (J [bl .lss T.a 19 18 17] (eW 19 0
 (.seq (.aX 1 (J [I 20 18,I 5 20] (J [I 21 4,I 22 5,I 23 3,bK 24 23,aG 25 (.qc T.p 1 1 (.bool false) (ab 24) (ab 24)),bn 26 1 21 22,ys 26 25] (J [I 27 3,bK 28 27,ai 29 (aj 0)] (.aX 2 (.loop (J [bl .lss T.a 30 29 28] (eW 30 2
 (.seq (.aX 3 (J [I 31 29,I 6 31] (.ec (an (I 32 4) (an (I 33 5) (an (bn 34 1 32 33) (an (ae 35 34) (an (I 36 6) (an (I 37 3) (an (I 38 5) (an (bn 39 2 37 38) (an (bd 40 2 39) (an (I 41 3) (an (I 42 6) (an (bn 43 2 41 42) (an (bd 44 2 43) (.alt (aY 45 F.zD [40,44]) (an (bn 46 1 35 36) (.b0 (ys 46 45) .done .nil)) .nil))))))))))))))))) (e9 T.a 47 29)))))))))) (e9 T.a 48 18))))))) (J [I 49 4,I 2 49] .ret))))))⟩:=bI (by kernel_rfl)
theorem E.u:bH F.u ⟨50,[.tmp 4], (J [aG 2 (.box T.b (ab 0)),ai 4 (bU false)] (.seq (J [bd 10 5 2,aY 11 F.h [10],bc 12 (.jg 0 (ab 11)),az .neq T.d 13 12 0] (aF 13 (J [ai 4 (bU false)] .ret) .skip)) (J [bd 14 5 2,aY 15 F.d [14],I 5 15] (.seq (J [I 16 1,az .lss T.a 17 16 0,I 18 17,ao 18 (I 19 1),ao 18 (I 20 5),ao 18 (bK 21 20),ao 18 (bl .geq T.a 22 19 21),ch 23 18 22] (aF 23 (J [ai 4 (bU false)] .ret) .skip)) (.seq (.ec (an (bd 24 5 2) (an (bd 25 5 2) (an (I 27 5) (an (I 28 1) (an (bn 29 2 27 28) (an (bd 30 2 29) (.alt (aY 26 F.a [25]) (.b0 (aY 31 F.i [24,26,30]) (.alt (aG 6 (.new T.n (.agg #[cK,au,au,aH,aH,(.bool false)]))) (.b0 (cg 6 6 31) .done .nil) .nil) (.alt (aG 6 (.new T.n (.agg #[cK,au,au,aH,aH,(.bool false)]))) (.b0 (aY 31 F.i [24,26,30]) (.b0 (cg 6 6 31) .done .nil) .nil) .nil)) (.alt (aG 6 (.new T.n (.agg #[cK,au,au,aH,aH,(.bool false)]))) (.alt (aY 26 F.a [25]) (.b0 (aY 31 F.i [24,26,30]) (.b0 (cg 6 6 31) .done .nil) .nil) .nil) .nil))))))))) (J [bd 33 5 2,I 34 1,aY 35 F.oY [33,34],I 32 35,bD 36 32 0,bD 37 32 1,I 7 36,I 8 37] (J [bd 38 5 2,aY 39 F.qE [38],aG 9 (.new T.z aH),ys 9 39] (J [ah 40 2 6,ae 41 40,ah 42 1 6,ae 43 42,bl .leq T.a 44 41 43,I 45 44,ao 45 (I 46 8),ao 45 (bc 47 (.jG F.w [] [(ab 9)])),ao 45 (aY 48 F.bi [46,47]),ch 49 45 48,I 4 49] .ret))))))))⟩:=bI (by kernel_rfl)
theorem E.EJ:bH F.EJ ⟨14,[.tmp 4], (J [aG 2 (.box T.b (ab 0)),ai 4 (bU false)] (.seq (.ec (an (bd 5 5 2) (.alt (aY 6 F.EA [5]) (an (I 7 6) (an (aV 7 (bd 8 5 2)) (an (aV 7 (bd 9 5 2)) (an (aV 7 (I 11 1)) (.alt (aV 7 (aY 10 F.EH [9])) (.b0 (aV 7 (aY 12 F.AT [8,10,11])) (an (de 13 7 12) (an (I 4 13) .done)) .nil) .nil))))) .nil))) .ret))⟩:=bI (by kernel_rfl)
theorem E.AR:bH F.AR ⟨37,[.tmp 2], (J [aG 1 (.box T.b (ab 0)),ai 2 (.const aH)] (J [bd 7 5 1,aY 8 F.uX [7],I 3 8] (J [ai 4 (.const aH)] (.seq (J [ai 5 (aj 0)] (.aX 0 (.loop (.seq (J [I 9 5,I 10 3,bK 11 10,bl .lss T.a 12 9 11] (aF 12 .skip (.exit 0))) (.seq (.aX 1 (J [ai 6 (aj 0)] (.aX 2 (.loop (.seq (.seq (.dP [I 15 6,ah 16 3 1,ae 17 16,I 18 3,I 19 5,bn 20 2 18 19,ah 21 0 20,ae 22 21,bn 23 5 17 22,ah 24 4 23,ae 25 24,bK 26 25,bl .lss T.a 27 15 26]) (aF 27 .skip (.exit 2))) (.seq (.aX 3 (.bO [I 30 4,I 31 5,I 32 6,bc 33 (.cW [au,au] [(0,1),(1,1)] [(0,(ab 31)),(1,(ab 32))]),aG 34 (.dj T.l 1 2 [au,au] [(0,(ab 33))]),aG 35 (.app T.u T.l 2 16 (ab 30) (ab 34)),I 4 35])) (.bO [I 28 6,az .add T.a 29 28 1,I 6 29]))))))) (.bO [I 13 5,az .add T.a 14 13 1,I 5 14])))))) (J [I 36 4,I 2 36] .ret)))))⟩:=bI (by kernel_rfl)
theorem E.AY:bH F.AY ⟨37,[.tmp 6], (J [aG 3 (.box T.b (ab 0)),ai 6 (bU false)] (J [bd 10 5 3,aY 11 F.AZ [10],I 9 11,bD 12 9 0,bD 13 9 1,aG 7 (.new T.q3 (.agg #[aH,aH,aH,aH,aH,aH,aH,aH,au,aH,aH,aH,aH])),cg 13 7 12,I 8 13] (J [I 14 8,I 15 14,aV 15 (bd 16 13 7),aV 15 (I 17 1),aV 15 (aY 18 F.A0 [16,17]),de 19 15 18,I 20 19,aV 20 (I 21 2),aV 20 (az .geq T.a 22 21 0),de 23 20 22,I 24 23,aV 24 (I 25 2),aV 24 (ah 26 12 7),aV 24 (ae 27 26),aV 24 (bK 28 27),aV 24 (bl .lss T.a 29 25 28),de 30 24 29,I 31 30,aV 31 (bd 32 13 7),aV 31 (I 33 1),aV 31 (I 34 2),aV 31 (aY 35 F.ER [32,33,34]),de 36 31 35,I 6 36] .ret)))⟩:=bI (by kernel_rfl)
theorem E.wM:bH F.wM ⟨81,[.tmp 8,.tmp 9], (J [aG 4 (.box T.b (ab 0)),ai 8 (.const aH),ai 9 (aj 0)] (J [bd 17 5 4,aY 18 F.AZ [17],I 16 18,bD 19 16 0,bD 20 16 1,aG 10 (.new T.q3 (.agg #[aH,aH,aH,aH,aH,aH,aH,aH,au,aH,aH,aH,aH])),cg 13 10 19,I 11 20] (.seq (.seq (.ec (an (I 21 11) (an (bc 22 (.un .not (ab 21))) (an (I 23 22) (an (ao 23 (bd 24 13 10)) (an (ao 23 (I 25 1)) (.alt (ao 23 (aY 26 F.A0 [24,25])) (an (ao 23 (bc 27 (.un .not (ab 26)))) (an (ch 28 23 27) (an (I 29 28) (an (ao 29 (I 30 2)) (an (ao 29 (az .lss T.a 31 30 0)) (an (ch 32 29 31) (an (I 33 32) (an (ao 33 (I 34 2)) (an (ao 33 (ah 35 12 10)) (an (ao 33 (ae 36 35)) (an (ao 33 (bK 37 36)) (an (ao 33 (bl .geq T.a 38 34 37)) (an (ch 39 33 38) (an (I 40 39) (an (ao 40 (I 41 3)) (an (ao 40 (az .lss T.a 42 41 0)) (an (ch 43 40 42) (an (I 44 43) (an (ao 44 (I 45 3)) (an (ao 44 (bd 46 13 10)) (an (ao 44 (I 47 2)) (an (ao 44 (ah 49 2 4)) (an (ao 44 (ae 50 49)) (.alt (ao 44 (aY 48 F.yJ [46,47])) (.b0 (ao 44 (aY 51 F.Es [48,50])) (an (ao 44 (bl .geq T.a 52 45 51)) (an (ch 53 44 52) .done)) .nil) .nil)))))))))))))))))))))))) .nil))))))) (aF 53 (J [ai 8 (.const aH),ai 9 (aj 2)] .ret) .skip)) (J [bd 55 13 10,I 56 1,I 57 2,aY 58 F.A1 [55,56,57],I 54 58,bD 59 54 0,bD 60 54 1,I 12 59,I 13 60] (.seq (J [I 61 13,bc 62 (.un .not (ab 61))] (aF 62 (J [ai 8 (.const aH),ai 9 (aj 15)] .ret) .skip)) (.seq (J [I 63 3,az .eql T.a 64 63 1] (aF 64 (J [bd 66 13 10,I 67 2,aY 68 F.yJ [66,67],aY 69 F.AP [68],I 65 69,bD 70 65 0,bD 71 65 1,I 14 70,I 15 71] (.ec (an (bd 72 13 10) (an (I 73 12) (an (I 74 15) (an (bd 75 13 10) (an (I 76 1) (an (I 77 15) (.alt (aY 78 F.yK [75,76,77]) (.b0 (aY 79 F.yL [72,73,74,78]) (an (I 12 79) .done) .nil) .nil))))))))) .skip)) (J [I 80 12,I 8 80,ai 9 (aj 0)] .ret)))))))⟩:=bI (by kernel_rfl)
theorem E.EV:bH F.EV ⟨26,[.tmp 4], (J [ai 4 (bU false)] (.seq (J [I 6 0,bK 7 6,I 8 1,bK 9 8,bl .neq T.a 10 7 9] (aF 10 (J [ai 4 (bU false)] .ret) .skip)) (.seq (J [ai 5 (aj 0)] (.aX 0 (.loop (.seq (J [I 11 5,I 12 0,bK 13 12,bl .lss T.a 14 11 13] (aF 14 .skip (.exit 0))) (.seq (.aX 1 (.seq (.dP [I 17 0,I 18 5,bn 19 1 17 18,ae 20 19,I 21 1,I 22 5,bn 23 1 21 22,ae 24 23,bl .neq T.a 25 20 24]) (aF 25 (J [ai 4 (bU false)] .ret) .skip))) (.bO [I 15 5,az .add T.a 16 15 1,I 5 16])))))) (J [ai 4 (bU true)] .ret))))⟩:=bI (by kernel_rfl)
theorem E.uX:bH F.uX ⟨43,[.tmp 2], (J [aG 1 (.box T.b (ab 0)),ai 2 (.const aH)] (J [ai 3 (.const aH)] (.seq (J [ai 4 (aj 0)] (.aX 0 (.loop (.seq (J [I 6 4,ah 7 3 1,ae 8 7,bK 9 8,bl .lss T.a 10 6 9] (aF 10 .skip (.exit 0))) (.seq (.aX 1 (.seq (J [ah 13 3 1,ae 14 13,I 15 4,bn 16 5 14 15,ah 17 1 16,ae 18 17,az .eql T.a 19 18 0] (aF 19 (.bO [I 20 3,I 21 4,bc 22 (.cW [au,au] [(0,1),(1,1)] [(0,(ab 21))]),aG 23 (.dj T.k 1 2 [au,au] [(0,(ab 22))]),aG 24 (.app T.qx T.k 2 16 (ab 20) (ab 23)),I 3 24]) .skip)) (J [ai 5 (aj 1)] (.aX 2 (.loop (.seq (.seq (.dP [I 25 5,bd 26 5 1,ah 27 3 1,ae 28 27,I 29 4,bn 30 5 28 29,bd 31 5 30,aY 32 F.Ex [26,31],bl .leq T.a 33 25 32]) (aF 33 .skip (.exit 2))) (.seq (.aX 3 (.bO [I 36 3,I 37 4,I 38 5,bc 39 (.cW [au,au] [(0,1),(1,1)] [(0,(ab 37)),(1,(ab 38))]),aG 40 (.dj T.k 1 2 [au,au] [(0,(ab 39))]),aG 41 (.app T.qx T.k 2 16 (ab 36) (ab 40)),I 3 41])) (.bO [I 34 5,az .add T.a 35 34 1,I 5 35])))))))) (.bO [I 11 4,az .add T.a 12 11 1,I 4 12])))))) (J [I 42 3,I 2 42] .ret))))⟩:=bI (by kernel_rfl)
theorem E.ED:bH F.ED ⟨45,[.tmp 2], (J [aG 1 (.box T.n (ab 0)),ai 2 (bU false)] (.seq (J [ah 4 0 1,ae 5 4,bc 6 (.nn (ab 5)),az .gtr T.a 7 6 60,I 8 7,ao 8 (ah 9 3 1),ao 8 (ae 10 9),ao 8 (bK 11 10),ao 8 (az .gtr T.a 12 11 60),ch 13 8 12,I 14 13,ao 14 (ah 15 4 1),ao 14 (ae 16 15),ao 14 (bK 17 16),ao 14 (az .gtr T.a 18 17 12),ch 19 14 18] (aF 19 (J [ai 2 (bU false)] .ret) .skip)) (.seq (J [ai 3 (aj 0)] (.aX 0 (.loop (.seq (J [I 20 3,ah 21 4 1,ae 22 21,bK 23 22,bl .lss T.a 24 20 23] (aF 24 .skip (.exit 0))) (.seq (.aX 1 (J [ah 27 4 1,ae 28 27,I 29 3,bn 30 5 28 29,ah 31 3 30,ae 32 31,bK 33 32,az .gtr T.a 34 33 60,I 35 34,ao 35 (ah 36 4 1),ao 35 (ae 37 36),ao 35 (I 38 3),ao 35 (bn 39 5 37 38),ao 35 (ah 40 4 39),ao 35 (ae 41 40),ao 35 (bK 42 41),ao 35 (az .gtr T.a 43 42 60),ch 44 35 43] (aF 44 (J [ai 2 (bU false)] .ret) .skip))) (.bO [I 25 3,az .add T.a 26 25 1,I 3 26])))))) (J [ai 2 (bU true)] .ret))))⟩:=bI (by kernel_rfl)
theorem E.xI:bH F.xI ⟨79,[.tmp 2,.tmp 3,.tmp 4], (J [aG 1 (.box T.b (ab 0)),ai 2 (aj 0),ai 3 (aj 0),ai 4 (aj 0)] (J [ai 5 (aj 0),ai 6 (aj 0),ai 7 (aj 0)] (.seq (J [ah 15 1 1,ae 16 15,bK 17 16,ai 18 (aj 0)] (.aX 0 (.loop (J [bl .lss T.a 19 18 17] (eW 19 0
 (.seq (.aX 1 (J [bn 20 6 16 18,bd 21 6 20,aG 9 (.new T.i (.agg #[cK,au,au,au,au,au])),cg 6 9 21] (.bO [I 22 7,bd 23 6 9,ah 24 0 1,ae 25 24,aY 26 F.x [23,25],bl .add T.a 27 22 26,I 7 27]))) (e9 T.a 28 18))))))) (.seq (J [ah 29 2 1,ae 30 29,bK 31 30,ai 32 (aj 0)] (.aX 2 (.loop (J [bl .lss T.a 33 32 31] (eW 33 2
 (.seq (.aX 3 (J [bn 34 6 30 32,bd 35 6 34,aG 11 (.new T.r (.agg #[cK,au,au,au,au,(.bool false)])),cg 6 11 35] (.bO [I 36 7,ah 37 2 11,ae 38 37,bc 39 (.tk (ab 38) (aj 0)),bc 40 (.u2 (ab 39) (aj 4)),bc 41 (.bin .add T.a (aj 1) (ab 40)),bl .add T.a 42 36 41,I 7 42]))) (e9 T.a 43 32))))))) (.seq (J [ah 44 3 1,ae 45 44,bK 46 45,ai 47 (aj 0)] (.aX 4 (.loop (J [bl .lss T.a 48 47 46] (eW 48 4
 (.seq (.aX 5 (J [bn 49 5 45 47,bd 50 5 49,aG 13 (.new T.h (.agg #[cK,au,au,aH,aH])),cg 5 13 50] (J [ah 51 1 13,ae 52 51,bc 53 (.cW [cK,au,au,au,au,au] [(0,1),(1,1),(2,1),(3,1),(4,1),(5,1)] [(2,(ab 52))]),ah 54 0 1,ae 55 54,aY 56 F.x [53,55],I 14 56] (J [I 57 5,I 58 14,bl .add T.a 59 57 58,I 5 59] (J [I 60 6,I 61 14,ah 62 4 13,ae 63 62,bK 64 63,bl .mul T.a 65 61 64,bl .add T.a 66 60 65,I 6 66] (.bO [I 67 7,I 68 14,ah 69 3 13,ae 70 69,bK 71 70,bc 72 (.bin .add T.a (aj 1) (ab 71)),bl .mul T.a 73 68 72,bl .add T.a 74 67 73,I 7 74])))))) (e9 T.a 75 47))))))) (J [I 76 5,I 77 6,I 78 7,I 2 76,I 3 77,I 4 78] .ret))))))⟩:=bI (by kernel_rfl)
theorem E.A3:bH F.A3 ⟨13,[.ie 5 2], (J [aG 2 (.new T.h (.agg #[cK,au,au,aH,aH]))] (J [I 3 0,bc 4 (.cW [cK,au,au,au,au,au] [(0,1),(1,1),(2,1),(3,1),(4,1),(5,1)] [(0,(.const (.string ⟨#[110]⟩))),(4,(aj 1))]),aG 5 (.dj T.i 1 6 [cK,au,au,au,au,au] [(0,(ab 4))]),bc 6 (.cW [au,au] [(0,1),(1,1)] [(0,(aj 1)),(1,(aj 1))]),aG 7 (.dj T.f 1 2 [au,au] [(0,(ab 6))]),bc 8 (.cW [au,au,au,aH,aH] [(0,1),(1,1),(2,1),(3,1),(4,1)] [(0,(aj 3)),(4,(ab 7))]),aG 9 (.dj T.q 1 5 [au,au,au,aH,aH] [(0,(ab 8))]),bc 10 (.cW [cK,au,au,aH,aH,(.bool false)] [(0,1),(1,1),(2,1),(3,1),(4,1),(5,1)] [(0,(.const (.string ⟨#[103,111]⟩))),(2,(aj 1)),(4,(ab 9))]),aG 11 (.dj T.n 1 6 [cK,au,au,aH,aH,(.bool false)] [(0,(ab 10))]),bc 12 (.cW [cK,au,au,aH,aH] [(0,1),(1,1),(2,1),(3,1),(4,1)] [(0,(ab 3)),(2,(aj 2)),(3,(ab 5)),(4,(ab 11))]),cg 5 2 12] .ret))⟩:=bI (by kernel_rfl)
theorem E.zC:bH F.zC ⟨27,[.tmp 2], (J [aG 1 (.box T.b (ab 0)),ai 2 (.const aH)] (J [ai 3 (.const aH)] (.seq (J [bd 7 5 1,aY 8 F.d [7],bK 9 8,ai 10 (aj 0)] (.aX 0 (.loop (J [bl .lss T.a 11 10 9] (eW 11 0
 (.seq (.aX 1 (J [I 12 10,I 4 12] (J [bd 14 5 1,I 15 4,aY 16 F.oY [14,15],I 13 16,bD 17 13 0,bD 18 13 1,I 5 17,I 6 18] (.bO [I 19 3,I 20 5,I 21 6,bc 22 (.cW [aH,aH] [(0,1),(1,1)] [(0,(ab 20)),(1,(ab 21))]),aG 23 (.dj T.oY 1 2 [aH,aH] [(0,(ab 22))]),aG 24 (.app T.sC T.oY 2 48 (ab 19) (ab 23)),I 3 24])))) (e9 T.a 25 10))))))) (J [I 26 3,I 2 26] .ret))))⟩:=bI (by kernel_rfl)
theorem E.zD:bH F.zD ⟨24,[.tmp 4], (J [aG 2 (.box T.oY (ab 0)),aG 3 (.box T.oY (ab 1)),ai 4 (bU false)] (J [ah 5 1 2,ae 6 5,ah 7 1 3,ae 8 7,aY 9 F.oi [6,8],I 10 9,ao 10 (ah 11 1 2),ao 10 (ae 12 11),ao 10 (ah 13 0 3),ao 10 (ae 14 13),ao 10 (aY 15 F.oi [12,14]),ch 16 10 15,I 17 16,ao 17 (ah 18 0 2),ao 17 (ae 19 18),ao 17 (ah 20 1 3),ao 17 (ae 21 20),ao 17 (aY 22 F.oi [19,21]),ch 23 17 22,I 4 23] .ret))⟩:=bI (by kernel_rfl)
theorem E.EA:bH F.EA ⟨7,[.tmp 2], (J [aG 1 (.box T.b (ab 0)),ai 2 (bU false)] (J [bd 3 5 1,aY 4 F.yH [3],bc 5 (.jg 0 (ab 4)),az .eql T.d 6 5 0,I 2 6] .ret))⟩:=bI (by kernel_rfl)
theorem E.a:bH F.a ⟨6,[.tmp 2], (J [aG 1 (.box T.b (ab 0)),ai 2 (.const aH)] (J [bd 3 5 1,aY 4 F.zH [3],aY 5 F.Co [4],I 2 5] .ret))⟩:=bI (by kernel_rfl)
theorem E.qD:bH F.qD ⟨8,[.tmp 6], (J [aG 3 (.box T.b (ab 0)),aG 4 (.box T.a (ab 1)),aG 5 (.box T.a (ab 2)),ai 6 (.const .nilFunc)] (J [bc 7 (.jG F.kT [] [(ab 3),(ab 4),(ab 5)]),I 6 7] .ret))⟩:=bI (by kernel_rfl)
theorem E.zE:bH F.zE ⟨8,[.tmp 3], (J [aG 2 (.box T.l (ab 0)),ai 3 (bU false)] (J [ah 4 0 2,ae 5 4,ae 6 1,bl .neq T.a 7 5 6,I 3 7] .ret))⟩:=bI (by kernel_rfl)
theorem E.i:bH F.i ⟨22,[.ie 6 6], (J [aG 3 (.box T.b (ab 0)),aG 5 (.box T.l (ab 2)),aG 6 (.new T.n (.agg #[cK,au,au,aH,aH,(.bool false)]))] (.seq (.ec (an (ah 7 3 3) (an (ae 8 7) (an (I 9 1) (an (ah 10 0 5) (an (ae 11 10) (an (bn 12 2 9 11) (an (ah 13 0 12) (an (ae 14 13) (an (bn 15 5 8 14) (an (ah 16 4 15) (an (ae 17 16) (an (ah 18 1 5) (an (ae 19 18) (an (bn 20 6 17 19) (an (bd 21 6 20) (.b0 (cg 6 6 21) .done .nil))))))))))))))))) .ret))⟩:=bI (by kernel_rfl)
theorem E.oY:bH F.oY ⟨57,[.tmp 4,.tmp 5], (J [aG 2 (.box T.b (ab 0)),ai 4 (.const aH),ai 5 (.const aH)] (J [bd 14 5 2,I 15 1,aY 16 F.Cp [14,15],I 13 16,bD 17 13 0,bD 18 13 1,bD 19 13 2,aG 7 (.new T.n (.agg #[cK,au,au,aH,aH,(.bool false)])),I 6 17,cg 6 7 18,I 8 19] (.seq (J [I 20 8,bc 21 (.un .not (ab 20))] (aF 21 (J [ai 4 (.const aH),ai 5 (.const aH)] .ret) .skip)) (J [aG 22 .r8,aG 23 .r8,I 9 22,I 10 23] (J [I 24 9,I 25 6,aY 26 F.p [25],dd 27 (.fn F.c [(ab 24),(ab 26),(aj 1)])] (J [I 28 10,I 29 6,aY 30 F.p [29],dd 31 (.fn F.c [(ab 28),(ab 30),(aj 1)])] (J [I 32 6,I 33 9,ah 34 3 7,ae 35 34,aY 36 F.am [32,33,35]] (.seq (J [ah 37 4 7,ae 38 37,bK 39 38,ai 40 (aj 0)] (.aX 0 (.loop (J [bl .lss T.a 41 40 39] (eW 41 0
 (.seq (.aX 1 (J [bn 42 5 38 40,bd 43 5 42,aG 12 (.new T.q (.agg #[au,au,au,aH,aH])),cg 5 12 43] (J [I 44 6,I 45 9,bd 46 5 12,aY 47 F.dl [44,45,46]] (.bO [I 48 6,I 49 10,bd 50 5 12,aY 51 F.Cq [48,49,50]])))) (e9 T.a 52 40))))))) (J [I 53 9,aY 54 F.l2 [53],I 55 10,aY 56 F.l2 [55],I 4 54,I 5 56] .ret)))))))))⟩:=bI (by kernel_rfl)
theorem E.qE:bH F.qE ⟨45,[.tmp 2], (J [aG 1 (.box T.b (ab 0)),ai 2 (.const aH)] (.seq (J [bd 10 5 1,aY 11 F.h [10],bc 12 (.jg 0 (ab 11)),az .neq T.d 13 12 0] (aF 13 (J [ai 2 (.const aH)] .ret) .skip)) (.seq (.ec (an (bd 14 5 1) (an (bd 16 5 1) (.alt (aY 15 F.y [14]) (.b0 (aY 17 F.a [16]) (.alt (aG 3 (.new T.g (.agg #[aH,aH,aH,au,aH,aH]))) (.b0 (cg 6 3 15) (an (I 4 17) .done) .nil) .nil) (.alt (aG 3 (.new T.g (.agg #[aH,aH,aH,au,aH,aH]))) (.b0 (aY 17 F.a [16]) (.b0 (cg 6 3 15) (an (I 4 17) .done) .nil) .nil) .nil)) (.alt (aG 3 (.new T.g (.agg #[aH,aH,aH,au,aH,aH]))) (.alt (aY 15 F.y [14]) (.b0 (aY 17 F.a [16]) (.b0 (cg 6 3 15) (an (I 4 17) .done) .nil) .nil) .nil) .nil))))) (J [ah 18 3 3,ae 19 18,aG 20 (.qc T.p 1 1 (.bool false) (ab 19) (ab 19)),aG 5 (.new T.z aH),ys 5 20] (.seq (J [ah 21 4 1,ae 22 21,bK 23 22,ai 24 (aj 0)] (.aX 0 (.loop (J [bl .lss T.a 25 24 23] (eW 25 0
 (.seq (.aX 1 (J [bn 26 2 22 24,bd 27 2 26,aG 7 (.new T.oi (.agg #[cK,aH])),cg 2 7 27] (J [ah 28 1 7,ae 29 28,aY 30 F.Cr [29],bK 31 30,ai 32 (aj 0)] (.aX 2 (.loop (J [bl .lss T.a 33 32 31] (eW 33 2
 (.seq (.aX 3 (J [bn 34 2 30 32,bd 35 2 34,aG 9 (.new T.f (.agg #[au,au])),cg 2 9 35] (.bO [bd 36 5 1,bd 37 6 3,I 38 4,bd 39 2 9,bc 40 (.jG F.nH [] [(ab 5)]),aY 41 F.Cs [36,37,38,39,40]]))) (e9 T.a 42 32))))))))) (e9 T.a 43 24))))))) (J [ae 44 5,I 2 44] .ret))))))⟩:=bI (by kernel_rfl)
theorem E.w:bH F.w ⟨8,[.tmp 3], (J [ai 3 (bU false)] (J [ae 4 1,I 5 0,bn 6 1 4 5,ae 7 6,I 3 7] .ret))⟩:=bI (by kernel_rfl)
theorem E.AT:bH F.AT ⟨45,[.tmp 6], (J [aG 3 (.box T.b (ab 0)),aG 4 (.box T.g (ab 1)),ai 6 (bU false)] (.seq (J [I 9 2,bK 10 9,ah 11 3 4,ae 12 11,bl .neq T.a 13 10 12] (aF 13 (J [ai 6 (bU false)] .ret) .skip)) (.seq (J [ai 7 (aj 0)] (.aX 0 (.loop (.seq (J [I 14 7,ah 15 2 3,ae 16 15,bK 17 16,bl .lss T.a 18 14 17] (aF 18 .skip (.exit 0))) (.seq (.aX 1 (J [ah 21 1 4,ae 22 21,I 23 7,bn 24 1 22 23,ae 25 24,I 8 25] (.seq (.dP [bd 26 5 3,I 27 2,I 28 8,I 29 8,ah 30 2 3,ae 31 30,I 32 7,bn 33 6 31 32,ah 34 2 33,ae 35 34,bl .add T.a 36 29 35,az .add T.a 37 36 1,bc 38 (.hQ 1 (ab 27) (some (ab 28)) (some (ab 37)) none),I 39 7,aY 40 F.EL [26,38,39],bc 41 (.un .not (ab 40))]) (aF 41 (J [ai 6 (bU false)] .ret) .skip)))) (.bO [I 19 7,az .add T.a 20 19 1,I 7 20])))))) (J [bd 42 6 4,I 43 2,aY 44 F.EM [42,43],I 6 44] .ret))))⟩:=bI (by kernel_rfl)
theorem E.EH:bH F.EH ⟨9,[.ie 6 2], (J [aG 1 (.box T.b (ab 0)),aG 2 (.new T.g (.agg #[aH,aH,aH,au,aH,aH]))] (.seq (J [bd 3 5 1,aY 4 F.EI [3],bc 5 (.un .not (ab 4))] (aF 5 (J [bc 6 (.cW [aH,aH,aH,au,aH,aH] [(0,1),(1,1),(2,1),(3,1),(4,1),(5,1)] []),cg 6 2 6] .ret) .skip)) (J [bd 7 5 1,aY 8 F.AS [7],cg 6 2 8] .ret)))⟩:=bI (by kernel_rfl)
theorem E.AZ:bH F.AZ ⟨13,[.ie 13 2,.tmp 3], (J [aG 1 (.box T.b (ab 0)),aG 2 (.new T.q3 (.agg #[aH,aH,aH,aH,aH,aH,aH,aH,au,aH,aH,aH,aH])),ai 3 (bU false)] (.seq (J [bd 4 5 1,aY 5 F.yH [4],bc 6 (.jg 0 (ab 5)),az .neq T.d 7 6 0] (aF 7 (J [bc 8 (.cW [aH,aH,aH,aH,aH,aH,aH,aH,au,aH,aH,aH,aH] [(0,5),(5,6),(11,1),(12,1)] []),cg 13 2 8,ai 3 (bU false)] .ret) .skip)) (.seq (.ec (an (bd 9 5 1) (an (bd 10 5 1) (.alt (aY 11 F.AS [10]) (.b0 (aY 12 F.EP [9,11]) (.b0 (cg 13 2 12) (an (ai 3 (bU true)) .done) .nil) .nil) .nil)))) .ret)))⟩:=bI (by kernel_rfl)
theorem E.A0:bH F.A0 ⟨11,[.tmp 4], (J [aG 2 (.box T.q3 (ab 0)),ai 4 (bU false)] (J [ah 5 0 2,bd 6 5 5,ah 7 5 2,bd 8 6 7,I 9 1,aY 10 F.AT [6,8,9],I 4 10] .ret))⟩:=bI (by kernel_rfl)
theorem E.ER:bH F.ER ⟨17,[.tmp 6], (J [aG 3 (.box T.q3 (ab 0)),ai 6 (bU false)] (J [bd 10 13 3,I 11 1,I 12 2,aY 13 F.A1 [10,11,12],I 9 13,bD 14 9 0,bD 15 9 1,I 7 14,I 8 15] (J [I 16 8,I 6 16] .ret)))⟩:=bI (by kernel_rfl)
theorem E.Es:bH F.Es ⟨31,[.tmp 4], (J [aG 2 (.box T.n (ab 0)),ai 4 (aj 0)] (J [bd 8 6 2,aY 9 F.AP [8],I 7 9,bD 10 7 0,bD 11 7 1,I 5 10,I 6 11] (.seq (J [I 12 5,az .eql T.a 13 12 4,I 14 13,aV 14 (I 15 6),aV 14 (az .geq T.a 16 15 0),de 17 14 16,I 18 17,aV 18 (I 19 6),aV 18 (I 20 1),aV 18 (bK 21 20),aV 18 (bl .lss T.a 22 19 21),de 23 18 22,I 24 23,aV 24 (I 25 1),aV 24 (I 26 6),aV 24 (bn 27 6 25 26),aV 24 (ah 28 5 27),aV 24 (ae 29 28),de 30 24 29] (aF 30 (J [ai 4 (aj 2)] .ret) .skip)) (J [ai 4 (aj 1)] .ret))))⟩:=bI (by kernel_rfl)
theorem E.yJ:bH F.yJ ⟨28,[.ie 6 4], (J [aG 2 (.box T.q3 (ab 0)),aG 4 (.new T.n (.agg #[cK,au,au,aH,aH,(.bool false)]))] (J [ah 6 12 2,ae 7 6,I 8 1,bn 9 2 7 8,bd 10 2 9,aG 5 (.new T.l (.agg #[au,au])),cg 2 5 10] (.seq (.ec (an (ah 11 0 2) (an (ah 12 3 11) (an (ae 13 12) (an (ah 14 11 2) (an (ae 15 14) (an (ah 16 0 5) (an (ae 17 16) (an (bn 18 2 15 17) (an (ah 19 0 18) (an (ae 20 19) (an (bn 21 5 13 20) (an (ah 22 4 21) (an (ae 23 22) (an (ah 24 1 5) (an (ae 25 24) (an (bn 26 6 23 25) (an (bd 27 6 26) (.b0 (cg 6 4 27) .done .nil))))))))))))))))))) .ret)))⟩:=bI (by kernel_rfl)
theorem E.A1:bH F.A1 ⟨96,[.tmp 6,.tmp 7], (J [aG 3 (.box T.q3 (ab 0)),ai 6 (.const aH),ai 7 (bU false)] (J [ah 16 12 3,ae 17 16,I 18 2,bn 19 2 17 18,bd 20 2 19,aG 8 (.new T.l (.agg #[au,au])),cg 2 8 20] (J [bd 21 13 3,I 22 2,aY 23 F.yJ [21,22],aG 9 (.new T.n (.agg #[cK,au,au,aH,aH,(.bool false)])),cg 6 9 23] (.seq (.seq (.dP [I 24 1,ah 25 5 3,ah 26 2 25,ae 27 26,ah 28 0 8,ae 29 28,bn 30 1 27 29,ae 31 30,bn 32 1 24 31,ae 33 32,ah 34 1 9,ae 35 34,bl .neq T.a 36 33 35]) (aF 36 (J [ai 6 (.const aH),ai 7 (bU false)] .ret) .skip)) (.seq (J [ah 37 3 9,ae 38 37,bK 39 38,az .gtr T.a 40 39 0] (aF 40 (.seq (.ec (an (ah 42 3 9) (an (ae 43 42) (an (ah 44 0 3) (an (bd 45 5 44) (an (ah 46 5 3) (an (bd 47 6 46) (an (I 48 1) (an (ah 49 0 8) (an (ae 50 49) (.alt (aY 51 F.AU [45,47,48,50]) (.b0 (aY 52 F.yC [43,51]) (an (I 41 52) (an (bD 53 41 0) (an (bD 54 41 1) (an (I 10 53) (an (I 11 54) .done))))) .nil) .nil))))))))))) (J [I 55 11,az .neq T.d 56 55 0,I 57 56,ao 57 (I 58 10),ao 57 (az .eql T.a 59 58 0),ch 60 57 59] (aF 60 (J [ai 6 (.const aH),ai 7 (bU false)] .ret) .skip))) .skip)) (J [I 61 1,I 12 61] (.seq (J [ai 13 (aj 0)] (.aX 0 (.loop (.seq (J [I 62 13,ah 63 4 9,ae 64 63,bK 65 64,bl .lss T.a 66 62 65] (aF 66 .skip (.exit 0))) (.seq (.aX 1 (.seq (.ec (an (bd 70 13 3) (an (I 71 12) (an (ah 72 0 8) (an (ae 73 72) (an (ah 74 4 9) (an (ae 75 74) (an (I 76 13) (an (bn 77 5 75 76) (an (bd 78 5 77) (.b0 (aY 79 F.ES [70,71,73,78]) (an (I 69 79) (an (bD 80 69 0) (an (bD 81 69 1) (an (I 14 80) (an (I 15 81) .done))))) .nil))))))))))) (.seq (J [I 82 15,bc 83 (.un .not (ab 82))] (aF 83 (J [ai 6 (.const aH),ai 7 (bU false)] .ret) .skip)) (.bO [I 84 14,I 12 84])))) (.bO [I 67 13,az .add T.a 68 67 1,I 13 68])))))) (.seq (.ec (an (I 85 12) (an (ah 86 5 3) (an (ah 87 2 86) (an (ae 88 87) (an (ah 89 0 8) (an (ae 90 89) (an (bn 91 1 88 90) (an (ae 92 91) (an (ah 93 2 9) (an (ae 94 93) (.b0 (aY 95 F.A2 [85,92,94]) (an (I 6 95) (an (ai 7 (bU true)) .done)) .nil)))))))))))) .ret))))))))⟩:=bI (by kernel_rfl)
theorem E.AP:bH F.AP ⟨40,[.tmp 2,.tmp 3], (J [aG 1 (.box T.n (ab 0)),ai 2 (aj 0),ai 3 (aj 0)] (.seq (J [ai 4 (aj 0)] (.aX 0 (.loop (.seq (J [I 5 4,ah 6 4 1,ae 7 6,bK 8 7,bl .lss T.a 9 5 8] (aF 9 .skip (.exit 0))) (.seq (.aX 1 (J [ah 12 4 1,ae 13 12,I 14 4,bn 15 5 13 14,ah 16 0 15,ae 17 16,az .eql T.a 18 17 4,I 19 18,ao 19 (ah 20 4 1),ao 19 (ae 21 20),ao 19 (I 22 4),ao 19 (bn 23 5 21 22),ao 19 (ah 24 0 23),ao 19 (ae 25 24),ao 19 (az .eql T.a 26 25 5),ch 27 19 26] (aF 27 (.seq (.dP [ah 28 4 1,ae 29 28,I 30 4,bn 31 5 29 30,ah 32 0 31,ae 33 32,ah 34 4 1,ae 35 34,I 36 4,bn 37 5 35 36,ah 38 1 37,ae 39 38,I 2 33,I 3 39]) .ret) .skip))) (.bO [I 10 4,az .add T.a 11 10 1,I 4 11])))))) (J [ai 2 (aj 0),ai 3 (aj 0)] .ret)))⟩:=bI (by kernel_rfl)
theorem E.yL:bH F.yL ⟨30,[.tmp 8], (J [aG 4 (.box T.q3 (ab 0)),ai 8 (.const aH)] (J [ah 10 5 4,ah 11 1 10,ae 12 11,I 13 2,bn 14 1 12 13,ae 15 14,I 9 15] (.seq (.ec (an (I 17 1) (an (I 18 9) (an (bc 19 (.hQ 1 (ab 17) none (some (ab 18)) none)) (an (I 21 3) (an (I 23 1) (an (I 24 9) (an (I 25 3) (an (bK 26 25) (an (bl .add T.a 27 24 26) (an (bc 28 (.hQ 1 (ab 23) (some (ab 27)) none none)) (.b0 (aG 16 (.dj T.a 0 1 [] [])) (.b0 (aG 20 (.app T.c T.a 1 8 (ab 16) (ab 19))) (.b0 (aG 22 (.app T.c T.a 1 8 (ab 20) (ab 21))) (.b0 (aG 29 (.app T.c T.a 1 8 (ab 22) (ab 28))) (an (I 8 29) .done) .nil) .nil) .nil) .nil)))))))))))) .ret)))⟩:=bI (by kernel_rfl)
theorem E.yK:bH F.yK ⟨27,[.tmp 6], (J [aG 3 (.box T.q3 (ab 0)),ai 6 (.const aH)] (J [ah 8 5 3,ah 9 1 8,ae 10 9,I 11 2,bn 12 1 10 11,ae 13 12,I 7 13] (J [I 14 1,I 15 7,I 16 7,az .add T.a 17 16 1,ah 18 0 3,ah 19 2 18,ae 20 19,I 21 2,bn 22 6 20 21,ah 23 2 22,ae 24 23,bl .add T.a 25 17 24,bc 26 (.hQ 1 (ab 14) (some (ab 15)) (some (ab 25)) none),I 6 26] .ret)))⟩:=bI (by kernel_rfl)
theorem E.Ex:bH F.Ex ⟨32,[.tmp 4], (J [aG 2 (.box T.b (ab 0)),aG 3 (.box T.h (ab 1)),ai 4 (aj 0)] (.seq (J [ah 6 1 3,ae 7 6,az .lss T.a 8 7 1,I 9 8,ao 9 (ah 10 1 3),ao 9 (ae 11 10),ao 9 (ah 12 0 2),ao 9 (ae 13 12),ao 9 (bK 14 13),ao 9 (bl .gtr T.a 15 11 14),ch 16 9 15] (aF 16 (J [ai 4 (aj 0)] .ret) .skip)) (J [ah 17 0 2,ae 18 17,ah 19 1 3,ae 20 19,az .sub T.a 21 20 1,bn 22 2 18 21,ah 23 1 22,ae 24 23,I 5 24] (.seq (J [I 25 5,az .lss T.a 26 25 1,I 27 26,ao 27 (I 28 5),ao 27 (az .gtr T.a 29 28 4),ch 30 27 29] (aF 30 (J [ai 4 (aj 0)] .ret) .skip)) (J [I 31 5,I 4 31] .ret)))))⟩:=bI (by kernel_rfl)
theorem E.x:bH F.x ⟨18,[.tmp 4], (J [aG 2 (.box T.i (ab 0)),ai 4 (aj 0)] (.seq (J [ah 7 2 2,ae 8 7,az .eql T.a 9 8 0] (aF 9 (J [ai 4 (aj 1)] .ret) .skip)) (J [ah 11 2 2,ae 12 11,I 13 1,aY 14 F.qx [12,13],I 10 14,bD 15 10 0,bD 16 10 1,I 5 15,I 6 16] (J [I 17 5,I 4 17] .ret))))⟩:=bI (by kernel_rfl)
def C.vS:nD:=⟨88,[], (J [aG 2 (.box T.b (ab 0))] (J [ah 13 0 2,ae 14 13,aY 15 F.Cu [14],I 12 15,bD 16 12 0,bD 17 12 1,I 4 16,I 5 17] (.seq (.ff [I 18 5,I 19 4] (some 20) F.b [(ab 18),(aj 1),(ab 19),(aj 0)]) (.seq (J [ah 21 0 2,ae 22 21,bK 23 22,ai 24 (aj 0)] (.aX 0 (.loop (J [bl .lss T.a 25 24 23] (eW 25 0
 (.seq (.aX 1 (J [bn 26 2 22 24,bd 27 2 26,aG 7 (.new T.xy (.agg #[cK,au])),cg 2 7 27] (.bO [I 28 1,ah 29 0 7,ae 30 29,hF (.iX .string (ab 28) (ab 30) (bU true))]))) (e9 T.a 31 24))))))) (J [ah 33 1 2,ae 34 33,ah 35 0 2,ae 36 35,dd 37 (.fn F.bv [(ab 34),(ab 36),(aj 12)]),I 32 37,bD 38 32 0,bD 39 32 1,I 4 38,I 5 39] (.seq (J [ah 40 1 2,ae 41 40,bK 42 41,ai 43 (aj 0)] (.aX 2 (.loop (J [bl .lss T.a 44 43 42] (eW 44 2
 (.seq (.aX 3 (J [I 45 43,bn 46 6 41 43,bd 47 6 46,aG 9 (.new T.i (.agg #[cK,au,au,au,au,au])),I 8 45,cg 6 9 47] (.seq (J [I 48 8,I 49 4,bl .eql T.a 50 48 49] (aF 50 (.ff [I 51 5,I 52 8] (some 53) F.b [(ab 51),(aj 2),(ab 52),(aj 0)]) .skip)) (.ff [I 54 1,ah 55 0 9,ae 56 55,I 57 8] (some 58) F.z [(ab 54),(ab 56),(aj 2),(ab 57)])))) (e9 T.a 59 43))))))) (J [ah 61 2 2,ae 62 61,ah 63 0 2,ae 64 63,aY 65 F.Cv [62,64],I 60 65,bD 66 60 0,bD 67 60 1,I 4 66,I 5 67] (J [ah 68 2 2,ae 69 68,bK 70 69,ai 71 (aj 0)] (.aX 4 (.loop (J [bl .lss T.a 72 71 70] (eW 72 4
 (.seq (.aX 5 (J [I 73 71,bn 74 6 69 71,bd 75 6 74,aG 11 (.new T.r (.agg #[cK,au,au,au,au,(.bool false)])),I 10 73,cg 6 11 75] (.seq (J [I 76 10,I 77 4,bl .eql T.a 78 76 77] (aF 78 (.ff [I 79 5,I 80 10] (some 81) F.b [(ab 79),(aj 3),(ab 80),(aj 0)]) .skip)) (.ff [I 82 1,ah 83 0 11,ae 84 83,I 85 10] (some 86) F.z [(ab 82),(ab 84),(aj 3),(ab 85)])))) (e9 T.a 87 71))))))))))))))⟩
theorem E.vS:l3 Tryz.prog F.vS=some C.vS:=by kernel_rfl
def C.vT:nD:=⟨105,[], (J [aG 2 (.box T.b (ab 0))] (J [aG 18 .r8,I 4 18] (.seq (J [I 19 1,aG 20 (.raw (.range T.a4 (ab 19)) T.Gq)] (.aX 0 (.loop (J [aG 21 (.raw (.next (ab 20) false) T.Gq),bD 22 21 0] (eW 22 0
 (.aX 1 (J [aG 23 (.raw (.entry (ab 20)) T.Gq),bD 24 23 0,I 5 24] (.bO [I 25 4,I 26 5,hF (.iX .string (ab 25) (ab 26) (bU true))])))))))) (.seq (J [ah 27 3 2,ae 28 27,bK 29 28,ai 30 (aj 0)] (.aX 2 (.loop (J [bl .lss T.a 31 30 29] (eW 31 2
 (.seq (.aX 3 (J [bn 32 5 28 30,bd 33 5 32,aG 7 (.new T.h (.agg #[cK,au,au,aH,aH])),cg 5 7 33] (.bO [I 34 4,ah 35 0 7,ae 36 35,hF (.iX .string (ab 34) (ab 36) (bU true))]))) (e9 T.a 37 30))))))) (.seq (J [ah 38 3 2,ae 39 38,bK 40 39,ai 41 (aj 0)] (.aX 4 (.loop (J [bl .lss T.a 42 41 40] (eW 42 4
 (.seq (.aX 5 (J [I 43 41,bn 44 5 39 41,bd 45 5 44,aG 9 (.new T.h (.agg #[cK,au,au,aH,aH])),I 8 43,cg 5 9 45] (.seq (J [I 46 8,az .geq T.a 47 46 6] (aF 47 (.ff [I 48 8] (some 49) F.b [(aj 11),(aj 4),(ab 48),(aj 0)]) .skip)) (.seq (.ec (an (bd 51 5 9) (an (bd 52 5 2) (an (I 53 8) (.alt (aY 54 F.om [52,53]) (.b0 (aY 55 F.Cw [51,54]) (an (I 50 55) (an (bD 56 50 0) (an (bD 57 50 1) (an (bD 58 50 2) (an (I 10 56) (an (I 11 57) (an (I 12 58) .done))))))) .nil) .nil))))) (.seq (.ff [I 59 12,I 60 8,I 61 10,bc 62 (.bin .mul T.a (aj 16) (ab 61)),I 63 11,bl .add T.a 64 62 63] (some 65) F.b [(ab 59),(aj 4),(ab 60),(ab 64)]) (.seq (.ff [I 66 1,ah 67 0 9,ae 68 67,I 69 8] (some 70) F.z [(ab 66),(ab 68),(aj 4),(ab 69)]) (J [ah 71 3 9,ae 72 71,bK 73 72,ai 74 (aj 0)] (.aX 6 (.loop (J [bl .lss T.a 75 74 73] (eW 75 6
 (.seq (.aX 7 (J [I 76 74,bn 77 6 72 74,bd 78 6 77,aG 14 (.new T.i (.agg #[cK,au,au,au,au,au])),I 13 76,cg 6 14 78] (J [I 79 4,ah 80 0 14,ae 81 80,n2 82 (.mE .string (.bool false) false (ab 79) (ab 81))] (aF 82 (.ff [I 83 8,I 84 13,bc 85 (.bin .add T.a (aj 16) (ab 84))] (some 86) F.b [(aj 7),(aj 4),(ab 83),(ab 85)]) .skip)))) (e9 T.a 87 74))))))))))))) (e9 T.a 88 41))))))) (J [bd 90 5 2,aY 91 F.xI [90],I 89 91,bD 92 89 0,bD 93 89 1,bD 94 89 2,I 15 92,I 16 93,I 17 94] (J [I 95 15,az .gtr T.a 96 95 12,I 97 96,ao 97 (I 98 17),ao 97 (az .gtr T.a 99 98 64),ch 100 97 99] (aF 100 (.ff [ah 101 3 2,ae 102 101,bK 103 102] (some 104) F.b [(aj 11),(aj 4),(ab 103),(aj 0)]) .skip))))))))⟩
theorem E.vT:l3 Tryz.prog F.vT=some C.vT:=by kernel_rfl
def C.vU:nD:=⟨51,[], (J [aG 2 (.box T.b (ab 0))] (J [bd 9 5 2,dd 10 (.fn F.om [(ab 9),(aj (-1))]),aG 4 (.new T.e (.agg #[aH,aH,aH,aH,aH,au])),cg 6 4 10] (J [ah 11 4 2,ae 12 11,bK 13 12,ai 14 (aj 0)] (.aX 0 (.loop (J [bl .lss T.a 15 14 13] (eW 15 0
 (.seq (.aX 1 (J [I 16 14,bn 17 2 12 14,bd 18 2 17,aG 6 (.new T.oi (.agg #[cK,aH])),I 5 16,cg 2 6 18] (.seq (.aX 2 (J [I 20 5,az .geq T.a 21 20 8,I 19 21] (aF 19 (.ff [I 22 5] (some 23) F.b [(aj 11),(aj 5),(ab 22),(aj 0)]) (J [ah 25 0 6,ae 26 25,aY 27 F.ky [26],bc 28 (.un .not (ab 27)),I 24 28] (aF 24 (.ff [I 29 5] (some 30) F.b [(aj 6),(aj 5),(ab 29),(aj 0)]) .skip))))) (.seq (.ff [I 31 1,ah 32 0 6,ae 33 32,I 34 5] (some 35) F.z [(ab 31),(ab 33),(aj 5),(ab 34)]) (J [ah 37 1 6,ae 38 37,bd 39 6 4,aY 40 F.bW [38,39],I 36 40,bD 41 36 0,bD 42 36 1,I 7 41,I 8 42] (.seq (.ff [I 43 8,I 44 5] (some 45) F.b [(ab 43),(aj 5),(ab 44),(aj 0)]) (J [I 46 7,az .neq T.a 47 46 1] (aF 47 (.ff [I 48 5] (some 49) F.b [(aj 9),(aj 5),(ab 48),(aj 0)]) .skip)))))))) (e9 T.a 50 14)))))))))⟩
theorem E.vU:l3 Tryz.prog F.vU=some C.vU:=by kernel_rfl
theorem E.oi:bH F.oi ⟨41,[.tmp 4], (J [ai 4 (bU false)] (.seq (J [ai 5 (aj 0),ai 6 (aj 0)] (.aX 0 (.loop (.seq (J [I 7 5,I 8 0,bK 9 8,bl .lss T.a 10 7 9,I 11 10,aV 11 (I 12 6),aV 11 (I 13 1),aV 11 (bK 14 13),aV 11 (bl .lss T.a 15 12 14),de 16 11 15] (aF 16 .skip (.exit 0))) (.aX 1 (.aX 2 (.seq (.dP [I 20 0,I 21 5,bn 22 1 20 21,ae 23 22,I 24 1,I 25 6,bn 26 1 24 25,ae 27 26,bl .eql T.a 28 23 27,I 19 28]) (aF 19 (J [ai 4 (bU true)] .ret) (.seq (.dP [I 30 0,I 31 5,bn 32 1 30 31,ae 33 32,I 34 1,I 35 6,bn 36 1 34 35,ae 37 36,bl .lss T.a 38 33 37,I 29 38]) (aF 29 (.bO [I 39 5,az .add T.a 40 39 1,I 5 40]) (.bO [I 17 6,az .add T.a 18 17 1,I 6 18]))))))))))) (J [ai 4 (bU false)] .ret)))⟩:=bI (by kernel_rfl)
theorem E.yH:bH F.yH ⟨63,[.ie 4 2], (J [aG 1 (.box T.b (ab 0)),aG 2 (.new T.w (.agg #[au,au,au,au]))] (J [bd 10 5 1,aY 11 F.EC [10],aG 3 (.new T.w (.agg #[au,au,au,au])),cg 4 3 11] (.seq (J [ai 4 (aj 0)] (.aX 0 (.loop (.seq (J [I 12 4,ah 13 3 1,ae 14 13,bK 15 14,bl .lss T.a 16 12 15,I 17 16,aV 17 (ah 18 0 3),aV 17 (ae 19 18),aV 17 (az .eql T.d 20 19 0),de 21 17 20] (aF 21 .skip (.exit 0))) (.seq (.aX 1 (.bO [bd 24 5 1,I 25 4,aY 26 F.EE [24,25],cg 4 3 26])) (.bO [I 22 4,az .add T.a 23 22 1,I 4 23])))))) (.seq (J [ah 27 0 3,ae 28 27,az .neq T.d 29 28 0] (aF 29 (J [bd 30 4 3,cg 4 2 30] .ret) .skip)) (J [bd 32 5 1,aY 33 F.EB [32],I 31 33,bD 34 31 0,bD 35 31 1,bD 36 31 2,I 5 34,I 6 35,I 7 36] (.seq (J [I 37 5,az .gtr T.a 38 37 12,I 39 38,ao 39 (I 40 7),ao 39 (az .gtr T.a 41 40 64),ch 42 39 41] (aF 42 (J [ah 43 3 1,ae 44 43,bK 45 44,bc 46 (.cW [au,au,au,au] [(0,1),(1,1),(2,1),(3,1)] [(0,(aj 11)),(1,(aj 4)),(2,(ab 45))]),cg 4 2 46] .ret) .skip)) (.seq (J [ai 8 (aj 0)] (.aX 2 (.loop (.seq (J [I 47 8,ah 48 4 1,ae 49 48,bK 50 49,bl .lss T.a 51 47 50] (aF 51 .skip (.exit 2))) (.seq (.aX 3 (J [bd 54 5 1,I 55 8,aY 56 F.EF [54,55],I 9 56] (J [I 57 9,az .neq T.d 58 57 0] (aF 58 (J [I 59 9,I 60 8,bc 61 (.cW [au,au,au,au] [(0,1),(1,1),(2,1),(3,1)] [(0,(ab 59)),(1,(aj 5)),(2,(ab 60))]),cg 4 2 61] .ret) .skip)))) (.bO [I 52 8,az .add T.a 53 52 1,I 8 53])))))) (J [bc 62 (.cW [au,au,au,au] [(0,1),(1,1),(2,1),(3,1)] []),cg 4 2 62] .ret))))))))⟩:=bI (by kernel_rfl)
theorem E.zH:bH F.zH ⟨4,[.tmp 2], (J [aG 1 (.box T.b (ab 0)),ai 2 (.const .nilFunc)] (J [bc 3 (.jG F.ap [] [(ab 1)]),I 2 3] .ret))⟩:=bI (by kernel_rfl)
theorem E.kT:bH F.kT ⟨38,[], (J [bd 8 5 1,aY 9 F.a [8],I 5 9] (J [bd 10 5 1,aY 11 F.d [10],bK 12 11,ai 13 (aj 0)] (.aX 0 (.loop (J [bl .lss T.a 14 13 12] (eW 14 0
 (.seq (.aX 1 (J [I 15 13,bn 16 2 11 13,bd 17 2 16,aG 7 (.new T.l (.agg #[au,au])),I 6 15,cg 2 7 17] (.seq (.ec (an (ah 18 0 7) (an (ae 19 18) (an (ae 20 2) (an (bl .eql T.a 21 19 20) (an (I 22 21) (an (aV 22 (bd 23 5 1)) (an (aV 22 (I 24 5)) (an (aV 22 (bd 25 2 7)) (an (aV 22 (ae 28 3)) (.alt (aV 22 (aY 26 F.i [23,24,25])) (an (aV 22 (bc 27 (.jg 1 (ab 26)))) (an (aV 22 (bl .eql T.a 29 27 28)) (an (de 30 22 29) (an (I 31 30) (an (aV 31 (I 32 0)) (an (aV 31 (I 33 6)) (.b0 (aV 31 (dd 34 (.val (ab 32) [(ab 33)]))) (an (aV 31 (bc 35 (.un .not (ab 34)))) (an (de 36 31 35) .done)) .nil))))))) .nil))))))))))) (aF 36 .ret .skip)))) (e9 T.a 37 13))))))))⟩:=bI (by kernel_rfl)
theorem E.Cp:bH F.Cp ⟨61,[.tmp 4,.ie 6 5,.tmp 6], (J [aG 2 (.box T.b (ab 0)),ai 4 (.const (.pointer none)),aG 5 (.new T.n (.agg #[cK,au,au,aH,aH,(.bool false)])),ai 6 (bU false)] (.seq (J [bd 9 5 2,aY 10 F.h [9],bc 11 (.jg 0 (ab 10)),az .neq T.d 12 11 0] (aF 12 (J [bc 13 (.cW [cK,au,au,aH,aH,(.bool false)] [(0,1),(1,1),(2,1),(3,1),(4,1),(5,1)] []),ai 4 (.const (.pointer none)),cg 6 5 13,ai 6 (bU false)] .ret) .skip)) (J [bd 14 5 2,aY 15 F.d [14],I 7 15] (.seq (J [I 16 1,az .lss T.a 17 16 0,I 18 17,ao 18 (I 19 1),ao 18 (I 20 7),ao 18 (bK 21 20),ao 18 (bl .geq T.a 22 19 21),ch 23 18 22] (aF 23 (J [bc 24 (.cW [cK,au,au,aH,aH,(.bool false)] [(0,1),(1,1),(2,1),(3,1),(4,1),(5,1)] []),ai 4 (.const (.pointer none)),cg 6 5 24,ai 6 (bU false)] .ret) .skip)) (.seq (.ec (an (bd 25 5 2) (an (bd 26 5 2) (an (bd 28 5 2) (an (I 30 7) (an (I 31 1) (an (bn 32 2 30 31) (an (ah 33 0 32) (an (ae 34 33) (.alt (aY 27 F.y [26]) (.alt (aY 29 F.a [28]) (an (bc 35 (.cW [aH,aH,aH,aH,aH,aH,aH,aH,au,aH,aH,aH,au] [(0,5),(5,6),(11,1),(12,1)] [(0,(ab 25)),(1,(ab 27)),(2,(ab 29)),(3,(ab 34))])) (.b0 (aG 36 (.box T.oZ (ab 35))) (an (I 8 36) .done) .nil)) .nil) .nil)))))))))) (.seq (.ec (an (I 37 8) (an (ah 38 3 2) (an (ae 39 38) (an (I 40 8) (an (hE 41 40) (an (ah 42 11 41) (an (ae 43 42) (an (I 44 8) (an (hE 45 44) (an (ah 46 12 45) (an (ae 47 46) (an (bn 48 2 43 47) (an (ah 49 0 48) (an (ae 50 49) (an (bn 51 5 39 50) (an (ah 52 4 51) (an (ae 53 52) (an (I 54 7) (an (I 55 1) (an (bn 56 2 54 55) (an (ah 57 1 56) (an (ae 58 57) (an (bn 59 6 53 58) (an (bd 60 6 59) (an (I 4 37) (.b0 (cg 6 5 60) (an (ai 6 (bU true)) .done) .nil))))))))))))))))))))))))))) .ret))))))⟩:=bI (by kernel_rfl)
theorem E.c:bH F.c ⟨18,[], (J [I 7 2,ai 8 (aj 0)] (.aX 0 (.loop (J [bl .lss T.a 9 8 7] (eW 9 0
 (.seq (.aX 1 (J [I 10 8,I 6 10] (.bO [I 11 0,I 12 1,I 13 6,bl .add T.a 14 12 13,n2 15 (.mE (.int .i64) au false (ab 11) (ab 14)),az .add T.a 16 15 1,hF (.iX (.int .i64) (ab 11) (ab 14) (ab 16))]))) (e9 T.a 17 8)))))))⟩:=bI (by kernel_rfl)
theorem E.p:bH F.p ⟨14,[.tmp 2], (J [ai 2 (aj 0)] (.seq (.dP [I 3 0,hE 4 3,ah 5 5 4,ah 6 2 5,ae 7 6,I 8 0,hE 9 8,ah 10 12 9,ae 11 10,bn 12 1 7 11,ae 13 12,I 2 13]) .ret))⟩:=bI (by kernel_rfl)
theorem E.am:bH F.am ⟨9,[], (J [aG 3 (.box T.a0 (ab 0)),aG 4 (.box T.x (ab 1))] (.bO [I 6 2,bc 7 (.jG F.jv [] [(ab 3),(ab 4)]),aY 8 F.d4 [6,7]]))⟩:=bI (by kernel_rfl)
end Go.Proofs.R
end