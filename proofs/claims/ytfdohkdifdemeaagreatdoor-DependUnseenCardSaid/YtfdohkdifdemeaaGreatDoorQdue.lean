/- Parts. -/
import Derived.Test.YtfdohkdifdemeaaGreatDoorQdud
import Derived.Test.YtfdohkdifdemeaaGreatDoorChecked
set_option linter.all false
set_option maxRecDepth 100000
section
namespace o
open Go
structure BY(v:Var)(s:List Scalar):Prop where
 sc:v.scalar=0\/size v.scalar s≠0
 e1:v.over=0\/size v.over s≠0
 Ij:v.scalar=0->narrow v.bf v.ad=true
 bf:(bounds v s).1<=v.init
 ad:v.init<=(bounds v s).2
structure BC(c:dv)(s:List Scalar):Prop where
 sc:c.scalar=0\/size c.scalar s≠0
 cap:1<=c.cap/\c.cap<=4
 Ij:c.scalar=0->narrow c.bf c.ad=true
structure Zy(p:dz)(s:List Scalar):Prop where
 over:0<=p.over/\p.over<=s.length
 cx:1<=p.cx/\p.cx<=12
 hx:p.vars.length<=4/\p.cI.length<=12
 var:∀v∈p.vars,BY v s
structure eF(m:Model):Prop where
 hx:m.scalars.length<=2/\m.vars.length<=12/\m.aM.length<=4
 procs:m.procs.length<=6
 var:∀v∈m.vars,BY v m.scalars
 chan:∀c∈m.aM,BC c m.scalars
 proc:∀p∈m.procs,Zy p m.scalars
 insts:(pieces m).1<=12
 cells:(pieces m).2.2<=64
theorem Oj{k:Int}{s:List Scalar}(h:¬there k s=false):k=0\/size k s≠0:=by
 unfold there at h;by_cases ak:k=0
 .exact .inl ak
 .exact .inr (by simpa[ak] using h)
theorem YM{l:List Var}{s:List Scalar}{i:Nat}(ad:i<l.length)(h:oL l s i=0):BY l[i] s:=by
 unfold oL at h;rw[List.getElem?_eq_getElem ad] at h;simp only at h;by_cases h1:there l[i].scalar s=false\/there l[i].over s=false
 .rw[if_pos h1] at h;cases h
 rw[if_neg h1] at h;by_cases U:(l[i].scalar=0/\narrow l[i].bf l[i].ad=false)\/l[i].init<(bounds l[i] s).1\/l[i].init > (bounds l[i] s).2
 .rw[if_pos U] at h;cases h
 refine⟨Oj fun e=>h1 (.inl e),Oj fun e=>h1 (.inr e),fun ak=>?_,?_,?_⟩
 .cases aD:narrow l[i].bf l[i].ad with
  | true=>rfl
  | false=>exact absurd (.inl ⟨ak,aD⟩) U
 .exact Int.not_lt.1 fun e=>U (.inr (.inl e))
 .exact Int.not_lt.1 fun e=>U (.inr (.inr e))
theorem aa9{l:List dv}{s:List Scalar}{i:Nat}(ad:i<l.length)(h:og l s i=0):BC l[i] s:=by
 unfold og at h;rw[List.getElem?_eq_getElem ad] at h;simp only at h;by_cases h1:there l[i].scalar s=false
 .rw[if_pos h1] at h;cases h
 rw[if_neg h1] at h;by_cases U:l[i].cap<1\/l[i].cap > 4\/(l[i].scalar=0/\narrow l[i].bf l[i].ad=false)
 .rw[if_pos U] at h;cases h
 refine⟨Oj h1,by omega,fun ak=>?_⟩;cases aD:narrow l[i].bf l[i].ad with
 | true=>rfl
 | false=>exact absurd (.inr (.inr ⟨ak,aD⟩)) U
theorem Ku{fr:Int}{fJ:Nat->ByteArray}{mo:Nat->Int}{i:Nat}(h:err fr fJ mo i=0):mo i=0:=by
 unfold err at h;split at h
 .cases h
 .split at h
  .cases h
  .split at h
   .cases h
   .exact h
theorem lZ{m:Model}(h:(check m).cX=0):eF m:=by
 unfold check at h;by_cases bw:(data m).cX≠0
 .rw[if_pos bw] at h;exact absurd h bw
 rw[if_neg bw] at h;have bw:(data m).cX=0:=by simpa using bw
 by_cases aO:(lE m).cX≠0
 .rw[if_pos aO] at h;exact absurd h aO
 have aO:(lE m).cX=0:=by simpa using aO
 obtain⟨h1,U,ag⟩:=Sj bw;obtain⟨eO,fz,gb⟩:=Is aO;refine⟨GD bw,?_,fun v aT=>?_,fun c aw=>?_,fun p afP=>?_,fz,gb⟩
 .apply Classical.byContradiction;intro aD
  have:=GL (i:=6) (by omega) (eO 6 (by omega))
  omega
 .obtain⟨i,ad,rfl⟩:=List.mem_iff_getElem.1 aT;exact YM ad (Ku (I0 (U i ad)))
 .obtain⟨i,ad,rfl⟩:=List.mem_iff_getElem.1 aw;exact aa9 ad (Ku (Gu (ag i ad)))
 .obtain⟨i,ad,rfl⟩:=List.mem_iff_getElem.1 afP;obtain⟨_,dc,_,_⟩:=zR ad (eO i ad);have ay:(gJ m i).scalars=m.scalars:=by
   unfold gJ;split<;>rfl
  obtain⟨f1,f2,f3,f4,_⟩:=Ng dc;have f5:(vars m.procs[i].vars m.scalars 4).2=0:=by
   apply Classical.byContradiction;intro aD;unfold kE at f4;rw[ay,if_pos aD] at f4;exact aD f4
  unfold whole at f3;rw[ay] at f3;split at f3
  .cases f3
  .split at f3
   .cases f3
   .split at f3
    .cases f3
    .exact⟨by omega,by omega,⟨f1,f2⟩,fun v aT=>by
      obtain⟨j,aR,rfl⟩:=List.mem_iff_getElem.1 aT;exact YM aR (Ku (tY f5 j aR))⟩
theorem WH{bf ad:Int}(h:narrow bf ad=true) : -1048576<=bf/\bf<=ad/\ad<=1048576/\ad - bf<256:=by
 unfold narrow at h;exact of_decide_eq_true h
theorem aa5{v:Var}{s:List Scalar}(h:BY v s):1<=cells v s:=by
 have:=size_le v.over s
 have:=h.e1
 unfold cells;split<;>omega
theorem Bu(s:List Scalar)(v:Var):(yW s v).length=(cells v s).toNat:=by simp[yW]
theorem tK(s:List Scalar)(c:dv):(l8 s c).length=1+c.cap.toNat:=by simp[l8];omega
theorem DU{m:Model}{x:c8}(h:x.of m):∃(i:Nat) (ad:i<m.procs.length),x.proc=i/\lz m x=th m.scalars m.procs[i]:=by
 refine⟨x.proc.toNat,by have:=h.ad;have:=h.bf;omega,by have:=h.bf;omega,?_⟩;unfold lz;rw[iT h.bf (by exact_mod_cast h.ad)]
theorem amb{m:Model}(h:eF m):∀l∈cW m,l≠[]:=fun l aS=>by
 obtain⟨v,aT,rfl⟩:=List.mem_map.1 aS
 have:=aa5 (h.var v aT)
 intro e
 have:=congrArg List.length e
 rw[Bu] at this;simp at this;omega
theorem aaM(m:Model):∀l∈dA m,l≠[]:=fun l aS=>by
 obtain⟨v,aT,rfl⟩:=List.mem_map.1 aS;simp[l8]
theorem agI(m:Model):∀l∈fc m,l≠[]:=fun l aS=>by
 obtain⟨v,aT,rfl⟩:=List.mem_map.1 aS;obtain⟨i,ad,_,e⟩:=DU (rT v aT);rw[e];simp[th]
theorem acZ{m:Model}(h:eF m):ie 1 (cc m) 0=hq 0 (cW m)/\ie 2 (cc m) 0=hq (total (cW m)) (dA m)/\ie 3 (cc m) 0=hq (total (cW m)+total (dA m)) (fc m):=by
 unfold cc;simp only[CM,j8,List.length_append,Nat.zero_add];refine⟨?_,?_,?_⟩
 .rw[GO 1 _ 0 0 (amb h),xS 1 2 (by decide),xS 1 3 (by decide)];simp
 .rw[GO 2 _ 0 _ (aaM m),xS 2 1 (by decide),xS 2 3 (by decide)];simp
 .rw[GO 3 _ 0 _ (agI m),xS 3 1 (by decide),xS 3 2 (by decide)];simp
theorem Oc(x:Int)(l:List Int):h7 (x :: l)=x+h7 l:=by
 have key:∀(l:List Int) (a:Int),l.foldl (· + ·) a=a+l.foldl (· + ·) 0:=by
  intro l
  induction l with
  | nil=>intro a;simp
  | cons y r eV =>
   intro a;simp only[List.foldl_cons];rw[eV (a+y),eV (0+y)];omega
 unfold h7;rw[List.foldl_cons,key];omega
theorem Fq(l:List dK)(r:List (List dK)):total (l :: r)=l.length+total r:=by simp[total]
theorem Fp(a b:List (List dK)):total (a++b)=total a+total b:=by simp[total]
theorem YE(s:List Scalar):∀l:List Var,(total (l.map (yW s)):Int)=h7 (l.map fun v=>cells v s)
 | []=>rfl
 | v :: r=>by
  rw[List.map_cons,Fq,List.map_cons,Oc,<-YE s r,Bu]
  have:=(tJ v s).1
  omega
theorem YB(s:List Scalar):∀l:List dv,(∀c∈l,BC c s)->(total (l.map (l8 s)):Int)=h7 (l.map pL)
 | [],_=>rfl
 | c :: r,h=>by
  rw[List.map_cons,Fq,List.map_cons,Oc,<-YB s r (fun x au=>h x (by simp[au])),tK]
  have:=(h c (by simp)).cap
  unfold pL;omega
theorem A7(s:List Scalar)(p:dz):(th s p).length=1+p.vars.length:=by simp[th];omega
theorem ab4(m:Model)(i:Nat)(p:dz)(h:0<=p.over):(((iq i p).length+elems m p:Nat):Int)=kn m p:=by
 unfold iq kn elems;by_cases ak:p.over=0
 .rw[if_pos ak,if_pos ak,hL (.inl (by omega))];rfl
 .rw[if_neg ak,if_neg ak];unfold size;by_cases h1:p.over - 1<m.scalars.length
  .rw[iT (by omega) h1,List.getElem?_eq_getElem (by omega)];simp only;by_cases U:(m.scalars[(p.over - 1).toNat]'(by omega)).size<1\/4<(m.scalars[(p.over - 1).toNat]'(by omega)).size
   .rw[if_pos U,if_neg (by omega)];rfl
   .rw[if_neg U,if_pos (by omega)];simp only[List.length_nil];omega
  .rw[hL (.inr (by omega)),List.getElem?_eq_none (by omega)];rfl
theorem YC(m:Model):∀(l:List dz) (i:Nat),m.procs.drop i=l->(∀p∈l,0<=p.over)->(total ((iR m l i).map (lz m)):Int)=h7 (l.map fun p=>kn m p*(1+p.vars.length))
 | [],_,_,_=>rfl
 | p :: r,i,bw,h=>by
  have ad:i<m.procs.length:=by
   apply Classical.byContradiction;intro aD;rw[List.drop_eq_nil_of_le (by omega)] at bw;cases bw
  rw[List.drop_eq_getElem_cons ad] at bw;injection bw with aO ba
  have aC:∀x:c8,x.proc=i->(lz m x).length=1+p.vars.length:=fun x au=>by
   unfold lz;rw[au,iT (by omega) (by omega)];simp only[Int.toNat_natCast];rw[aO,A7]
  have dF:∀l:List c8,(∀x∈l,x.proc=i)->total (l.map (lz m))=l.length*(1+p.vars.length):=by
   intro l
   induction l with
   | nil=>intro _;simp[total]
   | cons x r eV =>
    intro h;rw[List.map_cons,Fq,eV (fun y b8=>h y (by simp[b8])),aC x (h x (by simp)),List.length_cons,Nat.add_mul];omega
  have h1:∀x∈iq i p++iU i (elems m p),x.proc=i:=fun x au=>by
   rcases List.mem_append.1 au with au | au
   .unfold iq at au;split at au
    .rw[List.mem_singleton] at au;rw[au]
    .cases au
   .unfold iU at au;obtain⟨k,_,rfl⟩:=List.mem_map.1 au;rfl
  rw[iR,List.map_append,Fp,dF _ h1,List.map_cons,Oc,<-YC m r (i+1) ba (fun x au=>h x (by simp[au])),<-ab4 m i p (h p (by simp))];rw[List.length_append,show(iU i (elems m p)).length=elems m p from by simp[iU]];simp only[Int.natCast_add,Int.natCast_mul];rfl
theorem H8{m:Model}(h:eF m):((cc m).length:Int)=(pieces m).2.2:=by
 rw[D3];have bU:=YE m.scalars m.vars;have a6:=YB m.scalars m.aM h.chan;have bK:=YC m m.procs 0 (by simp) (fun p aO=>(h.proc p aO).over.1);unfold pieces;simp only;rw[<-bU,<-a6,<-bK];simp only[cW,dA,fc,insts];omega
def S6(l:vl)(s:Int):List Int:=if s=3 then l.insts else if s=2 then l.aM else l.vars
structure amJ(m:Model)(c:Nat)(x:Cell):Prop where
 sort:1<=x.sort/\x.sort<=3
 vc:0<=x.vc/\x.vc<(S6 (layout m) x.sort).length
 at_:(S6 (layout m) x.sort)[x.vc.toNat]? = some ((c:Int) - x.place)
 place:0<=x.place/\x.place<=c
 le:x.bf<=x.ad
 chan:x.sort=2->x.bf<=0/\0<=x.ad
theorem ahr{m:Model}{c:Nat}(h1:total (cW m)<=c)(h:c<total (cW m)+total (dA m)):(cc m)[c]? = (cellsOf 2 (dA m) 0)[c - total (cW m)]? := by
 unfold cc;rw[List.getElem?_append_left (by rw[List.length_append,j8,j8];omega),List.getElem?_append_right (by rw[j8];exact h1),j8]
theorem aht{m:Model}{c:Nat}(h1:total (cW m)+total (dA m)<=c):(cc m)[c]? = (cellsOf 3 (fc m) 0)[c - (total (cW m)+total (dA m))]? := by
 unfold cc;rw[List.getElem?_append_right (by rw[List.length_append,j8,j8];exact h1),List.length_append,j8,j8]
theorem Fs{ls:List (List dK)}{i:Nat}(h:i<ls.length):total (ls.take (i+1))=total (ls.take i)+ls[i].length:=by
 rw[List.take_succ_eq_append_getElem h,alP]
theorem alQ(ls:List (List dK))(i:Nat):total (ls.take i)<=total ls:=by
 have e:total ls=total (ls.take i)+total (ls.drop i):=by rw[<-Fp,List.take_append_drop]
 omega
theorem Oh{ls:List (List dK)}{i:Nat}(h:i<ls.length):total (ls.take i)+ls[i].length<=total ls:=by
 rw[<-Fs h];exact alQ _ _
end o
end
section
namespace Go.Proofs.R
open Go bt Go.Proofs
abbrev T.qy:TypeId:=0
abbrev T.a:TypeId:=3
abbrev T.p:TypeId:=4
abbrev T.s:TypeId:=5
abbrev T.k:TypeId:=9
abbrev T.sv:TypeId:=20
abbrev T.mO:TypeId:=21
abbrev T.ac:TypeId:=22
abbrev T.xt:TypeId:=23
abbrev T.jc:TypeId:=24
abbrev T.lg:TypeId:=25
abbrev T.RQ:TypeId:=26
abbrev T.b:TypeId:=28
abbrev T.z:TypeId:=36
abbrev T.c:TypeId:=40
abbrev T.t:TypeId:=42
abbrev T.d:TypeId:=45
abbrev T.kM:TypeId:=50
abbrev T.as:TypeId:=51
abbrev T.h:TypeId:=53
abbrev T.JK:TypeId:=54
abbrev T.i:TypeId:=56
abbrev T.l:TypeId:=58
abbrev T.Ge:TypeId:=59
abbrev T.m:TypeId:=62
abbrev T.oX:TypeId:=63
abbrev T.xu:TypeId:=69
abbrev T.j:TypeId:=72
abbrev T.v:TypeId:=76
abbrev T.q:TypeId:=79
abbrev T.xr:TypeId:=81
abbrev T.r:TypeId:=83
abbrev T.f:TypeId:=85
abbrev T.a0:TypeId:=100
abbrev T.oW:TypeId:=103
abbrev T.g:TypeId:=122
abbrev T.td:TypeId:=125
abbrev T.ap:TypeId:=142
abbrev T.a4:TypeId:=143
abbrev T.a5:TypeId:=144
abbrev T.dD:TypeId:=156
abbrev T.x:TypeId:=160
abbrev T.a2:TypeId:=180
abbrev T.y:TypeId:=182
abbrev T.e:TypeId:=197
abbrev T.l7:TypeId:=207
abbrev T.sr:TypeId:=214
abbrev T.Fc:TypeId:=219
abbrev T.kY:TypeId:=222
abbrev T.B0:TypeId:=237
abbrev T.pG:TypeId:=246
abbrev T.a3:TypeId:=247
abbrev T.zo:TypeId:=250
abbrev T.qz:TypeId:=256
abbrev T.am:TypeId:=261
abbrev T.oc:TypeId:=264
abbrev T.n:TypeId:=266
abbrev T.u:TypeId:=268
abbrev T.lb:TypeId:=314
abbrev F.EM:FuncId:=7
abbrev F.Ep:FuncId:=8
abbrev F.uR:FuncId:=14
abbrev F.c2:FuncId:=15
abbrev F.al:FuncId:=17
abbrev F.p:FuncId:=19
abbrev F.Ey:FuncId:=21
abbrev F.AN:FuncId:=22
abbrev F.EF:FuncId:=24
abbrev F.q2:FuncId:=26
abbrev F.AV:FuncId:=27
abbrev F.Et:FuncId:=28
abbrev F.tI:FuncId:=30
abbrev F.i:FuncId:=31
abbrev F.CK:FuncId:=33
abbrev F.xA:FuncId:=34
abbrev F.CL:FuncId:=35
abbrev F.AW:FuncId:=44
abbrev F.zu:FuncId:=45
abbrev F.zv:FuncId:=46
abbrev F.AO:FuncId:=47
abbrev F.a:FuncId:=50
abbrev F.e:FuncId:=51
abbrev F.pK:FuncId:=52
abbrev F.bi:FuncId:=53
abbrev F.j:FuncId:=54
abbrev F.oW:FuncId:=55
abbrev F.xD:FuncId:=56
abbrev F.zw:FuncId:=57
abbrev F.v:FuncId:=58
abbrev F.yB:FuncId:=61
abbrev F.AQ:FuncId:=62
abbrev F.EG:FuncId:=63
abbrev F.EH:FuncId:=64
abbrev F.Ei:FuncId:=66
abbrev F.yD:FuncId:=67
abbrev F.EJ:FuncId:=68
abbrev F.AL:FuncId:=69
abbrev F.yF:FuncId:=70
abbrev F.yE:FuncId:=71
abbrev F.En:FuncId:=72
abbrev F.EK:FuncId:=73
abbrev F.w:FuncId:=74
abbrev F.vL:FuncId:=76
abbrev F.vM:FuncId:=77
abbrev F.vN:FuncId:=78
abbrev F.cN:FuncId:=86
abbrev F.xv:FuncId:=88
abbrev F.yz:FuncId:=89
abbrev F.Ch:FuncId:=91
abbrev F.zy:FuncId:=92
abbrev F.am:FuncId:=93
abbrev F.Ci:FuncId:=94
abbrev F.c:FuncId:=95
abbrev F.q:FuncId:=96
abbrev F.qy:FuncId:=97
abbrev F.Cj:FuncId:=98
abbrev F.dl:FuncId:=99
abbrev F.fE:FuncId:=100
abbrev F.x:FuncId:=101
abbrev F.Ck:FuncId:=102
abbrev F.Cl:FuncId:=103
abbrev F.zA:FuncId:=104
abbrev F.Cm:FuncId:=105
abbrev F.AP:FuncId:=108
abbrev F.EA:FuncId:=113
abbrev F.EB:FuncId:=114
abbrev F.Ex:FuncId:=115
abbrev F.EE:FuncId:=116
abbrev F.wD:FuncId:=117
abbrev F.yC:FuncId:=118
abbrev F.EI:FuncId:=119
abbrev F.AU:FuncId:=120
abbrev F.ap:FuncId:=121
abbrev F.Cn:FuncId:=122
abbrev F.b:FuncId:=123
abbrev F.b4:FuncId:=124
abbrev F.z:FuncId:=125
abbrev F.Co:FuncId:=126
abbrev F.Cp:FuncId:=127
abbrev F.dU:FuncId:=128
abbrev F.kM:FuncId:=129
abbrev F.zB:FuncId:=130
abbrev F.Es:FuncId:=134
abbrev F.Eu:FuncId:=135
abbrev F.Er:FuncId:=136
abbrev F.Ev:FuncId:=137
abbrev F.zW:FuncId:=138
abbrev F.qz:FuncId:=139
abbrev F.d2:FuncId:=140
abbrev F.d3:FuncId:=141
abbrev F.bv:FuncId:=142
abbrev F.k:FuncId:=143
abbrev F.lg:FuncId:=144
abbrev F.fT:FuncId:=145
abbrev F.KI:FuncId:=146
abbrev F.d4:FuncId:=147
abbrev F.d5:FuncId:=148
abbrev F.CO:FuncId:=149
abbrev F.CP:FuncId:=150
abbrev F.mO:FuncId:=151
abbrev F.yx:FuncId:=152
abbrev F.Ew:FuncId:=153
abbrev F.yw:FuncId:=155
abbrev F.AJ:FuncId:=156
abbrev F.Ed:FuncId:=157
abbrev F.D9:FuncId:=158
abbrev F.D8:FuncId:=159
abbrev F.Ez:FuncId:=160
abbrev F.ED:FuncId:=161
abbrev F.wG:FuncId:=162
abbrev F.EC:FuncId:=163
abbrev F.oX:FuncId:=164
abbrev F.bW:FuncId:=165
abbrev F.jt:FuncId:=166
abbrev F.jO:FuncId:=167
abbrev F.bC:FuncId:=168
abbrev F.l7:FuncId:=169
abbrev F.cr:FuncId:=170
abbrev F.b5:FuncId:=171
abbrev F.cM:FuncId:=172
abbrev F.dR:FuncId:=173
abbrev F.Cs:FuncId:=174
abbrev F.Ct:FuncId:=175
abbrev F.ek:FuncId:=176
abbrev F.Cu:FuncId:=177
abbrev F.tZ:FuncId:=178
abbrev F.lh:FuncId:=179
abbrev F.Cv:FuncId:=180
abbrev F.kN:FuncId:=181
abbrev F.Cw:FuncId:=182
abbrev F.hi:FuncId:=183
abbrev F.Cx:FuncId:=184
abbrev F.pN:FuncId:=185
abbrev F.oi:FuncId:=186
abbrev F.el:FuncId:=187
abbrev F.Ef:FuncId:=190
abbrev F.AK:FuncId:=191
abbrev F.uQ:FuncId:=192
abbrev F.uP:FuncId:=193
abbrev F.Ee:FuncId:=194
abbrev F.El:FuncId:=195
abbrev F.Em:FuncId:=196
abbrev F.Eo:FuncId:=197
abbrev F.tc:FuncId:=198
abbrev F.AI:FuncId:=199
abbrev F.CQ:FuncId:=202
abbrev F.oc:FuncId:=203
abbrev F.sv:FuncId:=204
abbrev F.q1:FuncId:=207
abbrev F.yA:FuncId:=208
abbrev F.wF:FuncId:=209
abbrev F.rY:FuncId:=210
abbrev F.AF:FuncId:=211
abbrev F.D4:FuncId:=212
abbrev F.D5:FuncId:=213
abbrev F.AR:FuncId:=214
abbrev F.AS:FuncId:=215
abbrev F.AT:FuncId:=216
abbrev F.GP:FuncId:=217
abbrev F.gF:FuncId:=218
abbrev F.nF:FuncId:=219
abbrev F.a0:FuncId:=220
abbrev F.sw:FuncId:=221
abbrev F.CF:FuncId:=222
abbrev F.GQ:FuncId:=223
abbrev F.bn:FuncId:=224
abbrev F.CG:FuncId:=225
abbrev F.ex:FuncId:=226
abbrev F.xP:FuncId:=227
abbrev F.dD:FuncId:=228
abbrev F.sG:FuncId:=229
abbrev F.dS:FuncId:=230
abbrev F.bU:FuncId:=231
abbrev F.Eg:FuncId:=232
abbrev F.yy:FuncId:=233
abbrev F.Eh:FuncId:=234
abbrev F.D6:FuncId:=235
abbrev F.Ea:FuncId:=236
abbrev F.Eb:FuncId:=237
abbrev F.Ec:FuncId:=238
abbrev F.dW:FuncId:=241
abbrev F.yr:FuncId:=252
abbrev F.fn:FuncId:=253
abbrev F.iz:FuncId:=254
abbrev F.iA:FuncId:=255
abbrev F.a4:FuncId:=256
abbrev F.ci:FuncId:=257
abbrev F.tW:FuncId:=258
abbrev F.zG:FuncId:=259
abbrev F.xQ:FuncId:=260
abbrev F.zH:FuncId:=261
abbrev F.a5:FuncId:=262
abbrev F.cl:FuncId:=263
abbrev F.m:FuncId:=264
abbrev F.zI:FuncId:=265
abbrev F.xH:FuncId:=266
abbrev F.co:FuncId:=267
abbrev F.zJ:FuncId:=268
abbrev F.zK:FuncId:=269
abbrev F.kP:FuncId:=270
abbrev F.fd:FuncId:=271
abbrev F.cs:FuncId:=272
abbrev F.lb:FuncId:=273
abbrev F.pG:FuncId:=274
abbrev F.uO:FuncId:=275
abbrev F.Ej:FuncId:=276
abbrev F.AG:FuncId:=277
abbrev F.yu:FuncId:=278
abbrev F.D7:FuncId:=279
abbrev F.wE:FuncId:=280
abbrev F.rX:FuncId:=281
abbrev F.AH:FuncId:=282
abbrev F.yt:FuncId:=297
abbrev F.fv:FuncId:=298
abbrev F.zM:FuncId:=299
abbrev F.c3:FuncId:=300
abbrev F.kv:FuncId:=301
abbrev F.c6:FuncId:=302
abbrev F.Ek:FuncId:=303
abbrev F.AM:FuncId:=304
abbrev F.yv:FuncId:=305
abbrev G.Wr:Nat:=0
theorem mn:Tryz.prog.follows .mixedOrders=true:=by kernel_rfl
theorem bL{f:FuncId}{L:nx}{args:List Value}{R:Value->World->Prop}{w:World}(aw:lQ Tryz.prog f=some L)(h:dZ Tryz.prog L.code (rJ L.res R ⟨⟩) (hY args 0) w ⟨⟩)(bo:args.length<=L.n:=by exact Nat.le_of_ble_eq_true rfl):bu Tryz.prog f args.toArray w R:=K.start mn aw bo h
abbrev bH(f:FuncId)(c:nx):Prop:=lQ Tryz.prog f=some c
theorem bI{f:FuncId}{c:nx}(h:lQ Tryz.prog f=some c):bH f c:=h
theorem E.EM:bH F.EM ⟨110,[.tmp 6], (J [aF 3 (.box T.b (ab 0)),ai 6 (bT false)] (.seq (J [a7 17 5 3,aY 18 F.Ep [17],bd 19 (.un .not (ab 18)),I 20 19,aq 20 (I 21 1),aq 20 (bM 22 21),aq 20 (az .gtr T.a 23 22 200),cm 24 20 23,I 25 24,aq 25 (a7 26 5 3),aq 25 (I 27 1),aq 25 (aY 28 F.Ey [26,27]),aq 25 (bd 29 (.un .not (ab 28))),cm 30 25 29] (aE 30 (J [aY 31 F.uR [],I 6 31] .ret) .skip)) (J [a7 32 5 3,aY 33 F.AN [32],I 7 33] (.seq (J [I 34 7,bM 35 34,az .eql T.a 36 35 0] (aE 36 (J [aY 37 F.uR [],I 6 37] .ret) .skip)) (J [I 38 2,bd 39 (.tN .i64 (ab 38)),I 40 7,bM 41 40,bm .rem T.a 42 39 41,I 8 42] (.seq (J [a7 43 5 3,I 44 8,aY 45 F.p [43,44]] (aE 45 (J [aY 46 F.uR [],I 6 46] .ret) .skip)) (.seq (.ed (an (ah 47 3 3) (an (af 48 47) (an (a7 49 5 3) (an (I 51 7) (an (I 52 8) (an (bj 53 2 51 52) (an (ah 54 0 53) (an (af 55 54) (an (I 62 7) (an (I 63 8) (an (bj 64 2 62 63) (an (ah 65 1 64) (an (af 66 65) (.alt (aY 50 F.q2 [49]) (an (bj 56 2 50 55) (an (ah 57 0 56) (.alt (af 58 57) (an (bj 59 5 48 58) (an (ah 60 4 59) (.alt (af 61 60) (an (bj 67 6 61 66) (.alt (a7 68 6 67) (.alt (aF 9 (.new T.h (.agg #[cG,ar,ar,aH,aH,(.bool false)]))) (.bZ (ca 6 9 68) .done .nil) .nil) (.alt (aF 9 (.new T.h (.agg #[cG,ar,ar,aH,aH,(.bool false)]))) (.alt (a7 68 6 67) (.bZ (ca 6 9 68) .done .nil) .nil) .nil))) (.alt (aF 9 (.new T.h (.agg #[cG,ar,ar,aH,aH,(.bool false)]))) (.alt (af 61 60) (an (bj 67 6 61 66) (.alt (a7 68 6 67) (.bZ (ca 6 9 68) .done .nil) .nil)) .nil) .nil)))) (.alt (aF 9 (.new T.h (.agg #[cG,ar,ar,aH,aH,(.bool false)]))) (.alt (af 58 57) (an (bj 59 5 48 58) (an (ah 60 4 59) (.alt (af 61 60) (an (bj 67 6 61 66) (.alt (a7 68 6 67) (.bZ (ca 6 9 68) .done .nil) .nil)) .nil))) .nil) .nil)))) (.alt (aF 9 (.new T.h (.agg #[cG,ar,ar,aH,aH,(.bool false)]))) (.alt (aY 50 F.q2 [49]) (an (bj 56 2 50 55) (an (ah 57 0 56) (.alt (af 58 57) (an (bj 59 5 48 58) (an (ah 60 4 59) (.alt (af 61 60) (an (bj 67 6 61 66) (.alt (a7 68 6 67) (.bZ (ca 6 9 68) .done .nil) .nil)) .nil))) .nil))) .nil) .nil)))))))))))))))) (J [a7 70 5 3,I 71 1,aY 72 F.AV [70,71],I 69 72,bD 73 69 0,bD 74 69 1,I 10 73,I 11 74] (.seq (J [ai 12 (aj 0)] (.aV 0 (.loop (.seq (J [I 75 12,az .lss T.a 76 75 2] (aE 76 .skip (.exit 0))) (.seq (.aV 1 (J [a7 80 5 3,I 81 1,I 82 8,I 83 12,aY 84 F.EF [80,81,82,83],I 79 84,bD 85 79 0,bD 86 79 1,I 13 85,I 14 86] (.seq (J [I 87 14,az .neq T.d 88 87 0] (aE 88 (.exit 1) .skip)) (J [a7 90 5 3,I 91 13,aY 92 F.AV [90,91],I 89 92,bD 93 89 0,bD 94 89 1,I 15 93,I 16 94] (J [I 95 16,az .neq T.d 96 95 0,I 97 96,aq 97 (I 98 15),aq 97 (I 99 10),aq 97 (bm .neq T.oX 100 98 99),cm 101 97 100] (aE 101 (J [ai 6 (bT false)] .ret) .skip)))))) (.bN [I 77 12,az .add T.a 78 77 1,I 12 78])))))) (J [ah 102 2 9,af 103 102,ah 104 1 9,af 105 104,bm .gtr T.a 106 103 105,I 107 106,aX 107 (aY 108 F.uR []),dx 109 107 108,I 6 109] .ret))))))))))⟩:=bI (by kernel_rfl)
theorem E.Ep:bH F.Ep ⟨96,[.tmp 2], (J [aF 1 (.box T.b (ab 0)),ai 2 (bT false)] (.seq (J [ah 6 0 1,af 7 6,bM 8 7,az .gtr T.a 9 8 8,I 10 9,aq 10 (ah 11 1 1),aq 10 (af 12 11),aq 10 (bM 13 12),aq 10 (az .gtr T.a 14 13 20),cm 15 10 14,I 16 15,aq 16 (ah 17 2 1),aq 16 (af 18 17),aq 16 (bM 19 18),aq 16 (az .gtr T.a 20 19 8),cm 21 16 20,I 22 21,aq 22 (ah 23 3 1),aq 22 (af 24 23),aq 22 (bM 25 24),aq 22 (az .gtr T.a 26 25 10),cm 27 22 26,I 28 27,aq 28 (ah 29 4 1),aq 28 (af 30 29),aq 28 (bM 31 30),aq 28 (az .gtr T.a 32 31 16),cm 33 28 32] (aE 33 (J [ai 2 (bT false)] .ret) .skip)) (.seq (J [ai 3 (aj 0)] (.aV 0 (.loop (.seq (J [I 34 3,ah 35 3 1,af 36 35,bM 37 36,bm .lss T.a 38 34 37] (aE 38 .skip (.exit 0))) (.seq (.aV 1 (.seq (J [ah 41 3 1,af 42 41,I 43 3,bj 44 5 42 43,ah 45 3 44,af 46 45,bM 47 46,az .gtr T.a 48 47 10,I 49 48,aq 49 (ah 50 3 1),aq 49 (af 51 50),aq 49 (I 52 3),aq 49 (bj 53 5 51 52),aq 49 (ah 54 4 53),aq 49 (af 55 54),aq 49 (bM 56 55),aq 49 (az .gtr T.a 57 56 16),cm 58 49 57] (aE 58 (J [ai 2 (bT false)] .ret) .skip)) (J [ai 4 (aj 0)] (.aV 2 (.loop (.seq (J [I 59 4,ah 60 3 1,af 61 60,I 62 3,bj 63 5 61 62,ah 64 4 63,af 65 64,bM 66 65,bm .lss T.a 67 59 66] (aE 67 .skip (.exit 2))) (.seq (.aV 3 (J [ah 70 3 1,af 71 70,I 72 3,bj 73 5 71 72,ah 74 4 73,af 75 74,I 76 4,bj 77 6 75 76,a7 78 6 77,aY 79 F.Et [78],bd 80 (.un .not (ab 79))] (aE 80 (J [ai 2 (bT false)] .ret) .skip))) (.bN [I 68 4,az .add T.a 69 68 1,I 4 69])))))))) (.bN [I 39 3,az .add T.a 40 39 1,I 3 40])))))) (.seq (J [ai 5 (aj 0)] (.aV 4 (.loop (.seq (J [I 81 5,ah 82 4 1,af 83 82,bM 84 83,bm .lss T.a 85 81 84] (aE 85 .skip (.exit 4))) (.seq (.aV 5 (J [ah 88 4 1,af 89 88,I 90 5,bj 91 2 89 90,ah 92 1 91,af 93 92,bM 94 93,az .gtr T.a 95 94 60] (aE 95 (J [ai 2 (bT false)] .ret) .skip))) (.bN [I 86 5,az .add T.a 87 86 1,I 5 87])))))) (J [ai 2 (bT true)] .ret)))))⟩:=bI (by kernel_rfl)
theorem E.uR:bH F.uR ⟨85,[.tmp 0], (J [ai 0 (bT false)] (J [dh 4 (.fn F.AW [(.const (.string ⟨#[80]⟩))]),dh 5 (.fn F.AW [(.const (.string ⟨#[81]⟩))]),aF 6 (.dk T.i 2 5 [cG,ar,ar,aH,aH,cG,ar,ar,aH,aH] [(0,(ab 4)),(1,(ab 5))]),bd 7 (.cY [aH,aH,aH,aH,aH] [(0,1),(1,1),(2,1),(3,1),(4,1)] [(3,(ab 6))]),aF 1 (.new T.b (.agg #[aH,aH,aH,aH,aH])),ca 5 1 7] (J [a7 8 5 1,aY 9 F.c2 [8],I 2 9] (J [bd 10 (.cY [cG,ar,ar,aH,aH,(.bool false)] [(0,1),(1,1),(2,1),(3,1),(4,1),(5,1)] [(0,(.const (.string ⟨#[103,111]⟩))),(1,(aj 1))]),aF 11 (.dk T.h 1 6 [cG,ar,ar,aH,aH,(.bool false)] [(0,(ab 10))]),bd 12 (.cY [cG,ar,ar,aH,aH] [(0,1),(1,1),(2,1),(3,1),(4,1)] [(0,(.const (.string ⟨#[80]⟩))),(2,(aj 2)),(4,(ab 11))]),aF 13 (.dk T.i 1 5 [cG,ar,ar,aH,aH] [(0,(ab 12))]),bd 14 (.cY [aH,aH,aH,aH,aH] [(0,1),(1,1),(2,1),(3,1),(4,1)] [(3,(ab 13))]),aF 3 (.new T.b (.agg #[aH,aH,aH,aH,aH])),ca 5 3 14] (.seq (J [I 15 2,bM 16 15,az .neq T.a 17 16 2,I 18 17,aq 18 (I 19 2),aq 18 (bd 20 (.gz 1 (ab 19) (aj 0))),aq 18 (af 21 20),aq 18 (bM 22 21),aq 18 (az .neq T.a 23 22 2),cm 24 18 23,I 25 24,aq 25 (I 26 2),aq 25 (bd 27 (.gz 1 (ab 26) (aj 1))),aq 25 (af 28 27),aq 25 (bM 29 28),aq 25 (az .neq T.a 30 29 2),cm 31 25 30] (aE 31 (J [ai 0 (bT false)] .ret) .skip)) (J [I 32 2,bd 33 (.gz 1 (ab 32) (aj 0)),af 34 33,bd 35 (.gz 1 (ab 34) (aj 0)),af 36 35,I 37 36,aX 37 (I 38 2),aX 37 (bd 39 (.gz 1 (ab 38) (aj 0))),aX 37 (af 40 39),aX 37 (bd 41 (.gz 1 (ab 40) (aj 1))),aX 37 (af 42 41),aX 37 (bd 43 (.un .not (ab 42))),dx 44 37 43,I 45 44,aX 45 (I 46 2),aX 45 (bd 47 (.gz 1 (ab 46) (aj 1))),aX 45 (af 48 47),aX 45 (bd 49 (.gz 1 (ab 48) (aj 0))),aX 45 (af 50 49),aX 45 (bd 51 (.un .not (ab 50))),dx 52 45 51,I 53 52,aX 53 (a7 54 5 1),aX 53 (dh 55 (.fn F.al [(ab 54),(aj 0),(aj 0)])),dx 56 53 55,I 57 56,aX 57 (a7 58 5 1),aX 57 (dh 59 (.fn F.al [(ab 58),(aj 1),(aj 0)])),dx 60 57 59,I 61 60,aX 61 (a7 62 5 1),aX 61 (dh 63 (.fn F.al [(ab 62),(aj 2),(aj 0)])),aX 61 (bd 64 (.un .not (ab 63))),dx 65 61 64,I 66 65,aX 66 (a7 67 5 1),aX 66 (dh 68 (.fn F.al [(ab 67),(aj 0),(aj 2)])),aX 66 (bd 69 (.un .not (ab 68))),dx 70 66 69,I 71 70,aX 71 (a7 72 5 1),aX 71 (dh 73 (.fn F.p [(ab 72),(aj 0)])),aX 71 (bd 74 (.un .not (ab 73))),dx 75 71 74,I 76 75,aX 76 (a7 77 5 3),aX 76 (dh 78 (.fn F.p [(ab 77),(aj 0)])),dx 79 76 78,I 80 79,aX 80 (a7 81 5 1),aX 80 (dh 82 (.fn F.p [(ab 81),(aj 2)])),aX 80 (bd 83 (.un .not (ab 82))),dx 84 80 83,I 0 84] .ret))))))⟩:=bI (by kernel_rfl)
theorem E.c2:bH F.c2 ⟨50,[.tmp 2], (J [aF 1 (.box T.b (ab 0)),ai 2 (.const aH)] (.seq (J [a7 7 5 1,aY 8 F.i [7],bd 9 (.jf 0 (ab 8)),az .neq T.d 10 9 0] (aE 10 (J [ai 2 (.const aH)] .ret) .skip)) (J [a7 11 5 1,aY 12 F.zu [11],I 3 12] (J [I 13 3,bM 14 13,aF 15 (.p7 T.z 1 24 aH (ab 14) (ab 14)),I 4 15] (.seq (J [I 16 3,bM 17 16,ai 18 (aj 0)] (.aV 0 (.loop (J [bm .lss T.a 19 18 17] (eW 19 0
 (.seq (.aV 1 (J [I 20 18,I 5 20] (J [I 21 4,I 22 5,I 23 3,bM 24 23,aF 25 (.p7 T.p 1 1 (.bool false) (ab 24) (ab 24)),bj 26 1 21 22,ys 26 25] (J [I 27 3,bM 28 27,ai 29 (aj 0)] (.aV 2 (.loop (J [bm .lss T.a 30 29 28] (eW 30 2
 (.seq (.aV 3 (J [I 31 29,I 6 31] (.ed (an (I 32 4) (an (I 33 5) (an (bj 34 1 32 33) (an (af 35 34) (an (I 36 6) (an (I 37 3) (an (I 38 5) (an (bj 39 2 37 38) (an (a7 40 2 39) (an (I 41 3) (an (I 42 6) (an (bj 43 2 41 42) (an (a7 44 2 43) (.alt (aY 45 F.zv [40,44]) (an (bj 46 1 35 36) (.bZ (ys 46 45) .done .nil)) .nil))))))))))))))))) (e9 T.a 47 29)))))))))) (e9 T.a 48 18))))))) (J [I 49 4,I 2 49] .ret))))))⟩:=bI (by kernel_rfl)
theorem E.p:bH F.p ⟨50,[.tmp 4], (J [aF 2 (.box T.b (ab 0)),ai 4 (bT false)] (.seq (J [a7 10 5 2,aY 11 F.i [10],bd 12 (.jf 0 (ab 11)),az .neq T.d 13 12 0] (aE 13 (J [ai 4 (bT false)] .ret) .skip)) (J [a7 14 5 2,aY 15 F.e [14],I 5 15] (.seq (J [I 16 1,az .lss T.a 17 16 0,I 18 17,aq 18 (I 19 1),aq 18 (I 20 5),aq 18 (bM 21 20),aq 18 (bm .geq T.a 22 19 21),cm 23 18 22] (aE 23 (J [ai 4 (bT false)] .ret) .skip)) (.seq (.ed (an (a7 24 5 2) (an (a7 25 5 2) (an (I 27 5) (an (I 28 1) (an (bj 29 2 27 28) (an (a7 30 2 29) (.alt (aY 26 F.a [25]) (.bZ (aY 31 F.j [24,26,30]) (.alt (aF 6 (.new T.h (.agg #[cG,ar,ar,aH,aH,(.bool false)]))) (.bZ (ca 6 6 31) .done .nil) .nil) (.alt (aF 6 (.new T.h (.agg #[cG,ar,ar,aH,aH,(.bool false)]))) (.bZ (aY 31 F.j [24,26,30]) (.bZ (ca 6 6 31) .done .nil) .nil) .nil)) (.alt (aF 6 (.new T.h (.agg #[cG,ar,ar,aH,aH,(.bool false)]))) (.alt (aY 26 F.a [25]) (.bZ (aY 31 F.j [24,26,30]) (.bZ (ca 6 6 31) .done .nil) .nil) .nil) .nil))))))))) (J [a7 33 5 2,I 34 1,aY 35 F.oW [33,34],I 32 35,bD 36 32 0,bD 37 32 1,I 7 36,I 8 37] (J [a7 38 5 2,aY 39 F.xD [38],aF 9 (.new T.z aH),ys 9 39] (J [ah 40 2 6,af 41 40,ah 42 1 6,af 43 42,bm .leq T.a 44 41 43,I 45 44,aq 45 (I 46 8),aq 45 (bd 47 (.jF F.v [] [(ab 9)])),aq 45 (aY 48 F.zw [46,47]),cm 49 45 48,I 4 49] .ret))))))))⟩:=bI (by kernel_rfl)
theorem E.Ey:bH F.Ey ⟨14,[.tmp 4], (J [aF 2 (.box T.b (ab 0)),ai 4 (bT false)] (.seq (.ed (an (a7 5 5 2) (.alt (aY 6 F.AO [5]) (an (I 7 6) (an (aX 7 (a7 8 5 2)) (an (aX 7 (a7 9 5 2)) (an (aX 7 (I 11 1)) (.alt (aX 7 (aY 10 F.AQ [9])) (.bZ (aX 7 (aY 12 F.yB [8,10,11])) (an (dx 13 7 12) (an (I 4 13) .done)) .nil) .nil))))) .nil))) .ret))⟩:=bI (by kernel_rfl)
theorem E.AN:bH F.AN ⟨37,[.tmp 2], (J [aF 1 (.box T.b (ab 0)),ai 2 (.const aH)] (J [a7 7 5 1,aY 8 F.q2 [7],I 3 8] (J [ai 4 (.const aH)] (.seq (J [ai 5 (aj 0)] (.aV 0 (.loop (.seq (J [I 9 5,I 10 3,bM 11 10,bm .lss T.a 12 9 11] (aE 12 .skip (.exit 0))) (.seq (.aV 1 (J [ai 6 (aj 0)] (.aV 2 (.loop (.seq (.seq (.dV [I 15 6,ah 16 3 1,af 17 16,I 18 3,I 19 5,bj 20 2 18 19,ah 21 0 20,af 22 21,bj 23 5 17 22,ah 24 4 23,af 25 24,bM 26 25,bm .lss T.a 27 15 26]) (aE 27 .skip (.exit 2))) (.seq (.aV 3 (.bN [I 30 4,I 31 5,I 32 6,bd 33 (.cY [ar,ar] [(0,1),(1,1)] [(0,(ab 31)),(1,(ab 32))]),aF 34 (.dk T.m 1 2 [ar,ar] [(0,(ab 33))]),aF 35 (.app T.t T.m 2 16 (ab 30) (ab 34)),I 4 35])) (.bN [I 28 6,az .add T.a 29 28 1,I 6 29]))))))) (.bN [I 13 5,az .add T.a 14 13 1,I 5 14])))))) (J [I 36 4,I 2 36] .ret)))))⟩:=bI (by kernel_rfl)
theorem E.EF:bH F.EF ⟨81,[.tmp 8,.tmp 9], (J [aF 4 (.box T.b (ab 0)),ai 8 (.const aH),ai 9 (aj 0)] (J [a7 17 5 4,aY 18 F.EG [17],I 16 18,bD 19 16 0,bD 20 16 1,aF 10 (.new T.td (.agg #[aH,aH,aH,aH,aH,aH,aH,aH,ar,aH,aH,aH,aH])),ca 13 10 19,I 11 20] (.seq (.seq (.ed (an (I 21 11) (an (bd 22 (.un .not (ab 21))) (an (I 23 22) (an (aq 23 (a7 24 13 10)) (an (aq 23 (I 25 1)) (.alt (aq 23 (aY 26 F.EH [24,25])) (an (aq 23 (bd 27 (.un .not (ab 26)))) (an (cm 28 23 27) (an (I 29 28) (an (aq 29 (I 30 2)) (an (aq 29 (az .lss T.a 31 30 0)) (an (cm 32 29 31) (an (I 33 32) (an (aq 33 (I 34 2)) (an (aq 33 (ah 35 12 10)) (an (aq 33 (af 36 35)) (an (aq 33 (bM 37 36)) (an (aq 33 (bm .geq T.a 38 34 37)) (an (cm 39 33 38) (an (I 40 39) (an (aq 40 (I 41 3)) (an (aq 40 (az .lss T.a 42 41 0)) (an (cm 43 40 42) (an (I 44 43) (an (aq 44 (I 45 3)) (an (aq 44 (a7 46 13 10)) (an (aq 44 (I 47 2)) (an (aq 44 (ah 49 2 4)) (an (aq 44 (af 50 49)) (.alt (aq 44 (aY 48 F.yD [46,47])) (.bZ (aq 44 (aY 51 F.Ei [48,50])) (an (aq 44 (bm .geq T.a 52 45 51)) (an (cm 53 44 52) .done)) .nil) .nil)))))))))))))))))))))))) .nil))))))) (aE 53 (J [ai 8 (.const aH),ai 9 (aj 2)] .ret) .skip)) (J [a7 55 13 10,I 56 1,I 57 2,aY 58 F.EJ [55,56,57],I 54 58,bD 59 54 0,bD 60 54 1,I 12 59,I 13 60] (.seq (J [I 61 13,bd 62 (.un .not (ab 61))] (aE 62 (J [ai 8 (.const aH),ai 9 (aj 15)] .ret) .skip)) (.seq (J [I 63 3,az .eql T.a 64 63 1] (aE 64 (J [a7 66 13 10,I 67 2,aY 68 F.yD [66,67],aY 69 F.AL [68],I 65 69,bD 70 65 0,bD 71 65 1,I 14 70,I 15 71] (.ed (an (a7 72 13 10) (an (I 73 12) (an (I 74 15) (an (a7 75 13 10) (an (I 76 1) (an (I 77 15) (.alt (aY 78 F.yE [75,76,77]) (.bZ (aY 79 F.yF [72,73,74,78]) (an (I 12 79) .done) .nil) .nil))))))))) .skip)) (J [I 80 12,I 8 80,ai 9 (aj 0)] .ret)))))))⟩:=bI (by kernel_rfl)
theorem E.q2:bH F.q2 ⟨43,[.tmp 2], (J [aF 1 (.box T.b (ab 0)),ai 2 (.const aH)] (J [ai 3 (.const aH)] (.seq (J [ai 4 (aj 0)] (.aV 0 (.loop (.seq (J [I 6 4,ah 7 3 1,af 8 7,bM 9 8,bm .lss T.a 10 6 9] (aE 10 .skip (.exit 0))) (.seq (.aV 1 (.seq (J [ah 13 3 1,af 14 13,I 15 4,bj 16 5 14 15,ah 17 1 16,af 18 17,az .eql T.a 19 18 0] (aE 19 (.bN [I 20 3,I 21 4,bd 22 (.cY [ar,ar] [(0,1),(1,1)] [(0,(ab 21))]),aF 23 (.dk T.l 1 2 [ar,ar] [(0,(ab 22))]),aF 24 (.app T.Ge T.l 2 16 (ab 20) (ab 23)),I 3 24]) .skip)) (J [ai 5 (aj 1)] (.aV 2 (.loop (.seq (.seq (.dV [I 25 5,a7 26 5 1,ah 27 3 1,af 28 27,I 29 4,bj 30 5 28 29,a7 31 5 30,aY 32 F.En [26,31],bm .leq T.a 33 25 32]) (aE 33 .skip (.exit 2))) (.seq (.aV 3 (.bN [I 36 3,I 37 4,I 38 5,bd 39 (.cY [ar,ar] [(0,1),(1,1)] [(0,(ab 37)),(1,(ab 38))]),aF 40 (.dk T.l 1 2 [ar,ar] [(0,(ab 39))]),aF 41 (.app T.Ge T.l 2 16 (ab 36) (ab 40)),I 3 41])) (.bN [I 34 5,az .add T.a 35 34 1,I 5 35])))))))) (.bN [I 11 4,az .add T.a 12 11 1,I 4 12])))))) (J [I 42 3,I 2 42] .ret))))⟩:=bI (by kernel_rfl)
theorem E.AV:bH F.AV ⟨21,[.tmp 4,.tmp 5], (J [aF 2 (.box T.b (ab 0)),ai 4 (.const (.int .u64 0)),ai 5 (aj 0)] (.seq (J [a7 7 5 2,aY 8 F.AO [7],bd 9 (.un .not (ab 8))] (aE 9 (J [ai 4 (.const (.int .u64 0)),ai 5 (aj 2)] .ret) .skip)) (J [a7 10 5 2,aY 11 F.AQ [10],aF 6 (.new T.g (.agg #[aH,aH,aH,ar,aH,aH])),ca 6 6 11] (.seq (J [a7 12 5 2,a7 13 6 6,I 14 1,aY 15 F.yB [12,13,14],bd 16 (.un .not (ab 15))] (aE 16 (J [ai 4 (.const (.int .u64 0)),ai 5 (aj 3)] .ret) .skip)) (J [a7 17 5 2,a7 18 6 6,I 19 1,aY 20 F.EK [17,18,19],I 4 20,ai 5 (aj 0)] .ret)))))⟩:=bI (by kernel_rfl)
theorem E.Et:bH F.Et ⟨45,[.tmp 2], (J [aF 1 (.box T.h (ab 0)),ai 2 (bT false)] (.seq (J [ah 4 0 1,af 5 4,bd 6 (.ng (ab 5)),az .gtr T.a 7 6 60,I 8 7,aq 8 (ah 9 3 1),aq 8 (af 10 9),aq 8 (bM 11 10),aq 8 (az .gtr T.a 12 11 60),cm 13 8 12,I 14 13,aq 14 (ah 15 4 1),aq 14 (af 16 15),aq 14 (bM 17 16),aq 14 (az .gtr T.a 18 17 12),cm 19 14 18] (aE 19 (J [ai 2 (bT false)] .ret) .skip)) (.seq (J [ai 3 (aj 0)] (.aV 0 (.loop (.seq (J [I 20 3,ah 21 4 1,af 22 21,bM 23 22,bm .lss T.a 24 20 23] (aE 24 .skip (.exit 0))) (.seq (.aV 1 (J [ah 27 4 1,af 28 27,I 29 3,bj 30 5 28 29,ah 31 3 30,af 32 31,bM 33 32,az .gtr T.a 34 33 60,I 35 34,aq 35 (ah 36 4 1),aq 35 (af 37 36),aq 35 (I 38 3),aq 35 (bj 39 5 37 38),aq 35 (ah 40 4 39),aq 35 (af 41 40),aq 35 (bM 42 41),aq 35 (az .gtr T.a 43 42 60),cm 44 35 43] (aE 44 (J [ai 2 (bT false)] .ret) .skip))) (.bN [I 25 3,az .add T.a 26 25 1,I 3 26])))))) (J [ai 2 (bT true)] .ret))))⟩:=bI (by kernel_rfl)
theorem E.tI:bH F.tI ⟨79,[.tmp 2,.tmp 3,.tmp 4], (J [aF 1 (.box T.b (ab 0)),ai 2 (aj 0),ai 3 (aj 0),ai 4 (aj 0)] (J [ai 5 (aj 0),ai 6 (aj 0),ai 7 (aj 0)] (.seq (J [ah 15 1 1,af 16 15,bM 17 16,ai 18 (aj 0)] (.aV 0 (.loop (J [bm .lss T.a 19 18 17] (eW 19 0
 (.seq (.aV 1 (J [bj 20 6 16 18,a7 21 6 20,aF 9 (.new T.j (.agg #[cG,ar,ar,ar,ar,ar])),ca 6 9 21] (.bN [I 22 7,a7 23 6 9,ah 24 0 1,af 25 24,aY 26 F.w [23,25],bm .add T.a 27 22 26,I 7 27]))) (e9 T.a 28 18))))))) (.seq (J [ah 29 2 1,af 30 29,bM 31 30,ai 32 (aj 0)] (.aV 2 (.loop (J [bm .lss T.a 33 32 31] (eW 33 2
 (.seq (.aV 3 (J [bj 34 6 30 32,a7 35 6 34,aF 11 (.new T.r (.agg #[cG,ar,ar,ar,ar,(.bool false)])),ca 6 11 35] (.bN [I 36 7,ah 37 2 11,af 38 37,bd 39 (.te (ab 38) (aj 0)),bd 40 (.uT (ab 39) (aj 4)),bd 41 (.bin .add T.a (aj 1) (ab 40)),bm .add T.a 42 36 41,I 7 42]))) (e9 T.a 43 32))))))) (.seq (J [ah 44 3 1,af 45 44,bM 46 45,ai 47 (aj 0)] (.aV 4 (.loop (J [bm .lss T.a 48 47 46] (eW 48 4
 (.seq (.aV 5 (J [bj 49 5 45 47,a7 50 5 49,aF 13 (.new T.i (.agg #[cG,ar,ar,aH,aH])),ca 5 13 50] (J [ah 51 1 13,af 52 51,bd 53 (.cY [cG,ar,ar,ar,ar,ar] [(0,1),(1,1),(2,1),(3,1),(4,1),(5,1)] [(2,(ab 52))]),ah 54 0 1,af 55 54,aY 56 F.w [53,55],I 14 56] (J [I 57 5,I 58 14,bm .add T.a 59 57 58,I 5 59] (J [I 60 6,I 61 14,ah 62 4 13,af 63 62,bM 64 63,bm .mul T.a 65 61 64,bm .add T.a 66 60 65,I 6 66] (.bN [I 67 7,I 68 14,ah 69 3 13,af 70 69,bM 71 70,bd 72 (.bin .add T.a (aj 1) (ab 71)),bm .mul T.a 73 68 72,bm .add T.a 74 67 73,I 7 74])))))) (e9 T.a 75 47))))))) (J [I 76 5,I 77 6,I 78 7,I 2 76,I 3 77,I 4 78] .ret))))))⟩:=bI (by kernel_rfl)
theorem E.AW:bH F.AW ⟨13,[.ic 5 2], (J [aF 2 (.new T.i (.agg #[cG,ar,ar,aH,aH]))] (J [I 3 0,bd 4 (.cY [cG,ar,ar,ar,ar,ar] [(0,1),(1,1),(2,1),(3,1),(4,1),(5,1)] [(0,(.const (.string ⟨#[110]⟩))),(4,(aj 1))]),aF 5 (.dk T.j 1 6 [cG,ar,ar,ar,ar,ar] [(0,(ab 4))]),bd 6 (.cY [ar,ar] [(0,1),(1,1)] [(0,(aj 1)),(1,(aj 1))]),aF 7 (.dk T.f 1 2 [ar,ar] [(0,(ab 6))]),bd 8 (.cY [ar,ar,ar,aH,aH] [(0,1),(1,1),(2,1),(3,1),(4,1)] [(0,(aj 3)),(4,(ab 7))]),aF 9 (.dk T.q 1 5 [ar,ar,ar,aH,aH] [(0,(ab 8))]),bd 10 (.cY [cG,ar,ar,aH,aH,(.bool false)] [(0,1),(1,1),(2,1),(3,1),(4,1),(5,1)] [(0,(.const (.string ⟨#[103,111]⟩))),(2,(aj 1)),(4,(ab 9))]),aF 11 (.dk T.h 1 6 [cG,ar,ar,aH,aH,(.bool false)] [(0,(ab 10))]),bd 12 (.cY [cG,ar,ar,aH,aH] [(0,1),(1,1),(2,1),(3,1),(4,1)] [(0,(ab 3)),(2,(aj 2)),(3,(ab 5)),(4,(ab 11))]),ca 5 2 12] .ret))⟩:=bI (by kernel_rfl)
theorem E.zu:bH F.zu ⟨27,[.tmp 2], (J [aF 1 (.box T.b (ab 0)),ai 2 (.const aH)] (J [ai 3 (.const aH)] (.seq (J [a7 7 5 1,aY 8 F.e [7],bM 9 8,ai 10 (aj 0)] (.aV 0 (.loop (J [bm .lss T.a 11 10 9] (eW 11 0
 (.seq (.aV 1 (J [I 12 10,I 4 12] (J [a7 14 5 1,I 15 4,aY 16 F.oW [14,15],I 13 16,bD 17 13 0,bD 18 13 1,I 5 17,I 6 18] (.bN [I 19 3,I 20 5,I 21 6,bd 22 (.cY [aH,aH] [(0,1),(1,1)] [(0,(ab 20)),(1,(ab 21))]),aF 23 (.dk T.oW 1 2 [aH,aH] [(0,(ab 22))]),aF 24 (.app T.a0 T.oW 2 48 (ab 19) (ab 23)),I 3 24])))) (e9 T.a 25 10))))))) (J [I 26 3,I 2 26] .ret))))⟩:=bI (by kernel_rfl)
theorem E.zv:bH F.zv ⟨24,[.tmp 4], (J [aF 2 (.box T.oW (ab 0)),aF 3 (.box T.oW (ab 1)),ai 4 (bT false)] (J [ah 5 1 2,af 6 5,ah 7 1 3,af 8 7,aY 9 F.xv [6,8],I 10 9,aq 10 (ah 11 1 2),aq 10 (af 12 11),aq 10 (ah 13 0 3),aq 10 (af 14 13),aq 10 (aY 15 F.xv [12,14]),cm 16 10 15,I 17 16,aq 17 (ah 18 0 2),aq 17 (af 19 18),aq 17 (ah 20 1 3),aq 17 (af 21 20),aq 17 (aY 22 F.xv [19,21]),cm 23 17 22,I 4 23] .ret))⟩:=bI (by kernel_rfl)
theorem E.AO:bH F.AO ⟨7,[.tmp 2], (J [aF 1 (.box T.b (ab 0)),ai 2 (bT false)] (J [a7 3 5 1,aY 4 F.yz [3],bd 5 (.jf 0 (ab 4)),az .eql T.d 6 5 0,I 2 6] .ret))⟩:=bI (by kernel_rfl)
theorem E.a:bH F.a ⟨6,[.tmp 2], (J [aF 1 (.box T.b (ab 0)),ai 2 (.const aH)] (J [a7 3 5 1,aY 4 F.zy [3],aY 5 F.Ch [4],I 2 5] .ret))⟩:=bI (by kernel_rfl)
theorem E.pK:bH F.pK ⟨8,[.tmp 6], (J [aF 3 (.box T.b (ab 0)),aF 4 (.box T.a (ab 1)),aF 5 (.box T.a (ab 2)),ai 6 (.const .nilFunc)] (J [bd 7 (.jF F.am [] [(ab 3),(ab 4),(ab 5)]),I 6 7] .ret))⟩:=bI (by kernel_rfl)
theorem E.bi:bH F.bi ⟨8,[.tmp 3], (J [aF 2 (.box T.m (ab 0)),ai 3 (bT false)] (J [ah 4 0 2,af 5 4,af 6 1,bm .neq T.a 7 5 6,I 3 7] .ret))⟩:=bI (by kernel_rfl)
theorem E.j:bH F.j ⟨22,[.ic 6 6], (J [aF 3 (.box T.b (ab 0)),aF 5 (.box T.m (ab 2)),aF 6 (.new T.h (.agg #[cG,ar,ar,aH,aH,(.bool false)]))] (.seq (.ed (an (ah 7 3 3) (an (af 8 7) (an (I 9 1) (an (ah 10 0 5) (an (af 11 10) (an (bj 12 2 9 11) (an (ah 13 0 12) (an (af 14 13) (an (bj 15 5 8 14) (an (ah 16 4 15) (an (af 17 16) (an (ah 18 1 5) (an (af 19 18) (an (bj 20 6 17 19) (an (a7 21 6 20) (.bZ (ca 6 6 21) .done .nil))))))))))))))))) .ret))⟩:=bI (by kernel_rfl)
theorem E.oW:bH F.oW ⟨57,[.tmp 4,.tmp 5], (J [aF 2 (.box T.b (ab 0)),ai 4 (.const aH),ai 5 (.const aH)] (J [a7 14 5 2,I 15 1,aY 16 F.Ci [14,15],I 13 16,bD 17 13 0,bD 18 13 1,bD 19 13 2,aF 7 (.new T.h (.agg #[cG,ar,ar,aH,aH,(.bool false)])),I 6 17,ca 6 7 18,I 8 19] (.seq (J [I 20 8,bd 21 (.un .not (ab 20))] (aE 21 (J [ai 4 (.const aH),ai 5 (.const aH)] .ret) .skip)) (J [aF 22 .r0,aF 23 .r0,I 9 22,I 10 23] (J [I 24 9,I 25 6,aY 26 F.q [25],dh 27 (.fn F.c [(ab 24),(ab 26),(aj 1)])] (J [I 28 10,I 29 6,aY 30 F.q [29],dh 31 (.fn F.c [(ab 28),(ab 30),(aj 1)])] (J [I 32 6,I 33 9,ah 34 3 7,af 35 34,aY 36 F.qy [32,33,35]] (.seq (J [ah 37 4 7,af 38 37,bM 39 38,ai 40 (aj 0)] (.aV 0 (.loop (J [bm .lss T.a 41 40 39] (eW 41 0
 (.seq (.aV 1 (J [bj 42 5 38 40,a7 43 5 42,aF 12 (.new T.q (.agg #[ar,ar,ar,aH,aH])),ca 5 12 43] (J [I 44 6,I 45 9,a7 46 5 12,aY 47 F.Cj [44,45,46]] (.bN [I 48 6,I 49 10,a7 50 5 12,aY 51 F.dl [48,49,50]])))) (e9 T.a 52 40))))))) (J [I 53 9,aY 54 F.fE [53],I 55 10,aY 56 F.fE [55],I 4 54,I 5 56] .ret)))))))))⟩:=bI (by kernel_rfl)
theorem E.xD:bH F.xD ⟨45,[.tmp 2], (J [aF 1 (.box T.b (ab 0)),ai 2 (.const aH)] (.seq (J [a7 10 5 1,aY 11 F.i [10],bd 12 (.jf 0 (ab 11)),az .neq T.d 13 12 0] (aE 13 (J [ai 2 (.const aH)] .ret) .skip)) (.seq (.ed (an (a7 14 5 1) (an (a7 16 5 1) (.alt (aY 15 F.x [14]) (.bZ (aY 17 F.a [16]) (.alt (aF 3 (.new T.g (.agg #[aH,aH,aH,ar,aH,aH]))) (.bZ (ca 6 3 15) (an (I 4 17) .done) .nil) .nil) (.alt (aF 3 (.new T.g (.agg #[aH,aH,aH,ar,aH,aH]))) (.bZ (aY 17 F.a [16]) (.bZ (ca 6 3 15) (an (I 4 17) .done) .nil) .nil) .nil)) (.alt (aF 3 (.new T.g (.agg #[aH,aH,aH,ar,aH,aH]))) (.alt (aY 15 F.x [14]) (.bZ (aY 17 F.a [16]) (.bZ (ca 6 3 15) (an (I 4 17) .done) .nil) .nil) .nil) .nil))))) (J [ah 18 3 3,af 19 18,aF 20 (.p7 T.p 1 1 (.bool false) (ab 19) (ab 19)),aF 5 (.new T.z aH),ys 5 20] (.seq (J [ah 21 4 1,af 22 21,bM 23 22,ai 24 (aj 0)] (.aV 0 (.loop (J [bm .lss T.a 25 24 23] (eW 25 0
 (.seq (.aV 1 (J [bj 26 2 22 24,a7 27 2 26,aF 7 (.new T.xu (.agg #[cG,aH])),ca 2 7 27] (J [ah 28 1 7,af 29 28,aY 30 F.Ck [29],bM 31 30,ai 32 (aj 0)] (.aV 2 (.loop (J [bm .lss T.a 33 32 31] (eW 33 2
 (.seq (.aV 3 (J [bj 34 2 30 32,a7 35 2 34,aF 9 (.new T.f (.agg #[ar,ar])),ca 2 9 35] (.bN [a7 36 5 1,a7 37 6 3,I 38 4,a7 39 2 9,bd 40 (.jF F.zA [] [(ab 5)]),aY 41 F.Cl [36,37,38,39,40]]))) (e9 T.a 42 32))))))))) (e9 T.a 43 24))))))) (J [af 44 5,I 2 44] .ret))))))⟩:=bI (by kernel_rfl)
theorem E.v:bH F.v ⟨8,[.tmp 3], (J [ai 3 (bT false)] (J [af 4 1,I 5 0,bj 6 1 4 5,af 7 6,I 3 7] .ret))⟩:=bI (by kernel_rfl)
theorem E.yB:bH F.yB ⟨45,[.tmp 6], (J [aF 3 (.box T.b (ab 0)),aF 4 (.box T.g (ab 1)),ai 6 (bT false)] (.seq (J [I 9 2,bM 10 9,ah 11 3 4,af 12 11,bm .neq T.a 13 10 12] (aE 13 (J [ai 6 (bT false)] .ret) .skip)) (.seq (J [ai 7 (aj 0)] (.aV 0 (.loop (.seq (J [I 14 7,ah 15 2 3,af 16 15,bM 17 16,bm .lss T.a 18 14 17] (aE 18 .skip (.exit 0))) (.seq (.aV 1 (J [ah 21 1 4,af 22 21,I 23 7,bj 24 1 22 23,af 25 24,I 8 25] (.seq (.dV [a7 26 5 3,I 27 2,I 28 8,I 29 8,ah 30 2 3,af 31 30,I 32 7,bj 33 6 31 32,ah 34 2 33,af 35 34,bm .add T.a 36 29 35,az .add T.a 37 36 1,bd 38 (.hQ 1 (ab 27) (some (ab 28)) (some (ab 37)) none),I 39 7,aY 40 F.EA [26,38,39],bd 41 (.un .not (ab 40))]) (aE 41 (J [ai 6 (bT false)] .ret) .skip)))) (.bN [I 19 7,az .add T.a 20 19 1,I 7 20])))))) (J [a7 42 6 4,I 43 2,aY 44 F.EB [42,43],I 6 44] .ret))))⟩:=bI (by kernel_rfl)
theorem E.AQ:bH F.AQ ⟨9,[.ic 6 2], (J [aF 1 (.box T.b (ab 0)),aF 2 (.new T.g (.agg #[aH,aH,aH,ar,aH,aH]))] (.seq (J [a7 3 5 1,aY 4 F.Ex [3],bd 5 (.un .not (ab 4))] (aE 5 (J [bd 6 (.cY [aH,aH,aH,ar,aH,aH] [(0,1),(1,1),(2,1),(3,1),(4,1),(5,1)] []),ca 6 2 6] .ret) .skip)) (J [a7 7 5 1,aY 8 F.AP [7],ca 6 2 8] .ret)))⟩:=bI (by kernel_rfl)
theorem E.EG:bH F.EG ⟨13,[.ic 13 2,.tmp 3], (J [aF 1 (.box T.b (ab 0)),aF 2 (.new T.td (.agg #[aH,aH,aH,aH,aH,aH,aH,aH,ar,aH,aH,aH,aH])),ai 3 (bT false)] (.seq (J [a7 4 5 1,aY 5 F.yz [4],bd 6 (.jf 0 (ab 5)),az .neq T.d 7 6 0] (aE 7 (J [bd 8 (.cY [aH,aH,aH,aH,aH,aH,aH,aH,ar,aH,aH,aH,aH] [(0,5),(5,6),(11,1),(12,1)] []),ca 13 2 8,ai 3 (bT false)] .ret) .skip)) (.seq (.ed (an (a7 9 5 1) (an (a7 10 5 1) (.alt (aY 11 F.AP [10]) (.bZ (aY 12 F.EE [9,11]) (.bZ (ca 13 2 12) (an (ai 3 (bT true)) .done) .nil) .nil) .nil)))) .ret)))⟩:=bI (by kernel_rfl)
theorem E.EH:bH F.EH ⟨11,[.tmp 4], (J [aF 2 (.box T.td (ab 0)),ai 4 (bT false)] (J [ah 5 0 2,a7 6 5 5,ah 7 5 2,a7 8 6 7,I 9 1,aY 10 F.yB [6,8,9],I 4 10] .ret))⟩:=bI (by kernel_rfl)
theorem E.Ei:bH F.Ei ⟨31,[.tmp 4], (J [aF 2 (.box T.h (ab 0)),ai 4 (aj 0)] (J [a7 8 6 2,aY 9 F.AL [8],I 7 9,bD 10 7 0,bD 11 7 1,I 5 10,I 6 11] (.seq (J [I 12 5,az .eql T.a 13 12 4,I 14 13,aX 14 (I 15 6),aX 14 (az .geq T.a 16 15 0),dx 17 14 16,I 18 17,aX 18 (I 19 6),aX 18 (I 20 1),aX 18 (bM 21 20),aX 18 (bm .lss T.a 22 19 21),dx 23 18 22,I 24 23,aX 24 (I 25 1),aX 24 (I 26 6),aX 24 (bj 27 6 25 26),aX 24 (ah 28 5 27),aX 24 (af 29 28),dx 30 24 29] (aE 30 (J [ai 4 (aj 2)] .ret) .skip)) (J [ai 4 (aj 1)] .ret))))⟩:=bI (by kernel_rfl)
theorem E.yD:bH F.yD ⟨28,[.ic 6 4], (J [aF 2 (.box T.td (ab 0)),aF 4 (.new T.h (.agg #[cG,ar,ar,aH,aH,(.bool false)]))] (J [ah 6 12 2,af 7 6,I 8 1,bj 9 2 7 8,a7 10 2 9,aF 5 (.new T.m (.agg #[ar,ar])),ca 2 5 10] (.seq (.ed (an (ah 11 0 2) (an (ah 12 3 11) (an (af 13 12) (an (ah 14 11 2) (an (af 15 14) (an (ah 16 0 5) (an (af 17 16) (an (bj 18 2 15 17) (an (ah 19 0 18) (an (af 20 19) (an (bj 21 5 13 20) (an (ah 22 4 21) (an (af 23 22) (an (ah 24 1 5) (an (af 25 24) (an (bj 26 6 23 25) (an (a7 27 6 26) (.bZ (ca 6 4 27) .done .nil))))))))))))))))))) .ret)))⟩:=bI (by kernel_rfl)
theorem E.EJ:bH F.EJ ⟨96,[.tmp 6,.tmp 7], (J [aF 3 (.box T.td (ab 0)),ai 6 (.const aH),ai 7 (bT false)] (J [ah 16 12 3,af 17 16,I 18 2,bj 19 2 17 18,a7 20 2 19,aF 8 (.new T.m (.agg #[ar,ar])),ca 2 8 20] (J [a7 21 13 3,I 22 2,aY 23 F.yD [21,22],aF 9 (.new T.h (.agg #[cG,ar,ar,aH,aH,(.bool false)])),ca 6 9 23] (.seq (.seq (.dV [I 24 1,ah 25 5 3,ah 26 2 25,af 27 26,ah 28 0 8,af 29 28,bj 30 1 27 29,af 31 30,bj 32 1 24 31,af 33 32,ah 34 1 9,af 35 34,bm .neq T.a 36 33 35]) (aE 36 (J [ai 6 (.const aH),ai 7 (bT false)] .ret) .skip)) (.seq (J [ah 37 3 9,af 38 37,bM 39 38,az .gtr T.a 40 39 0] (aE 40 (.seq (.ed (an (ah 42 3 9) (an (af 43 42) (an (ah 44 0 3) (an (a7 45 5 44) (an (ah 46 5 3) (an (a7 47 6 46) (an (I 48 1) (an (ah 49 0 8) (an (af 50 49) (.alt (aY 51 F.yC [45,47,48,50]) (.bZ (aY 52 F.wD [43,51]) (an (I 41 52) (an (bD 53 41 0) (an (bD 54 41 1) (an (I 10 53) (an (I 11 54) .done))))) .nil) .nil))))))))))) (J [I 55 11,az .neq T.d 56 55 0,I 57 56,aq 57 (I 58 10),aq 57 (az .eql T.a 59 58 0),cm 60 57 59] (aE 60 (J [ai 6 (.const aH),ai 7 (bT false)] .ret) .skip))) .skip)) (J [I 61 1,I 12 61] (.seq (J [ai 13 (aj 0)] (.aV 0 (.loop (.seq (J [I 62 13,ah 63 4 9,af 64 63,bM 65 64,bm .lss T.a 66 62 65] (aE 66 .skip (.exit 0))) (.seq (.aV 1 (.seq (.ed (an (a7 70 13 3) (an (I 71 12) (an (ah 72 0 8) (an (af 73 72) (an (ah 74 4 9) (an (af 75 74) (an (I 76 13) (an (bj 77 5 75 76) (an (a7 78 5 77) (.bZ (aY 79 F.EI [70,71,73,78]) (an (I 69 79) (an (bD 80 69 0) (an (bD 81 69 1) (an (I 14 80) (an (I 15 81) .done))))) .nil))))))))))) (.seq (J [I 82 15,bd 83 (.un .not (ab 82))] (aE 83 (J [ai 6 (.const aH),ai 7 (bT false)] .ret) .skip)) (.bN [I 84 14,I 12 84])))) (.bN [I 67 13,az .add T.a 68 67 1,I 13 68])))))) (.seq (.ed (an (I 85 12) (an (ah 86 5 3) (an (ah 87 2 86) (an (af 88 87) (an (ah 89 0 8) (an (af 90 89) (an (bj 91 1 88 90) (an (af 92 91) (an (ah 93 2 9) (an (af 94 93) (.bZ (aY 95 F.AU [85,92,94]) (an (I 6 95) (an (ai 7 (bT true)) .done)) .nil)))))))))))) .ret))))))))⟩:=bI (by kernel_rfl)
theorem E.AL:bH F.AL ⟨40,[.tmp 2,.tmp 3], (J [aF 1 (.box T.h (ab 0)),ai 2 (aj 0),ai 3 (aj 0)] (.seq (J [ai 4 (aj 0)] (.aV 0 (.loop (.seq (J [I 5 4,ah 6 4 1,af 7 6,bM 8 7,bm .lss T.a 9 5 8] (aE 9 .skip (.exit 0))) (.seq (.aV 1 (J [ah 12 4 1,af 13 12,I 14 4,bj 15 5 13 14,ah 16 0 15,af 17 16,az .eql T.a 18 17 4,I 19 18,aq 19 (ah 20 4 1),aq 19 (af 21 20),aq 19 (I 22 4),aq 19 (bj 23 5 21 22),aq 19 (ah 24 0 23),aq 19 (af 25 24),aq 19 (az .eql T.a 26 25 5),cm 27 19 26] (aE 27 (.seq (.dV [ah 28 4 1,af 29 28,I 30 4,bj 31 5 29 30,ah 32 0 31,af 33 32,ah 34 4 1,af 35 34,I 36 4,bj 37 5 35 36,ah 38 1 37,af 39 38,I 2 33,I 3 39]) .ret) .skip))) (.bN [I 10 4,az .add T.a 11 10 1,I 4 11])))))) (J [ai 2 (aj 0),ai 3 (aj 0)] .ret)))⟩:=bI (by kernel_rfl)
theorem E.yF:bH F.yF ⟨30,[.tmp 8], (J [aF 4 (.box T.td (ab 0)),ai 8 (.const aH)] (J [ah 10 5 4,ah 11 1 10,af 12 11,I 13 2,bj 14 1 12 13,af 15 14,I 9 15] (.seq (.ed (an (I 17 1) (an (I 18 9) (an (bd 19 (.hQ 1 (ab 17) none (some (ab 18)) none)) (an (I 21 3) (an (I 23 1) (an (I 24 9) (an (I 25 3) (an (bM 26 25) (an (bm .add T.a 27 24 26) (an (bd 28 (.hQ 1 (ab 23) (some (ab 27)) none none)) (.bZ (aF 16 (.dk T.a 0 1 [] [])) (.bZ (aF 20 (.app T.c T.a 1 8 (ab 16) (ab 19))) (.bZ (aF 22 (.app T.c T.a 1 8 (ab 20) (ab 21))) (.bZ (aF 29 (.app T.c T.a 1 8 (ab 22) (ab 28))) (an (I 8 29) .done) .nil) .nil) .nil) .nil)))))))))))) .ret)))⟩:=bI (by kernel_rfl)
theorem E.yE:bH F.yE ⟨27,[.tmp 6], (J [aF 3 (.box T.td (ab 0)),ai 6 (.const aH)] (J [ah 8 5 3,ah 9 1 8,af 10 9,I 11 2,bj 12 1 10 11,af 13 12,I 7 13] (J [I 14 1,I 15 7,I 16 7,az .add T.a 17 16 1,ah 18 0 3,ah 19 2 18,af 20 19,I 21 2,bj 22 6 20 21,ah 23 2 22,af 24 23,bm .add T.a 25 17 24,bd 26 (.hQ 1 (ab 14) (some (ab 15)) (some (ab 25)) none),I 6 26] .ret)))⟩:=bI (by kernel_rfl)
theorem E.En:bH F.En ⟨32,[.tmp 4], (J [aF 2 (.box T.b (ab 0)),aF 3 (.box T.i (ab 1)),ai 4 (aj 0)] (.seq (J [ah 6 1 3,af 7 6,az .lss T.a 8 7 1,I 9 8,aq 9 (ah 10 1 3),aq 9 (af 11 10),aq 9 (ah 12 0 2),aq 9 (af 13 12),aq 9 (bM 14 13),aq 9 (bm .gtr T.a 15 11 14),cm 16 9 15] (aE 16 (J [ai 4 (aj 0)] .ret) .skip)) (J [ah 17 0 2,af 18 17,ah 19 1 3,af 20 19,az .sub T.a 21 20 1,bj 22 2 18 21,ah 23 1 22,af 24 23,I 5 24] (.seq (J [I 25 5,az .lss T.a 26 25 1,I 27 26,aq 27 (I 28 5),aq 27 (az .gtr T.a 29 28 4),cm 30 27 29] (aE 30 (J [ai 4 (aj 0)] .ret) .skip)) (J [I 31 5,I 4 31] .ret)))))⟩:=bI (by kernel_rfl)
theorem E.EK:bH F.EK ⟨46,[.tmp 6], (J [aF 3 (.box T.b (ab 0)),aF 4 (.box T.g (ab 1)),ai 6 (.const (.int .u64 0))] (J [a7 12 5 3,a7 13 6 4,I 14 2,dh 15 (.fn F.yC [(ab 12),(ab 13),(ab 14),(aj (-1))]),aF 7 (.new T.y (.agg #[aH,aH,aH,aH,ar])),ca 5 7 15] (J [ai 8 (.const (.int .u64 0))] (.seq (J [ai 9 (aj 0)] (.aV 0 (.loop (.seq (J [I 16 9,ah 17 4 3,af 18 17,bM 19 18,bm .lss T.a 20 16 19] (aE 20 .skip (.exit 0))) (.seq (.aV 1 (.seq (.dV [ah 24 4 3,af 25 24,I 26 9,bj 27 2 25 26,ah 28 1 27,af 29 28,a7 30 5 7,aY 31 F.wD [29,30],I 23 31,bD 32 23 0,bD 33 23 1,I 10 32,I 11 33]) (J [I 34 11,az .eql T.d 35 34 0,I 36 35,aX 36 (I 37 10),aX 36 (az .neq T.a 38 37 0),dx 39 36 38] (aE 39 (.bN [I 40 8,I 41 9,bd 42 (.tN .u64 (ab 41)),bd 43 (.bin .shl T.oX (.const (.int .u64 1)) (ab 42)),bm .or T.oX 44 40 43,I 8 44]) .skip)))) (.bN [I 21 9,az .add T.a 22 21 1,I 9 22])))))) (J [I 45 8,I 6 45] .ret)))))⟩:=bI (by kernel_rfl)
theorem E.w:bH F.w ⟨18,[.tmp 4], (J [aF 2 (.box T.j (ab 0)),ai 4 (aj 0)] (.seq (J [ah 7 2 2,af 8 7,az .eql T.a 9 8 0] (aE 9 (J [ai 4 (aj 1)] .ret) .skip)) (J [ah 11 2 2,af 12 11,I 13 1,aY 14 F.ap [12,13],I 10 14,bD 15 10 0,bD 16 10 1,I 5 15,I 6 16] (J [I 17 5,I 4 17] .ret))))⟩:=bI (by kernel_rfl)
def C.vL:nx:=⟨88,[], (J [aF 2 (.box T.b (ab 0))] (J [ah 13 0 2,af 14 13,aY 15 F.Cn [14],I 12 15,bD 16 12 0,bD 17 12 1,I 4 16,I 5 17] (.seq (.ff [I 18 5,I 19 4] (some 20) F.b [(ab 18),(aj 1),(ab 19),(aj 0)]) (.seq (J [ah 21 0 2,af 22 21,bM 23 22,ai 24 (aj 0)] (.aV 0 (.loop (J [bm .lss T.a 25 24 23] (eW 25 0
 (.seq (.aV 1 (J [bj 26 2 22 24,a7 27 2 26,aF 7 (.new T.xr (.agg #[cG,ar])),ca 2 7 27] (.bN [I 28 1,ah 29 0 7,af 30 29,hF (.iS .string (ab 28) (ab 30) (bT true))]))) (e9 T.a 31 24))))))) (J [ah 33 1 2,af 34 33,ah 35 0 2,af 36 35,dh 37 (.fn F.b4 [(ab 34),(ab 36),(aj 12)]),I 32 37,bD 38 32 0,bD 39 32 1,I 4 38,I 5 39] (.seq (J [ah 40 1 2,af 41 40,bM 42 41,ai 43 (aj 0)] (.aV 2 (.loop (J [bm .lss T.a 44 43 42] (eW 44 2
 (.seq (.aV 3 (J [I 45 43,bj 46 6 41 43,a7 47 6 46,aF 9 (.new T.j (.agg #[cG,ar,ar,ar,ar,ar])),I 8 45,ca 6 9 47] (.seq (J [I 48 8,I 49 4,bm .eql T.a 50 48 49] (aE 50 (.ff [I 51 5,I 52 8] (some 53) F.b [(ab 51),(aj 2),(ab 52),(aj 0)]) .skip)) (.ff [I 54 1,ah 55 0 9,af 56 55,I 57 8] (some 58) F.z [(ab 54),(ab 56),(aj 2),(ab 57)])))) (e9 T.a 59 43))))))) (J [ah 61 2 2,af 62 61,ah 63 0 2,af 64 63,aY 65 F.Co [62,64],I 60 65,bD 66 60 0,bD 67 60 1,I 4 66,I 5 67] (J [ah 68 2 2,af 69 68,bM 70 69,ai 71 (aj 0)] (.aV 4 (.loop (J [bm .lss T.a 72 71 70] (eW 72 4
 (.seq (.aV 5 (J [I 73 71,bj 74 6 69 71,a7 75 6 74,aF 11 (.new T.r (.agg #[cG,ar,ar,ar,ar,(.bool false)])),I 10 73,ca 6 11 75] (.seq (J [I 76 10,I 77 4,bm .eql T.a 78 76 77] (aE 78 (.ff [I 79 5,I 80 10] (some 81) F.b [(ab 79),(aj 3),(ab 80),(aj 0)]) .skip)) (.ff [I 82 1,ah 83 0 11,af 84 83,I 85 10] (some 86) F.z [(ab 82),(ab 84),(aj 3),(ab 85)])))) (e9 T.a 87 71))))))))))))))⟩
theorem E.vL:lQ Tryz.prog F.vL=some C.vL:=by kernel_rfl
def C.vM:nx:=⟨105,[], (J [aF 2 (.box T.b (ab 0))] (J [aF 18 .r0,I 4 18] (.seq (J [I 19 1,aF 20 (.raw (.range T.a5 (ab 19)) T.qy)] (.aV 0 (.loop (J [aF 21 (.raw (.next (ab 20) false) T.qy),bD 22 21 0] (eW 22 0
 (.aV 1 (J [aF 23 (.raw (.entry (ab 20)) T.qy),bD 24 23 0,I 5 24] (.bN [I 25 4,I 26 5,hF (.iS .string (ab 25) (ab 26) (bT true))])))))))) (.seq (J [ah 27 3 2,af 28 27,bM 29 28,ai 30 (aj 0)] (.aV 2 (.loop (J [bm .lss T.a 31 30 29] (eW 31 2
 (.seq (.aV 3 (J [bj 32 5 28 30,a7 33 5 32,aF 7 (.new T.i (.agg #[cG,ar,ar,aH,aH])),ca 5 7 33] (.bN [I 34 4,ah 35 0 7,af 36 35,hF (.iS .string (ab 34) (ab 36) (bT true))]))) (e9 T.a 37 30))))))) (.seq (J [ah 38 3 2,af 39 38,bM 40 39,ai 41 (aj 0)] (.aV 4 (.loop (J [bm .lss T.a 42 41 40] (eW 42 4
 (.seq (.aV 5 (J [I 43 41,bj 44 5 39 41,a7 45 5 44,aF 9 (.new T.i (.agg #[cG,ar,ar,aH,aH])),I 8 43,ca 5 9 45] (.seq (J [I 46 8,az .geq T.a 47 46 6] (aE 47 (.ff [I 48 8] (some 49) F.b [(aj 11),(aj 4),(ab 48),(aj 0)]) .skip)) (.seq (.ed (an (a7 51 5 9) (an (a7 52 5 2) (an (I 53 8) (.alt (aY 54 F.dU [52,53]) (.bZ (aY 55 F.Cp [51,54]) (an (I 50 55) (an (bD 56 50 0) (an (bD 57 50 1) (an (bD 58 50 2) (an (I 10 56) (an (I 11 57) (an (I 12 58) .done))))))) .nil) .nil))))) (.seq (.ff [I 59 12,I 60 8,I 61 10,bd 62 (.bin .mul T.a (aj 16) (ab 61)),I 63 11,bm .add T.a 64 62 63] (some 65) F.b [(ab 59),(aj 4),(ab 60),(ab 64)]) (.seq (.ff [I 66 1,ah 67 0 9,af 68 67,I 69 8] (some 70) F.z [(ab 66),(ab 68),(aj 4),(ab 69)]) (J [ah 71 3 9,af 72 71,bM 73 72,ai 74 (aj 0)] (.aV 6 (.loop (J [bm .lss T.a 75 74 73] (eW 75 6
 (.seq (.aV 7 (J [I 76 74,bj 77 6 72 74,a7 78 6 77,aF 14 (.new T.j (.agg #[cG,ar,ar,ar,ar,ar])),I 13 76,ca 6 14 78] (J [I 79 4,ah 80 0 14,af 81 80,n0 82 (.mv .string (.bool false) false (ab 79) (ab 81))] (aE 82 (.ff [I 83 8,I 84 13,bd 85 (.bin .add T.a (aj 16) (ab 84))] (some 86) F.b [(aj 7),(aj 4),(ab 83),(ab 85)]) .skip)))) (e9 T.a 87 74))))))))))))) (e9 T.a 88 41))))))) (J [a7 90 5 2,aY 91 F.tI [90],I 89 91,bD 92 89 0,bD 93 89 1,bD 94 89 2,I 15 92,I 16 93,I 17 94] (J [I 95 15,az .gtr T.a 96 95 12,I 97 96,aq 97 (I 98 17),aq 97 (az .gtr T.a 99 98 64),cm 100 97 99] (aE 100 (.ff [ah 101 3 2,af 102 101,bM 103 102] (some 104) F.b [(aj 11),(aj 4),(ab 103),(aj 0)]) .skip))))))))⟩
theorem E.vM:lQ Tryz.prog F.vM=some C.vM:=by kernel_rfl
def C.vN:nx:=⟨51,[], (J [aF 2 (.box T.b (ab 0))] (J [a7 9 5 2,dh 10 (.fn F.dU [(ab 9),(aj (-1))]),aF 4 (.new T.e (.agg #[aH,aH,aH,aH,aH,ar])),ca 6 4 10] (J [ah 11 4 2,af 12 11,bM 13 12,ai 14 (aj 0)] (.aV 0 (.loop (J [bm .lss T.a 15 14 13] (eW 15 0
 (.seq (.aV 1 (J [I 16 14,bj 17 2 12 14,a7 18 2 17,aF 6 (.new T.xu (.agg #[cG,aH])),I 5 16,ca 2 6 18] (.seq (.aV 2 (J [I 20 5,az .geq T.a 21 20 8,I 19 21] (aE 19 (.ff [I 22 5] (some 23) F.b [(aj 11),(aj 5),(ab 22),(aj 0)]) (J [ah 25 0 6,af 26 25,aY 27 F.kM [26],bd 28 (.un .not (ab 27)),I 24 28] (aE 24 (.ff [I 29 5] (some 30) F.b [(aj 6),(aj 5),(ab 29),(aj 0)]) .skip))))) (.seq (.ff [I 31 1,ah 32 0 6,af 33 32,I 34 5] (some 35) F.z [(ab 31),(ab 33),(aj 5),(ab 34)]) (J [ah 37 1 6,af 38 37,a7 39 6 4,aY 40 F.zB [38,39],I 36 40,bD 41 36 0,bD 42 36 1,I 7 41,I 8 42] (.seq (.ff [I 43 8,I 44 5] (some 45) F.b [(ab 43),(aj 5),(ab 44),(aj 0)]) (J [I 46 7,az .neq T.a 47 46 1] (aE 47 (.ff [I 48 5] (some 49) F.b [(aj 9),(aj 5),(ab 48),(aj 0)]) .skip)))))))) (e9 T.a 50 14)))))))))⟩
theorem E.vN:lQ Tryz.prog F.vN=some C.vN:=by kernel_rfl
theorem E.xv:bH F.xv ⟨41,[.tmp 4], (J [ai 4 (bT false)] (.seq (J [ai 5 (aj 0),ai 6 (aj 0)] (.aV 0 (.loop (.seq (J [I 7 5,I 8 0,bM 9 8,bm .lss T.a 10 7 9,I 11 10,aX 11 (I 12 6),aX 11 (I 13 1),aX 11 (bM 14 13),aX 11 (bm .lss T.a 15 12 14),dx 16 11 15] (aE 16 .skip (.exit 0))) (.aV 1 (.aV 2 (.seq (.dV [I 20 0,I 21 5,bj 22 1 20 21,af 23 22,I 24 1,I 25 6,bj 26 1 24 25,af 27 26,bm .eql T.a 28 23 27,I 19 28]) (aE 19 (J [ai 4 (bT true)] .ret) (.seq (.dV [I 30 0,I 31 5,bj 32 1 30 31,af 33 32,I 34 1,I 35 6,bj 36 1 34 35,af 37 36,bm .lss T.a 38 33 37,I 29 38]) (aE 29 (.bN [I 39 5,az .add T.a 40 39 1,I 5 40]) (.bN [I 17 6,az .add T.a 18 17 1,I 6 18]))))))))))) (J [ai 4 (bT false)] .ret)))⟩:=bI (by kernel_rfl)
theorem E.yz:bH F.yz ⟨63,[.ic 4 2], (J [aF 1 (.box T.b (ab 0)),aF 2 (.new T.v (.agg #[ar,ar,ar,ar]))] (J [a7 10 5 1,aY 11 F.Es [10],aF 3 (.new T.v (.agg #[ar,ar,ar,ar])),ca 4 3 11] (.seq (J [ai 4 (aj 0)] (.aV 0 (.loop (.seq (J [I 12 4,ah 13 3 1,af 14 13,bM 15 14,bm .lss T.a 16 12 15,I 17 16,aX 17 (ah 18 0 3),aX 17 (af 19 18),aX 17 (az .eql T.d 20 19 0),dx 21 17 20] (aE 21 .skip (.exit 0))) (.seq (.aV 1 (.bN [a7 24 5 1,I 25 4,aY 26 F.Eu [24,25],ca 4 3 26])) (.bN [I 22 4,az .add T.a 23 22 1,I 4 23])))))) (.seq (J [ah 27 0 3,af 28 27,az .neq T.d 29 28 0] (aE 29 (J [a7 30 4 3,ca 4 2 30] .ret) .skip)) (J [a7 32 5 1,aY 33 F.Er [32],I 31 33,bD 34 31 0,bD 35 31 1,bD 36 31 2,I 5 34,I 6 35,I 7 36] (.seq (J [I 37 5,az .gtr T.a 38 37 12,I 39 38,aq 39 (I 40 7),aq 39 (az .gtr T.a 41 40 64),cm 42 39 41] (aE 42 (J [ah 43 3 1,af 44 43,bM 45 44,bd 46 (.cY [ar,ar,ar,ar] [(0,1),(1,1),(2,1),(3,1)] [(0,(aj 11)),(1,(aj 4)),(2,(ab 45))]),ca 4 2 46] .ret) .skip)) (.seq (J [ai 8 (aj 0)] (.aV 2 (.loop (.seq (J [I 47 8,ah 48 4 1,af 49 48,bM 50 49,bm .lss T.a 51 47 50] (aE 51 .skip (.exit 2))) (.seq (.aV 3 (J [a7 54 5 1,I 55 8,aY 56 F.Ev [54,55],I 9 56] (J [I 57 9,az .neq T.d 58 57 0] (aE 58 (J [I 59 9,I 60 8,bd 61 (.cY [ar,ar,ar,ar] [(0,1),(1,1),(2,1),(3,1)] [(0,(ab 59)),(1,(aj 5)),(2,(ab 60))]),ca 4 2 61] .ret) .skip)))) (.bN [I 52 8,az .add T.a 53 52 1,I 8 53])))))) (J [bd 62 (.cY [ar,ar,ar,ar] [(0,1),(1,1),(2,1),(3,1)] []),ca 4 2 62] .ret))))))))⟩:=bI (by kernel_rfl)
theorem E.zy:bH F.zy ⟨4,[.tmp 2], (J [aF 1 (.box T.b (ab 0)),ai 2 (.const .nilFunc)] (J [bd 3 (.jF F.qz [] [(ab 1)]),I 2 3] .ret))⟩:=bI (by kernel_rfl)
theorem E.am:bH F.am ⟨38,[], (J [a7 8 5 1,aY 9 F.a [8],I 5 9] (J [a7 10 5 1,aY 11 F.e [10],bM 12 11,ai 13 (aj 0)] (.aV 0 (.loop (J [bm .lss T.a 14 13 12] (eW 14 0
 (.seq (.aV 1 (J [I 15 13,bj 16 2 11 13,a7 17 2 16,aF 7 (.new T.m (.agg #[ar,ar])),I 6 15,ca 2 7 17] (.seq (.ed (an (ah 18 0 7) (an (af 19 18) (an (af 20 2) (an (bm .eql T.a 21 19 20) (an (I 22 21) (an (aX 22 (a7 23 5 1)) (an (aX 22 (I 24 5)) (an (aX 22 (a7 25 2 7)) (an (aX 22 (af 28 3)) (.alt (aX 22 (aY 26 F.j [23,24,25])) (an (aX 22 (bd 27 (.jf 1 (ab 26)))) (an (aX 22 (bm .eql T.a 29 27 28)) (an (dx 30 22 29) (an (I 31 30) (an (aX 31 (I 32 0)) (an (aX 31 (I 33 6)) (.bZ (aX 31 (dh 34 (.val (ab 32) [(ab 33)]))) (an (aX 31 (bd 35 (.un .not (ab 34)))) (an (dx 36 31 35) .done)) .nil))))))) .nil))))))))))) (aE 36 .ret .skip)))) (e9 T.a 37 13))))))))⟩:=bI (by kernel_rfl)
theorem E.Ci:bH F.Ci ⟨61,[.tmp 4,.ic 6 5,.tmp 6], (J [aF 2 (.box T.b (ab 0)),ai 4 (.const (.pointer none)),aF 5 (.new T.h (.agg #[cG,ar,ar,aH,aH,(.bool false)])),ai 6 (bT false)] (.seq (J [a7 9 5 2,aY 10 F.i [9],bd 11 (.jf 0 (ab 10)),az .neq T.d 12 11 0] (aE 12 (J [bd 13 (.cY [cG,ar,ar,aH,aH,(.bool false)] [(0,1),(1,1),(2,1),(3,1),(4,1),(5,1)] []),ai 4 (.const (.pointer none)),ca 6 5 13,ai 6 (bT false)] .ret) .skip)) (J [a7 14 5 2,aY 15 F.e [14],I 7 15] (.seq (J [I 16 1,az .lss T.a 17 16 0,I 18 17,aq 18 (I 19 1),aq 18 (I 20 7),aq 18 (bM 21 20),aq 18 (bm .geq T.a 22 19 21),cm 23 18 22] (aE 23 (J [bd 24 (.cY [cG,ar,ar,aH,aH,(.bool false)] [(0,1),(1,1),(2,1),(3,1),(4,1),(5,1)] []),ai 4 (.const (.pointer none)),ca 6 5 24,ai 6 (bT false)] .ret) .skip)) (.seq (.ed (an (a7 25 5 2) (an (a7 26 5 2) (an (a7 28 5 2) (an (I 30 7) (an (I 31 1) (an (bj 32 2 30 31) (an (ah 33 0 32) (an (af 34 33) (.alt (aY 27 F.x [26]) (.alt (aY 29 F.a [28]) (an (bd 35 (.cY [aH,aH,aH,aH,aH,aH,aH,aH,ar,aH,aH,aH,ar] [(0,5),(5,6),(11,1),(12,1)] [(0,(ab 25)),(1,(ab 27)),(2,(ab 29)),(3,(ab 34))])) (.bZ (aF 36 (.box T.l7 (ab 35))) (an (I 8 36) .done) .nil)) .nil) .nil)))))))))) (.seq (.ed (an (I 37 8) (an (ah 38 3 2) (an (af 39 38) (an (I 40 8) (an (hE 41 40) (an (ah 42 11 41) (an (af 43 42) (an (I 44 8) (an (hE 45 44) (an (ah 46 12 45) (an (af 47 46) (an (bj 48 2 43 47) (an (ah 49 0 48) (an (af 50 49) (an (bj 51 5 39 50) (an (ah 52 4 51) (an (af 53 52) (an (I 54 7) (an (I 55 1) (an (bj 56 2 54 55) (an (ah 57 1 56) (an (af 58 57) (an (bj 59 6 53 58) (an (a7 60 6 59) (an (I 4 37) (.bZ (ca 6 5 60) (an (ai 6 (bT true)) .done) .nil))))))))))))))))))))))))))) .ret))))))⟩:=bI (by kernel_rfl)
theorem E.c:bH F.c ⟨18,[], (J [I 7 2,ai 8 (aj 0)] (.aV 0 (.loop (J [bm .lss T.a 9 8 7] (eW 9 0
 (.seq (.aV 1 (J [I 10 8,I 6 10] (.bN [I 11 0,I 12 1,I 13 6,bm .add T.a 14 12 13,n0 15 (.mv (.int .i64) ar false (ab 11) (ab 14)),az .add T.a 16 15 1,hF (.iS (.int .i64) (ab 11) (ab 14) (ab 16))]))) (e9 T.a 17 8)))))))⟩:=bI (by kernel_rfl)
theorem E.q:bH F.q ⟨14,[.tmp 2], (J [ai 2 (aj 0)] (.seq (.dV [I 3 0,hE 4 3,ah 5 5 4,ah 6 2 5,af 7 6,I 8 0,hE 9 8,ah 10 12 9,af 11 10,bj 12 1 7 11,af 13 12,I 2 13]) .ret))⟩:=bI (by kernel_rfl)
theorem E.qy:bH F.qy ⟨9,[], (J [aF 3 (.box T.dD (ab 0)),aF 4 (.box T.x (ab 1))] (.bN [I 6 2,bd 7 (.jF F.bv [] [(ab 3),(ab 4)]),aY 8 F.d3 [6,7]]))⟩:=bI (by kernel_rfl)
end Go.Proofs.R
end