/- Texts joined: LayQ LayR Code0 CodeP1 CodeP2 CodeP3 CodeP4. -/
import Derived.Test.YtfdohkdifdemeaaGreatDoorQdtc
import Derived.Test.YtfdohkdifdemeaaGreatDoorQdtd
import Derived.Test.YtfdohkdifdemeaaGreatDoorChecked
set_option linter.all false
set_option maxRecDepth 100000
section
namespace o
open Go
structure yU(v:Var)(s:List Scalar):Prop where
 v7:v.scalar=0∨size v.scalar s≠0
 fz:v.over=0∨size v.over s≠0
 agb:v.scalar=0→narrow v.bA v.af=true
 bA:(bounds v s).1≤v.init
 af:v.init≤(bounds v s).2
structure A9(c:dK)(s:List Scalar):Prop where
 v7:c.scalar=0∨size c.scalar s≠0
 cap:1≤c.cap∧c.cap≤4
 agb:c.scalar=0→narrow c.bA c.af=true
structure X8(p:dt)(s:List Scalar):Prop where
 over:0≤p.over∧p.over≤s.length
 cW:1≤p.cW∧p.cW≤12
 jq:p.vars.length≤4∧p.cE.length≤12
 var:∀v∈p.vars,yU v s
structure ff(m:Model):Prop where
 jq:m.scalars.length≤2∧m.vars.length≤12∧m.a7.length≤4
 procs:m.procs.length≤6
 var:∀v∈m.vars,yU v m.scalars
 chan:∀c∈m.a7,A9 c m.scalars
 proc:∀p∈m.procs,X8 p m.scalars
 insts:(pieces m).1≤12
 cells:(pieces m).2.2≤64
theorem Nw{k:Int}{s:List Scalar}(h:¬there k s=false):k=0∨size k s≠0:=by
 unfold there at h;by_cases ao:k=0
 ·exact .inl ao
 ·exact .inr (by simpa[ao] using h)
theorem Xx{l:List Var}{s:List Scalar}{i:Nat}(af:i<l.length)(h:oe l s i=0):yU l[i] s:=by
 unfold oe at h;rw[List.getElem?_eq_getElem af] at h;simp only at h;by_cases h1:there l[i].scalar s=false∨there l[i].over s=false
 ·rw[if_pos h1] at h;cases h
 rw[if_neg h1] at h;by_cases U:(l[i].scalar=0∧narrow l[i].bA l[i].af=false)∨l[i].init<(bounds l[i] s).1∨l[i].init > (bounds l[i] s).2
 ·rw[if_pos U] at h;cases h
 refine⟨Nw fun e=>h1 (.inl e),Nw fun e=>h1 (.inr e),fun ao=>?_,?_,?_⟩
 ·cases aH:narrow l[i].bA l[i].af with
  | true=>rfl
  | false=>exact absurd (.inl ⟨ao,aH⟩) U
 ·exact Int.not_lt.1 fun e=>U (.inr (.inl e))
 ·exact Int.not_lt.1 fun e=>U (.inr (.inr e))
theorem ZH{l:List dK}{s:List Scalar}{i:Nat}(af:i<l.length)(h:nK l s i=0):A9 l[i] s:=by
 unfold nK at h;rw[List.getElem?_eq_getElem af] at h;simp only at h;by_cases h1:there l[i].scalar s=false
 ·rw[if_pos h1] at h;cases h
 rw[if_neg h1] at h;by_cases U:l[i].cap<1∨l[i].cap > 4∨(l[i].scalar=0∧narrow l[i].bA l[i].af=false)
 ·rw[if_pos U] at h;cases h
 refine⟨Nw h1,by omega,fun ao=>?_⟩;cases aH:narrow l[i].bA l[i].af with
 | true=>rfl
 | false=>exact absurd (.inr (.inr ⟨ao,aH⟩)) U
theorem JI{fb:Int}{fs:Nat→ByteArray}{mo:Nat→Int}{i:Nat}(h:err fb fs mo i=0):mo i=0:=by
 unfold err at h;split at h
 ·cases h
 ·split at h
  ·cases h
  ·split at h
   ·cases h
   ·exact h
theorem mP{m:Model}(h:(check m).cM=0):ff m:=by
 unfold check at h;by_cases bx:(data m).cM≠0
 ·rw[if_pos bx] at h;exact absurd h bx
 rw[if_neg bx] at h;have bx:(data m).cM=0:=by simpa using bx
 by_cases aW:(lg m).cM≠0
 ·rw[if_pos aW] at h;exact absurd h aW
 have aW:(lg m).cM=0:=by simpa using aW
 obtain⟨h1,U,ah⟩:=Rx bx;obtain⟨gb,hQ,iT⟩:=MD aW;refine⟨F8 bx,?_,fun v aO=>?_,fun c aw=>?_,fun p aek=>?_,hQ,iT⟩
 ·apply Classical.byContradiction;intro aH
  have:=Gh (i:=6) (by omega) (gb 6 (by omega))
  omega
 ·obtain⟨i,af,rfl⟩:=List.mem_iff_getElem.1 aO;exact Xx af (JI (Ik (U i af)))
 ·obtain⟨i,af,rfl⟩:=List.mem_iff_getElem.1 aw;exact ZH af (JI (FW (ah i af)))
 ·obtain⟨i,af,rfl⟩:=List.mem_iff_getElem.1 aek;obtain⟨_,dc,_,_⟩:=Cj af (gb i af);have aG:(gz m i).scalars=m.scalars:=by
   unfold gz;split<;>rfl
  obtain⟨f1,f2,f3,f4,_⟩:=MB dc;have f5:(vars m.procs[i].vars m.scalars 4).2=0:=by
   apply Classical.byContradiction;intro aH;unfold kt at f4;rw[aG,if_pos aH] at f4;exact aH f4
  unfold whole at f3;rw[aG] at f3;split at f3
  ·cases f3
  ·split at f3
   ·cases f3
   ·split at f3
    ·cases f3
    ·exact⟨by omega,by omega,⟨f1,f2⟩,fun v aO=>by
      obtain⟨j,aI,rfl⟩:=List.mem_iff_getElem.1 aO;exact Xx aI (JI (tt f5 j aI))⟩
theorem ZD{v:Var}{s:List Scalar}(h:yU v s):1≤cells v s:=by
 have:=size_le v.over s
 have:=h.fz
 unfold cells;split<;>omega
theorem E0(s:List Scalar)(v:Var):(yq s v).length=(cells v s).toNat:=by simp[yq]
theorem FX(s:List Scalar)(c:dK):(u6 s c).length=1+c.cap.toNat:=by simp[u6];omega
theorem LW{m:Model}{x:cU}(h:x.of m):∃(i:Nat) (af:i<m.procs.length),x.proc=i∧nZ m x=ye m.scalars m.procs[i]:=by
 refine⟨x.proc.toNat,by have:=h.af;have:=h.bA;omega,by have:=h.bA;omega,?_⟩;unfold nZ;rw[lf h.bA (by exact_mod_cast h.af)]
theorem ajE{m:Model}(h:ff m):∀l∈dp m,l≠[]:=fun l a1=>by
 obtain⟨v,aO,rfl⟩:=List.mem_map.1 a1
 have:=ZD (h.var v aO)
 intro e
 have:=congrArg List.length e
 rw[E0] at this;simp at this;omega
theorem Zi(m:Model):∀l∈ej m,l≠[]:=fun l a1=>by
 obtain⟨v,aO,rfl⟩:=List.mem_map.1 a1;simp[u6]
theorem aeU(m:Model):∀l∈fG m,l≠[]:=fun l a1=>by
 obtain⟨v,aO,rfl⟩:=List.mem_map.1 a1;obtain⟨i,af,_,e⟩:=LW (tY v aO);rw[e];simp[ye]
theorem abl{m:Model}(h:ff m):h5 1 (cZ m) 0=ha 0 (dp m)∧h5 2 (cZ m) 0=ha (total (dp m)) (ej m)∧h5 3 (cZ m) 0=ha (total (dp m)+total (ej m)) (fG m):=by
 unfold cZ;simp only[Cq,nJ,List.length_append,Nat.zero_add];refine⟨?_,?_,?_⟩
 ·rw[Gk 1 _ 0 0 (ajE h),xc 1 2 (by decide),xc 1 3 (by decide)];simp
 ·rw[Gk 2 _ 0 _ (Zi m),xc 2 1 (by decide),xc 2 3 (by decide)];simp
 ·rw[Gk 3 _ 0 _ (aeU m),xc 3 1 (by decide),xc 3 2 (by decide)];simp
theorem Nq(x:Int)(l:List Int):hU (x :: l)=x+hU l:=by
 have key:∀(l:List Int) (a:Int),l.foldl (· + ·) a=a+l.foldl (· + ·) 0:=by
  intro l
  induction l with
  | nil=>intro a;simp
  | cons y r e6 =>
   intro a;simp only[List.foldl_cons];rw[e6 (a+y),e6 (0+y)];omega
 unfold hU;rw[List.foldl_cons,key];omega
theorem Ib(l:List dJ)(r:List (List dJ)):total (l :: r)=l.length+total r:=by simp[total]
theorem EV(a b:List (List dJ)):total (a++b)=total a+total b:=by simp[total]
theorem Xm(s:List Scalar):∀l:List Var,(total (l.map (yq s)):Int)=hU (l.map fun v=>cells v s)
 | []=>rfl
 | v :: r=>by
  rw[List.map_cons,Ib,List.map_cons,Nq,←Xm s r,E0]
  have:=(w1 v s).1
  omega
theorem Xj(s:List Scalar):∀l:List dK,(∀c∈l,A9 c s)→(total (l.map (u6 s)):Int)=hU (l.map pe)
 | [],_=>rfl
 | c :: r,h=>by
  rw[List.map_cons,Ib,List.map_cons,Nq,←Xj s r (fun x av=>h x (by simp[av])),FX]
  have:=(h c (by simp)).cap
  unfold pe;omega
theorem HL(s:List Scalar)(p:dt):(ye s p).length=1+p.vars.length:=by simp[ye];omega
theorem aaw(m:Model)(i:Nat)(p:dt)(h:0≤p.over):(((ih i p).length+elems m p:Nat):Int)=kb m p:=by
 unfold ih kb elems;by_cases ao:p.over=0
 ·rw[if_pos ao,if_pos ao,kK (.inl (by omega))];rfl
 ·rw[if_neg ao,if_neg ao];unfold size;by_cases h1:p.over - 1<m.scalars.length
  ·rw[lf (by omega) h1,List.getElem?_eq_getElem (by omega)];simp only;by_cases U:(m.scalars[(p.over - 1).toNat]'(by omega)).size<1∨4<(m.scalars[(p.over - 1).toNat]'(by omega)).size
   ·rw[if_pos U,if_neg (by omega)];rfl
   ·rw[if_neg U,if_pos (by omega)];simp only[List.length_nil];omega
  ·rw[kK (.inr (by omega)),List.getElem?_eq_none (by omega)];rfl
theorem Xk(m:Model):∀(l:List dt) (i:Nat),m.procs.drop i=l→(∀p∈l,0≤p.over)→(total ((iP m l i).map (nZ m)):Int)=hU (l.map fun p=>kb m p*(1+p.vars.length))
 | [],_,_,_=>rfl
 | p :: r,i,bx,h=>by
  have af:i<m.procs.length:=by
   apply Classical.byContradiction;intro aH;rw[List.drop_eq_nil_of_le (by omega)] at bx;cases bx
  rw[List.drop_eq_getElem_cons af] at bx;injection bx with aW bd
  have aB:∀x:cU,x.proc=i→(nZ m x).length=1+p.vars.length:=fun x av=>by
   unfold nZ;rw[av,lf (by omega) (by omega)];simp only[Int.toNat_natCast];rw[aW,HL]
  have dP:∀l:List cU,(∀x∈l,x.proc=i)→total (l.map (nZ m))=l.length*(1+p.vars.length):=by
   intro l
   induction l with
   | nil=>intro _;simp[total]
   | cons x r e6 =>
    intro h;rw[List.map_cons,Ib,e6 (fun y bS=>h y (by simp[bS])),aB x (h x (by simp)),List.length_cons,Nat.add_mul];omega
  have h1:∀x∈ih i p++iS i (elems m p),x.proc=i:=fun x av=>by
   rcases List.mem_append.1 av with av | av
   ·unfold ih at av;split at av
    ·rw[List.mem_singleton] at av;rw[av]
    ·cases av
   ·unfold iS at av;obtain⟨k,_,rfl⟩:=List.mem_map.1 av;rfl
  rw[iP,List.map_append,EV,dP _ h1,List.map_cons,Nq,←Xk m r (i+1) bd (fun x av=>h x (by simp[av])),←aaw m i p (h p (by simp))];rw[List.length_append,show(iS i (elems m p)).length=elems m p from by simp[iS]];simp only[Int.natCast_add,Int.natCast_mul];rfl
theorem Hw{m:Model}(h:ff m):((cZ m).length:Int)=(pieces m).2.2:=by
 rw[DL];have b2:=Xm m.scalars m.vars;have ba:=Xj m.scalars m.a7 h.chan;have bz:=Xk m m.procs 0 (by simp) (fun p aW=>(h.proc p aW).over.1);unfold pieces;simp only;rw[←b2,←ba,←bz];simp only[dp,ej,fG,insts];omega
def Sl(l:uV)(s:Int):List Int:=if s=3 then l.insts else if s=2 then l.a7 else l.vars
structure akf(m:Model)(c:Nat)(x:Cell):Prop where
 sort:1≤x.sort∧x.sort≤3
 uL:0≤x.uL∧x.uL<(Sl (layout m) x.sort).length
 at_:(Sl (layout m) x.sort)[x.uL.toNat]? = some ((c:Int) - x.place)
 place:0≤x.place∧x.place≤c
 le:x.bA≤x.af
 chan:x.sort=2→x.bA≤0∧0≤x.af
theorem Ic{ls:List (List dJ)}{i:Nat}(h:i<ls.length):total (ls.take (i+1))=total (ls.take i)+ls[i].length:=by
 rw[List.take_succ_eq_append_getElem h,ajl]
theorem ajm(ls:List (List dJ))(i:Nat):total (ls.take i)≤total ls:=by
 have e:total ls=total (ls.take i)+total (ls.drop i):=by rw[←EV,List.take_append_drop]
 omega
theorem Nu{ls:List (List dJ)}{i:Nat}(h:i<ls.length):total (ls.take i)+ls[i].length≤total ls:=by
 rw[←Ic h];exact ajm _ _
end o
end
section
namespace Go.Proofs.R
open Go bt Go.Proofs
abbrev T.am:TypeId:=0
abbrev T.a:TypeId:=3
abbrev T.l:TypeId:=4
abbrev T.y:TypeId:=5
abbrev T.k:TypeId:=9
abbrev T.nf:TypeId:=20
abbrev T.z:TypeId:=21
abbrev T.jE:TypeId:=22
abbrev T.By:TypeId:=23
abbrev T.wP:TypeId:=24
abbrev T.qN:TypeId:=25
abbrev T.Q2:TypeId:=26
abbrev T.b:TypeId:=28
abbrev T.s:TypeId:=36
abbrev T.c:TypeId:=40
abbrev T.t:TypeId:=42
abbrev T.e:TypeId:=45
abbrev T.x:TypeId:=50
abbrev T.kW:TypeId:=51
abbrev T.j:TypeId:=53
abbrev T.as:TypeId:=54
abbrev T.g:TypeId:=56
abbrev T.n:TypeId:=58
abbrev T.pa:TypeId:=59
abbrev T.ak:TypeId:=62
abbrev T.gB:TypeId:=69
abbrev T.i:TypeId:=72
abbrev T.v:TypeId:=76
abbrev T.q:TypeId:=79
abbrev T.ac:TypeId:=81
abbrev T.r:TypeId:=83
abbrev T.f:TypeId:=85
abbrev T.rR:TypeId:=100
abbrev T.s4:TypeId:=103
abbrev T.aiJ:TypeId:=105
abbrev T.Ax:TypeId:=109
abbrev T.h:TypeId:=122
abbrev T.FL:TypeId:=142
abbrev T.a2:TypeId:=143
abbrev T.a3:TypeId:=144
abbrev T.rS:TypeId:=156
abbrev T.w:TypeId:=160
abbrev T.d:TypeId:=197
abbrev T.I3:TypeId:=207
abbrev T.kV:TypeId:=214
abbrev T.EI:TypeId:=219
abbrev T.kJ:TypeId:=222
abbrev T.BA:TypeId:=237
abbrev T.a5:TypeId:=246
abbrev T.a0:TypeId:=247
abbrev T.ox:TypeId:=250
abbrev T.ap:TypeId:=256
abbrev T.o9:TypeId:=261
abbrev T.pU:TypeId:=264
abbrev T.m:TypeId:=266
abbrev T.u:TypeId:=268
abbrev T.a4:TypeId:=314
abbrev F.Ek:FuncId:=4
abbrev F.Ej:FuncId:=5
abbrev F.Aq:FuncId:=8
abbrev F.sD:FuncId:=14
abbrev F.a5:FuncId:=15
abbrev F.Eg:FuncId:=16
abbrev F.i:FuncId:=17
abbrev F.Ef:FuncId:=18
abbrev F.ak:FuncId:=19
abbrev F.Eh:FuncId:=20
abbrev F.uh:FuncId:=22
abbrev F.oR:FuncId:=26
abbrev F.D5:FuncId:=28
abbrev F.BP:FuncId:=30
abbrev F.j:FuncId:=31
abbrev F.Cl:FuncId:=33
abbrev F.nc:FuncId:=34
abbrev F.ex:FuncId:=35
abbrev F.Az:FuncId:=44
abbrev F.qJ:FuncId:=45
abbrev F.a9:FuncId:=46
abbrev F.vN:FuncId:=47
abbrev F.Ay:FuncId:=48
abbrev F.Aw:FuncId:=49
abbrev F.a:FuncId:=50
abbrev F.e:FuncId:=51
abbrev F.cV:FuncId:=52
abbrev F.y2:FuncId:=53
abbrev F.k:FuncId:=54
abbrev F.s5:FuncId:=55
abbrev F.c3:FuncId:=56
abbrev F.y3:FuncId:=57
abbrev F.w:FuncId:=58
abbrev F.Eb:FuncId:=59
abbrev F.As:FuncId:=60
abbrev F.D9:FuncId:=62
abbrev F.D1:FuncId:=72
abbrev F.x:FuncId:=74
abbrev F.c2:FuncId:=76
abbrev F.bJ:FuncId:=77
abbrev F.bW:FuncId:=78
abbrev F.wT:FuncId:=86
abbrev F.ox:FuncId:=88
abbrev F.x5:FuncId:=89
abbrev F.x8:FuncId:=90
abbrev F.pd:FuncId:=91
abbrev F.y4:FuncId:=92
abbrev F.gB:FuncId:=93
abbrev F.u2:FuncId:=94
abbrev F.c:FuncId:=95
abbrev F.q:FuncId:=96
abbrev F.rP:FuncId:=97
abbrev F.rT:FuncId:=98
abbrev F.wX:FuncId:=99
abbrev F.y5:FuncId:=100
abbrev F.y:FuncId:=101
abbrev F.wY:FuncId:=102
abbrev F.pZ:FuncId:=103
abbrev F.bi:FuncId:=104
abbrev F.p0:FuncId:=105
abbrev F.Ec:FuncId:=106
abbrev F.Ed:FuncId:=107
abbrev F.Ar:FuncId:=108
abbrev F.vO:FuncId:=109
abbrev F.Au:FuncId:=110
abbrev F.x7:FuncId:=111
abbrev F.Av:FuncId:=112
abbrev F.Ea:FuncId:=115
abbrev F.o9:FuncId:=121
abbrev F.BQ:FuncId:=122
abbrev F.b:FuncId:=123
abbrev F.cF:FuncId:=124
abbrev F.jE:FuncId:=125
abbrev F.BR:FuncId:=126
abbrev F.BS:FuncId:=127
abbrev F.y7:FuncId:=128
abbrev F.kV:FuncId:=129
abbrev F.dE:FuncId:=130
abbrev F.D4:FuncId:=134
abbrev F.D6:FuncId:=135
abbrev F.D3:FuncId:=136
abbrev F.D7:FuncId:=137
abbrev F.vi:FuncId:=138
abbrev F.am:FuncId:=139
abbrev F.BT:FuncId:=140
abbrev F.BU:FuncId:=141
abbrev F.y9:FuncId:=142
abbrev F.l:FuncId:=143
abbrev F.pa:FuncId:=144
abbrev F.dw:FuncId:=145
abbrev F.eX:FuncId:=146
abbrev F.BV:FuncId:=147
abbrev F.BW:FuncId:=148
abbrev F.bz:FuncId:=149
abbrev F.bX:FuncId:=150
abbrev F.ac:FuncId:=151
abbrev F.x3:FuncId:=152
abbrev F.D8:FuncId:=153
abbrev F.Ee:FuncId:=154
abbrev F.An:FuncId:=155
abbrev F.DP:FuncId:=156
abbrev F.ap:FuncId:=164
abbrev F.ng:FuncId:=165
abbrev F.b0:FuncId:=166
abbrev F.dN:FuncId:=167
abbrev F.za:FuncId:=168
abbrev F.qN:FuncId:=169
abbrev F.bv:FuncId:=170
abbrev F.nI:FuncId:=171
abbrev F.bR:FuncId:=172
abbrev F.jn:FuncId:=173
abbrev F.BX:FuncId:=174
abbrev F.BY:FuncId:=175
abbrev F.ly:FuncId:=176
abbrev F.BZ:FuncId:=177
abbrev F.tr:FuncId:=178
abbrev F.bE:FuncId:=179
abbrev F.B0:FuncId:=180
abbrev F.cp:FuncId:=181
abbrev F.B1:FuncId:=182
abbrev F.ch:FuncId:=183
abbrev F.B2:FuncId:=184
abbrev F.d0:FuncId:=185
abbrev F.d1:FuncId:=186
abbrev F.d2:FuncId:=187
abbrev F.DU:FuncId:=190
abbrev F.Ao:FuncId:=191
abbrev F.uj:FuncId:=192
abbrev F.ui:FuncId:=193
abbrev F.DT:FuncId:=194
abbrev F.DZ:FuncId:=195
abbrev F.D0:FuncId:=196
abbrev F.D2:FuncId:=197
abbrev F.sC:FuncId:=198
abbrev F.Am:FuncId:=199
abbrev F.ca:FuncId:=202
abbrev F.kW:FuncId:=203
abbrev F.as:FuncId:=204
abbrev F.qe:FuncId:=207
abbrev F.x6:FuncId:=208
abbrev F.ek:FuncId:=217
abbrev F.dY:FuncId:=218
abbrev F.d8:FuncId:=219
abbrev F.pU:FuncId:=220
abbrev F.kX:FuncId:=221
abbrev F.d9:FuncId:=222
abbrev F.b2:FuncId:=223
abbrev F.jI:FuncId:=224
abbrev F.B6:FuncId:=225
abbrev F.B7:FuncId:=226
abbrev F.B8:FuncId:=227
abbrev F.nf:FuncId:=228
abbrev F.B9:FuncId:=229
abbrev F.Ca:FuncId:=230
abbrev F.Cb:FuncId:=231
abbrev F.DV:FuncId:=232
abbrev F.x4:FuncId:=233
abbrev F.DW:FuncId:=234
abbrev F.DN:FuncId:=235
abbrev F.DQ:FuncId:=236
abbrev F.DR:FuncId:=237
abbrev F.DS:FuncId:=238
abbrev F.fR:FuncId:=241
abbrev F.ba:FuncId:=253
abbrev F.Ch:FuncId:=254
abbrev F.Ci:FuncId:=255
abbrev F.rR:FuncId:=256
abbrev F.kA:FuncId:=257
abbrev F.eq:FuncId:=258
abbrev F.b9:FuncId:=259
abbrev F.tj:FuncId:=260
abbrev F.gJ:FuncId:=261
abbrev F.rS:FuncId:=262
abbrev F.pW:FuncId:=263
abbrev F.n:FuncId:=264
abbrev F.kk:FuncId:=265
abbrev F.zd:FuncId:=266
abbrev F.ce:FuncId:=267
abbrev F.zf:FuncId:=268
abbrev F.gl:FuncId:=269
abbrev F.rW:FuncId:=270
abbrev F.es:FuncId:=271
abbrev F.ci:FuncId:=272
abbrev F.a0:FuncId:=273
abbrev F.dG:FuncId:=274
abbrev F.ug:FuncId:=275
abbrev F.DX:FuncId:=276
abbrev F.Ak:FuncId:=277
abbrev F.x1:FuncId:=278
abbrev F.DO:FuncId:=279
abbrev F.vM:FuncId:=280
abbrev F.rm:FuncId:=281
abbrev F.Al:FuncId:=282
abbrev F.cl:FuncId:=298
abbrev F.zi:FuncId:=299
abbrev F.w3:FuncId:=300
abbrev F.c7:FuncId:=301
abbrev F.co:FuncId:=302
abbrev F.DY:FuncId:=303
abbrev F.Ap:FuncId:=304
abbrev F.x2:FuncId:=305
abbrev G.Vk:Nat:=0
theorem l3:Tryz.prog.follows .mixedOrders=true:=by kernel_rfl
theorem bP{f:FuncId}{L:mZ}{args:List Value}{R:Value→World→Prop}{w:World}(aw:lA Tryz.prog f=some L)(h:dR Tryz.prog L.code (qW L.res R ⟨⟩) (hL args 0) w ⟨⟩)(bu:args.length≤L.n:=by exact Nat.le_of_ble_eq_true rfl):bw Tryz.prog f args.toArray w R:=K.start l3 aw bu h
abbrev bN(f:FuncId)(c:mZ):Prop:=lA Tryz.prog f=some c
theorem bO{f:FuncId}{c:mZ}(h:lA Tryz.prog f=some c):bN f c:=h
theorem E.Ek:bN F.Ek ⟨101,[.tmp 2], (J [ay 1 (.box T.b (ab 0)),aj 2 (b4 false)] (.seq (J [a6 8 5 1,bb 9 F.Aq [8],bh 10 (.un .not (ab 9))] (aD 10 (J [bb 11 F.sD [],I 2 11] .ret) .skip)) (.seq (.dW (al (a6 12 5 1) (al (a6 14 5 1) (.alt (bb 13 F.a5 [12]) (.bT (bb 15 F.Eg [14]) (al (I 3 13) (al (I 4 15) .done)) .nil) .nil)))) (.seq (J [I 16 3,bI 17 16,I 18 4,bI 19 18,bl .neq T.a 20 17 19] (aD 20 (J [aj 2 (b4 false)] .ret) .skip)) (.seq (J [aj 5 (ai 0)] (.aQ 0 (.loop (.seq (J [I 21 5,I 22 3,bI 23 22,bl .lss T.a 24 21 23] (aD 24 .skip (.exit 0))) (.seq (.aQ 1 (.seq (.ec [I 27 3,I 28 5,bc 29 1 27 28,ae 30 29,bI 31 30,I 32 4,I 33 5,bc 34 1 32 33,ae 35 34,bI 36 35,bl .neq T.a 37 31 36]) (aD 37 (J [aj 2 (b4 false)] .ret) .skip))) (.bF [I 25 5,az .add T.a 26 25 1,I 5 26])))))) (.seq (J [aj 6 (ai 0)] (.aQ 2 (.loop (.seq (J [I 38 6,I 39 3,bI 40 39,bl .lss T.a 41 38 40] (aD 41 .skip (.exit 2))) (.seq (.aQ 3 (J [aj 7 (ai 0)] (.aQ 4 (.loop (.seq (J [I 44 7,I 45 3,I 46 6,bc 47 1 45 46,ae 48 47,bI 49 48,bl .lss T.a 50 44 49] (aD 50 .skip (.exit 4))) (.seq (.aQ 5 (.seq (.ec [I 53 3,I 54 6,bc 55 1 53 54,ae 56 55,I 57 7,bc 58 1 56 57,ae 59 58,I 60 4,I 61 6,bc 62 1 60 61,ae 63 62,I 64 7,bc 65 1 63 64,ae 66 65,bl .neq T.l 67 59 66,I 68 67,au 68 (I 69 7),au 68 (I 70 3),au 68 (bI 71 70),au 68 (bl .lss T.a 72 69 71),au 68 (I 73 72),aS 73 (I 74 6),aS 73 (I 75 3),aS 73 (I 76 7),aS 73 (bc 77 1 75 76),aS 73 (ae 78 77),aS 73 (bI 79 78),aS 73 (bl .lss T.a 80 74 79),au 68 (du 81 73 80),au 68 (I 82 81),aS 82 (I 83 3),aS 82 (I 84 6),aS 82 (bc 85 1 83 84),aS 82 (ae 86 85),aS 82 (I 87 7),aS 82 (bc 88 1 86 87),aS 82 (ae 89 88),aS 82 (I 90 3),aS 82 (I 91 7),aS 82 (bc 92 1 90 91),aS 82 (ae 93 92),aS 82 (I 94 6),aS 82 (bc 95 1 93 94),aS 82 (ae 96 95),aS 82 (bl .neq T.l 97 89 96),au 68 (du 98 82 97),ct 99 68 98]) (aD 99 (J [aj 2 (b4 false)] .ret) .skip))) (.bF [I 51 7,az .add T.a 52 51 1,I 7 52]))))))) (.bF [I 42 6,az .add T.a 43 42 1,I 6 43])))))) (J [bb 100 F.sD [],I 2 100] .ret)))))))⟩:=bO (by kernel_rfl)
theorem E.Ej:bN F.Ej ⟨34,[.tmp 8], (J [ay 4 (.box T.b (ab 0)),aj 8 (b4 false)] (.seq (J [a6 9 5 4,bb 10 F.Aq [9],bh 11 (.un .not (ab 10))] (aD 11 (J [bb 12 F.sD [],I 8 12] .ret) .skip)) (.seq (.ec [a6 13 5 4,I 14 1,I 15 2,bb 16 F.i [13,14,15],a6 17 5 4,I 18 1,I 19 2,bb 20 F.Ef [17,18,19],bl .eql T.l 21 16 20,I 22 21,aS 22 (a6 23 5 4),aS 22 (I 24 3),aS 22 (bb 25 F.ak [23,24]),aS 22 (a6 26 5 4),aS 22 (I 27 3),aS 22 (bb 28 F.Eh [26,27]),aS 22 (bl .eql T.l 29 25 28),du 30 22 29,I 31 30,aS 31 (bb 32 F.sD []),du 33 31 32,I 8 33]) .ret)))⟩:=bO (by kernel_rfl)
theorem E.Aq:bN F.Aq ⟨96,[.tmp 2], (J [ay 1 (.box T.b (ab 0)),aj 2 (b4 false)] (.seq (J [ag 6 0 1,ae 7 6,bI 8 7,az .gtr T.a 9 8 8,I 10 9,au 10 (ag 11 1 1),au 10 (ae 12 11),au 10 (bI 13 12),au 10 (az .gtr T.a 14 13 20),ct 15 10 14,I 16 15,au 16 (ag 17 2 1),au 16 (ae 18 17),au 16 (bI 19 18),au 16 (az .gtr T.a 20 19 8),ct 21 16 20,I 22 21,au 22 (ag 23 3 1),au 22 (ae 24 23),au 22 (bI 25 24),au 22 (az .gtr T.a 26 25 10),ct 27 22 26,I 28 27,au 28 (ag 29 4 1),au 28 (ae 30 29),au 28 (bI 31 30),au 28 (az .gtr T.a 32 31 16),ct 33 28 32] (aD 33 (J [aj 2 (b4 false)] .ret) .skip)) (.seq (J [aj 3 (ai 0)] (.aQ 0 (.loop (.seq (J [I 34 3,ag 35 3 1,ae 36 35,bI 37 36,bl .lss T.a 38 34 37] (aD 38 .skip (.exit 0))) (.seq (.aQ 1 (.seq (J [ag 41 3 1,ae 42 41,I 43 3,bc 44 5 42 43,ag 45 3 44,ae 46 45,bI 47 46,az .gtr T.a 48 47 10,I 49 48,au 49 (ag 50 3 1),au 49 (ae 51 50),au 49 (I 52 3),au 49 (bc 53 5 51 52),au 49 (ag 54 4 53),au 49 (ae 55 54),au 49 (bI 56 55),au 49 (az .gtr T.a 57 56 16),ct 58 49 57] (aD 58 (J [aj 2 (b4 false)] .ret) .skip)) (J [aj 4 (ai 0)] (.aQ 2 (.loop (.seq (J [I 59 4,ag 60 3 1,ae 61 60,I 62 3,bc 63 5 61 62,ag 64 4 63,ae 65 64,bI 66 65,bl .lss T.a 67 59 66] (aD 67 .skip (.exit 2))) (.seq (.aQ 3 (J [ag 70 3 1,ae 71 70,I 72 3,bc 73 5 71 72,ag 74 4 73,ae 75 74,I 76 4,bc 77 6 75 76,a6 78 6 77,bb 79 F.D5 [78],bh 80 (.un .not (ab 79))] (aD 80 (J [aj 2 (b4 false)] .ret) .skip))) (.bF [I 68 4,az .add T.a 69 68 1,I 4 69])))))))) (.bF [I 39 3,az .add T.a 40 39 1,I 3 40])))))) (.seq (J [aj 5 (ai 0)] (.aQ 4 (.loop (.seq (J [I 81 5,ag 82 4 1,ae 83 82,bI 84 83,bl .lss T.a 85 81 84] (aD 85 .skip (.exit 4))) (.seq (.aQ 5 (J [ag 88 4 1,ae 89 88,I 90 5,bc 91 2 89 90,ag 92 1 91,ae 93 92,bI 94 93,az .gtr T.a 95 94 60] (aD 95 (J [aj 2 (b4 false)] .ret) .skip))) (.bF [I 86 5,az .add T.a 87 86 1,I 5 87])))))) (J [aj 2 (b4 true)] .ret)))))⟩:=bO (by kernel_rfl)
theorem E.sD:bN F.sD ⟨85,[.tmp 0], (J [aj 0 (b4 false)] (J [dh 4 (.fn F.Az [(.const (.string ⟨#[80]⟩))]),dh 5 (.fn F.Az [(.const (.string ⟨#[81]⟩))]),ay 6 (.cQ T.g 2 5 [cu,an,an,aP,aP,cu,an,an,aP,aP] [(0,(ab 4)),(1,(ab 5))]),bh 7 (.cP [aP,aP,aP,aP,aP] [(0,1),(1,1),(2,1),(3,1),(4,1)] [(3,(ab 6))]),ay 1 (.new T.b (.agg #[aP,aP,aP,aP,aP])),cf 5 1 7] (J [a6 8 5 1,bb 9 F.a5 [8],I 2 9] (J [bh 10 (.cP [cu,an,an,aP,aP,(.bool false)] [(0,1),(1,1),(2,1),(3,1),(4,1),(5,1)] [(0,(.const (.string ⟨#[103,111]⟩))),(1,(ai 1))]),ay 11 (.cQ T.j 1 6 [cu,an,an,aP,aP,(.bool false)] [(0,(ab 10))]),bh 12 (.cP [cu,an,an,aP,aP] [(0,1),(1,1),(2,1),(3,1),(4,1)] [(0,(.const (.string ⟨#[80]⟩))),(2,(ai 2)),(4,(ab 11))]),ay 13 (.cQ T.g 1 5 [cu,an,an,aP,aP] [(0,(ab 12))]),bh 14 (.cP [aP,aP,aP,aP,aP] [(0,1),(1,1),(2,1),(3,1),(4,1)] [(3,(ab 13))]),ay 3 (.new T.b (.agg #[aP,aP,aP,aP,aP])),cf 5 3 14] (.seq (J [I 15 2,bI 16 15,az .neq T.a 17 16 2,I 18 17,au 18 (I 19 2),au 18 (bh 20 (.ib 1 (ab 19) (ai 0))),au 18 (ae 21 20),au 18 (bI 22 21),au 18 (az .neq T.a 23 22 2),ct 24 18 23,I 25 24,au 25 (I 26 2),au 25 (bh 27 (.ib 1 (ab 26) (ai 1))),au 25 (ae 28 27),au 25 (bI 29 28),au 25 (az .neq T.a 30 29 2),ct 31 25 30] (aD 31 (J [aj 0 (b4 false)] .ret) .skip)) (J [I 32 2,bh 33 (.ib 1 (ab 32) (ai 0)),ae 34 33,bh 35 (.ib 1 (ab 34) (ai 0)),ae 36 35,I 37 36,aS 37 (I 38 2),aS 37 (bh 39 (.ib 1 (ab 38) (ai 0))),aS 37 (ae 40 39),aS 37 (bh 41 (.ib 1 (ab 40) (ai 1))),aS 37 (ae 42 41),aS 37 (bh 43 (.un .not (ab 42))),du 44 37 43,I 45 44,aS 45 (I 46 2),aS 45 (bh 47 (.ib 1 (ab 46) (ai 1))),aS 45 (ae 48 47),aS 45 (bh 49 (.ib 1 (ab 48) (ai 0))),aS 45 (ae 50 49),aS 45 (bh 51 (.un .not (ab 50))),du 52 45 51,I 53 52,aS 53 (a6 54 5 1),aS 53 (dh 55 (.fn F.i [(ab 54),(ai 0),(ai 0)])),du 56 53 55,I 57 56,aS 57 (a6 58 5 1),aS 57 (dh 59 (.fn F.i [(ab 58),(ai 1),(ai 0)])),du 60 57 59,I 61 60,aS 61 (a6 62 5 1),aS 61 (dh 63 (.fn F.i [(ab 62),(ai 2),(ai 0)])),aS 61 (bh 64 (.un .not (ab 63))),du 65 61 64,I 66 65,aS 66 (a6 67 5 1),aS 66 (dh 68 (.fn F.i [(ab 67),(ai 0),(ai 2)])),aS 66 (bh 69 (.un .not (ab 68))),du 70 66 69,I 71 70,aS 71 (a6 72 5 1),aS 71 (dh 73 (.fn F.ak [(ab 72),(ai 0)])),aS 71 (bh 74 (.un .not (ab 73))),du 75 71 74,I 76 75,aS 76 (a6 77 5 3),aS 76 (dh 78 (.fn F.ak [(ab 77),(ai 0)])),du 79 76 78,I 80 79,aS 80 (a6 81 5 1),aS 80 (dh 82 (.fn F.ak [(ab 81),(ai 2)])),aS 80 (bh 83 (.un .not (ab 82))),du 84 80 83,I 0 84] .ret))))))⟩:=bO (by kernel_rfl)
theorem E.a5:bN F.a5 ⟨50,[.tmp 2], (J [ay 1 (.box T.b (ab 0)),aj 2 (.const aP)] (.seq (J [a6 7 5 1,bb 8 F.j [7],bh 9 (.jd 0 (ab 8)),az .neq T.e 10 9 0] (aD 10 (J [aj 2 (.const aP)] .ret) .skip)) (J [a6 11 5 1,bb 12 F.qJ [11],I 3 12] (J [I 13 3,bI 14 13,ay 15 (.pA T.s 1 24 aP (ab 14) (ab 14)),I 4 15] (.seq (J [I 16 3,bI 17 16,aj 18 (ai 0)] (.aQ 0 (.loop (J [bl .lss T.a 19 18 17] (eS 19 0
 (.seq (.aQ 1 (J [I 20 18,I 5 20] (J [I 21 4,I 22 5,I 23 3,bI 24 23,ay 25 (.pA T.l 1 1 (.bool false) (ab 24) (ab 24)),bc 26 1 21 22,ys 26 25] (J [I 27 3,bI 28 27,aj 29 (ai 0)] (.aQ 2 (.loop (J [bl .lss T.a 30 29 28] (eS 30 2
 (.seq (.aQ 3 (J [I 31 29,I 6 31] (.dW (al (I 32 4) (al (I 33 5) (al (bc 34 1 32 33) (al (ae 35 34) (al (I 36 6) (al (I 37 3) (al (I 38 5) (al (bc 39 2 37 38) (al (a6 40 2 39) (al (I 41 3) (al (I 42 6) (al (bc 43 2 41 42) (al (a6 44 2 43) (.alt (bb 45 F.a9 [40,44]) (al (bc 46 1 35 36) (.bT (ys 46 45) .done .nil)) .nil))))))))))))))))) (e0 T.a 47 29)))))))))) (e0 T.a 48 18))))))) (J [I 49 4,I 2 49] .ret))))))⟩:=bO (by kernel_rfl)
theorem E.Eg:bN F.Eg ⟨46,[.tmp 2], (J [ay 1 (.box T.b (ab 0)),aj 2 (.const aP)] (.seq (J [a6 7 5 1,bb 8 F.vN [7],bh 9 (.un .not (ab 8))] (aD 9 (J [aj 2 (.const aP)] .ret) .skip)) (J [a6 10 5 1,bb 11 F.Ay [10],I 3 11] (J [I 12 3,bI 13 12,ay 14 (.pA T.s 1 24 aP (ab 13) (ab 13)),I 4 14] (.seq (J [aj 5 (ai 0)] (.aQ 0 (.loop (.seq (J [I 15 5,I 16 3,bI 17 16,bl .lss T.a 18 15 17] (aD 18 .skip (.exit 0))) (.seq (.aQ 1 (J [aj 6 (ai 0)] (.aQ 2 (.loop (.seq (J [I 21 6,I 22 3,bI 23 22,bl .lss T.a 24 21 23] (aD 24 .skip (.exit 2))) (.seq (.aQ 3 (.dW (al (I 27 4) (al (I 28 5) (al (I 29 4) (al (I 30 5) (al (bc 31 1 29 30) (al (ae 32 31) (al (I 33 3) (al (I 34 5) (al (bc 35 2 33 34) (al (a6 36 2 35) (al (I 37 3) (al (I 38 6) (al (bc 39 2 37 38) (al (a6 40 2 39) (.alt (bb 41 F.Aw [36,40]) (.alt (ay 42 (.cQ T.l 1 1 [(.bool false)] [(0,(ab 41))])) (.bT (ay 43 (.app T.s T.l 1 1 (ab 32) (ab 42))) (al (bc 44 1 27 28) (.bT (ys 44 43) .done .nil)) .nil) .nil) .nil))))))))))))))))) (.bF [I 25 6,az .add T.a 26 25 1,I 6 26]))))))) (.bF [I 19 5,az .add T.a 20 19 1,I 5 20])))))) (J [I 45 4,I 2 45] .ret))))))⟩:=bO (by kernel_rfl)
theorem E.Ef:bN F.Ef ⟨98,[.tmp 6], (J [ay 3 (.box T.b (ab 0)),aj 6 (b4 false)] (.seq (J [a6 13 5 3,bb 14 F.vN [13],bh 15 (.un .not (ab 14))] (aD 15 (J [aj 6 (b4 false)] .ret) .skip)) (J [a6 16 5 3,bb 17 F.oR [16],I 7 17] (.seq (J [I 18 1,az .lss T.a 19 18 0,I 20 19,au 20 (I 21 1),au 20 (I 22 7),au 20 (bI 23 22),au 20 (bl .geq T.a 24 21 23),ct 25 20 24] (aD 25 (J [aj 6 (b4 false)] .ret) .skip)) (.seq (.dW (al (ag 26 3 3) (al (ae 27 26) (al (I 28 7) (al (I 29 1) (al (bc 30 2 28 29) (al (ag 31 0 30) (al (ae 32 31) (al (bc 33 5 27 32) (al (a6 34 5 33) (.alt (ay 8 (.new T.g (.agg #[cu,an,an,aP,aP]))) (.bT (cf 5 8 34) .done .nil) .nil))))))))))) (.seq (J [I 35 2,az .lss T.a 36 35 0,I 37 36,au 37 (I 38 2),au 37 (ag 39 2 8),au 37 (ae 40 39),au 37 (bl .geq T.a 41 38 40),ct 42 37 41] (aD 42 (J [aj 6 (b4 false)] .ret) .skip)) (.seq (.dW (al (a6 43 5 3) (al (a6 45 5 3) (.alt (bb 44 F.uh [43]) (.bT (bb 46 F.Ay [45]) (al (I 9 44) (al (I 10 46) .done)) .nil) .nil)))) (.seq (J [aj 11 (ai 0)] (.aQ 0 (.loop (.seq (J [I 47 11,I 48 9,bI 49 48,bl .lss T.a 50 47 49] (aD 50 .skip (.exit 0))) (.seq (.aQ 1 (.seq (.seq (.ec [I 53 9,I 54 11,bc 55 2 53 54,ag 56 0 55,ae 57 56,I 58 1,bl .neq T.a 59 57 58,I 60 59,au 60 (ag 61 4 8),au 60 (ae 62 61),au 60 (I 63 9),au 60 (I 64 11),au 60 (bc 65 2 63 64),au 60 (ag 66 1 65),au 60 (ae 67 66),au 60 (bc 68 6 62 67),au 60 (ag 69 1 68),au 60 (ae 70 69),au 60 (I 71 2),au 60 (bl .neq T.a 72 70 71),ct 73 60 72]) (aD 73 (.exit 1) .skip)) (J [aj 12 (ai 0)] (.aQ 2 (.loop (.seq (J [I 74 12,I 75 9,bI 76 75,bl .lss T.a 77 74 76] (aD 77 .skip (.exit 2))) (.seq (.aQ 3 (.seq (.ec [I 80 9,I 81 12,bc 82 2 80 81,ag 83 0 82,ae 84 83,I 85 1,bl .neq T.a 86 84 85,I 87 86,aS 87 (I 88 10),aS 87 (I 89 11),aS 87 (bc 90 2 88 89),aS 87 (a6 91 2 90),aS 87 (I 92 10),aS 87 (I 93 12),aS 87 (bc 94 2 92 93),aS 87 (a6 95 2 94),aS 87 (bb 96 F.Aw [91,95]),du 97 87 96]) (aD 97 (J [aj 6 (b4 false)] .ret) .skip))) (.bF [I 78 12,az .add T.a 79 78 1,I 12 79])))))))) (.bF [I 51 11,az .add T.a 52 51 1,I 11 52])))))) (J [aj 6 (b4 true)] .ret)))))))))⟩:=bO (by kernel_rfl)
theorem E.ak:bN F.ak ⟨50,[.tmp 4], (J [ay 2 (.box T.b (ab 0)),aj 4 (b4 false)] (.seq (J [a6 10 5 2,bb 11 F.j [10],bh 12 (.jd 0 (ab 11)),az .neq T.e 13 12 0] (aD 13 (J [aj 4 (b4 false)] .ret) .skip)) (J [a6 14 5 2,bb 15 F.e [14],I 5 15] (.seq (J [I 16 1,az .lss T.a 17 16 0,I 18 17,au 18 (I 19 1),au 18 (I 20 5),au 18 (bI 21 20),au 18 (bl .geq T.a 22 19 21),ct 23 18 22] (aD 23 (J [aj 4 (b4 false)] .ret) .skip)) (.seq (.dW (al (a6 24 5 2) (al (a6 25 5 2) (al (I 27 5) (al (I 28 1) (al (bc 29 2 27 28) (al (a6 30 2 29) (.alt (bb 26 F.a [25]) (.bT (bb 31 F.k [24,26,30]) (.alt (ay 6 (.new T.j (.agg #[cu,an,an,aP,aP,(.bool false)]))) (.bT (cf 6 6 31) .done .nil) .nil) (.alt (ay 6 (.new T.j (.agg #[cu,an,an,aP,aP,(.bool false)]))) (.bT (bb 31 F.k [24,26,30]) (.bT (cf 6 6 31) .done .nil) .nil) .nil)) (.alt (ay 6 (.new T.j (.agg #[cu,an,an,aP,aP,(.bool false)]))) (.alt (bb 26 F.a [25]) (.bT (bb 31 F.k [24,26,30]) (.bT (cf 6 6 31) .done .nil) .nil) .nil) .nil))))))))) (J [a6 33 5 2,I 34 1,bb 35 F.s5 [33,34],I 32 35,bZ 36 32 0,bZ 37 32 1,I 7 36,I 8 37] (J [a6 38 5 2,bb 39 F.c3 [38],ay 9 (.new T.s aP),ys 9 39] (J [ag 40 2 6,ae 41 40,ag 42 1 6,ae 43 42,bl .leq T.a 44 41 43,I 45 44,au 45 (I 46 8),au 45 (bh 47 (.jv F.w [] [(ab 9)])),au 45 (bb 48 F.y3 [46,47]),ct 49 45 48,I 4 49] .ret))))))))⟩:=bO (by kernel_rfl)
theorem E.Eh:bN F.Eh ⟨72,[.tmp 4], (J [ay 2 (.box T.b (ab 0)),aj 4 (b4 false)] (.seq (J [a6 11 5 2,bb 12 F.vN [11],bh 13 (.un .not (ab 12))] (aD 13 (J [aj 4 (b4 false)] .ret) .skip)) (J [a6 14 5 2,bb 15 F.uh [14],I 5 15] (.seq (J [I 16 1,az .lss T.a 17 16 0,I 18 17,au 18 (I 19 1),au 18 (I 20 5),au 18 (bI 21 20),au 18 (bl .geq T.a 22 19 21),ct 23 18 22] (aD 23 (J [aj 4 (b4 false)] .ret) .skip)) (.seq (.dW (al (ag 24 3 2) (al (ae 25 24) (al (a6 26 5 2) (al (I 28 5) (al (I 29 1) (al (bc 30 2 28 29) (al (ag 31 0 30) (al (ae 32 31) (al (I 39 5) (al (I 40 1) (al (bc 41 2 39 40) (al (ag 42 1 41) (al (ae 43 42) (.alt (bb 27 F.oR [26]) (al (bc 33 2 27 32) (al (ag 34 0 33) (.alt (ae 35 34) (al (bc 36 5 25 35) (al (ag 37 4 36) (.alt (ae 38 37) (al (bc 44 6 38 43) (.alt (a6 45 6 44) (.alt (ay 6 (.new T.j (.agg #[cu,an,an,aP,aP,(.bool false)]))) (.bT (cf 6 6 45) .done .nil) .nil) (.alt (ay 6 (.new T.j (.agg #[cu,an,an,aP,aP,(.bool false)]))) (.alt (a6 45 6 44) (.bT (cf 6 6 45) .done .nil) .nil) .nil))) (.alt (ay 6 (.new T.j (.agg #[cu,an,an,aP,aP,(.bool false)]))) (.alt (ae 38 37) (al (bc 44 6 38 43) (.alt (a6 45 6 44) (.bT (cf 6 6 45) .done .nil) .nil)) .nil) .nil)))) (.alt (ay 6 (.new T.j (.agg #[cu,an,an,aP,aP,(.bool false)]))) (.alt (ae 35 34) (al (bc 36 5 25 35) (al (ag 37 4 36) (.alt (ae 38 37) (al (bc 44 6 38 43) (.alt (a6 45 6 44) (.bT (cf 6 6 45) .done .nil) .nil)) .nil))) .nil) .nil)))) (.alt (ay 6 (.new T.j (.agg #[cu,an,an,aP,aP,(.bool false)]))) (.alt (bb 27 F.oR [26]) (al (bc 33 2 27 32) (al (ag 34 0 33) (.alt (ae 35 34) (al (bc 36 5 25 35) (al (ag 37 4 36) (.alt (ae 38 37) (al (bc 44 6 38 43) (.alt (a6 45 6 44) (.bT (cf 6 6 45) .done .nil) .nil)) .nil))) .nil))) .nil) .nil)))))))))))))))) (.seq (J [ag 46 2 6,ae 47 46,ag 48 1 6,ae 49 48,bl .leq T.a 50 47 49] (aD 50 (J [aj 4 (b4 true)] .ret) .skip)) (J [a6 51 5 2,bb 52 F.Eb [51],I 7 52] (J [a6 54 5 2,I 55 1,bb 56 F.As [54,55],I 53 56,bZ 57 53 0,bZ 58 53 1,I 8 57,I 9 58] (.seq (J [aj 10 (ai 0)] (.aQ 0 (.loop (.seq (J [I 59 10,I 60 9,bI 61 60,bl .lss T.a 62 59 61] (aD 62 .skip (.exit 0))) (.seq (.aQ 1 (J [I 65 7,I 66 9,I 67 10,bc 68 1 66 67,ae 69 68,bc 70 1 65 69,ae 71 70] (aD 71 (J [aj 4 (b4 true)] .ret) .skip))) (.bF [I 63 10,az .add T.a 64 63 1,I 10 64])))))) (J [aj 4 (b4 false)] .ret))))))))))⟩:=bO (by kernel_rfl)
theorem E.uh:bN F.uh ⟨37,[.tmp 2], (J [ay 1 (.box T.b (ab 0)),aj 2 (.const aP)] (J [a6 7 5 1,bb 8 F.oR [7],I 3 8] (J [aj 4 (.const aP)] (.seq (J [aj 5 (ai 0)] (.aQ 0 (.loop (.seq (J [I 9 5,I 10 3,bI 11 10,bl .lss T.a 12 9 11] (aD 12 .skip (.exit 0))) (.seq (.aQ 1 (J [aj 6 (ai 0)] (.aQ 2 (.loop (.seq (.seq (.ec [I 15 6,ag 16 3 1,ae 17 16,I 18 3,I 19 5,bc 20 2 18 19,ag 21 0 20,ae 22 21,bc 23 5 17 22,ag 24 4 23,ae 25 24,bI 26 25,bl .lss T.a 27 15 26]) (aD 27 .skip (.exit 2))) (.seq (.aQ 3 (.bF [I 30 4,I 31 5,I 32 6,bh 33 (.cP [an,an] [(0,1),(1,1)] [(0,(ab 31)),(1,(ab 32))]),ay 34 (.cQ T.ak 1 2 [an,an] [(0,(ab 33))]),ay 35 (.app T.t T.ak 2 16 (ab 30) (ab 34)),I 4 35])) (.bF [I 28 6,az .add T.a 29 28 1,I 6 29]))))))) (.bF [I 13 5,az .add T.a 14 13 1,I 5 14])))))) (J [I 36 4,I 2 36] .ret)))))⟩:=bO (by kernel_rfl)
theorem E.oR:bN F.oR ⟨43,[.tmp 2], (J [ay 1 (.box T.b (ab 0)),aj 2 (.const aP)] (J [aj 3 (.const aP)] (.seq (J [aj 4 (ai 0)] (.aQ 0 (.loop (.seq (J [I 6 4,ag 7 3 1,ae 8 7,bI 9 8,bl .lss T.a 10 6 9] (aD 10 .skip (.exit 0))) (.seq (.aQ 1 (.seq (J [ag 13 3 1,ae 14 13,I 15 4,bc 16 5 14 15,ag 17 1 16,ae 18 17,az .eql T.a 19 18 0] (aD 19 (.bF [I 20 3,I 21 4,bh 22 (.cP [an,an] [(0,1),(1,1)] [(0,(ab 21))]),ay 23 (.cQ T.n 1 2 [an,an] [(0,(ab 22))]),ay 24 (.app T.pa T.n 2 16 (ab 20) (ab 23)),I 3 24]) .skip)) (J [aj 5 (ai 1)] (.aQ 2 (.loop (.seq (.seq (.ec [I 25 5,a6 26 5 1,ag 27 3 1,ae 28 27,I 29 4,bc 30 5 28 29,a6 31 5 30,bb 32 F.D1 [26,31],bl .leq T.a 33 25 32]) (aD 33 .skip (.exit 2))) (.seq (.aQ 3 (.bF [I 36 3,I 37 4,I 38 5,bh 39 (.cP [an,an] [(0,1),(1,1)] [(0,(ab 37)),(1,(ab 38))]),ay 40 (.cQ T.n 1 2 [an,an] [(0,(ab 39))]),ay 41 (.app T.pa T.n 2 16 (ab 36) (ab 40)),I 3 41])) (.bF [I 34 5,az .add T.a 35 34 1,I 5 35])))))))) (.bF [I 11 4,az .add T.a 12 11 1,I 4 12])))))) (J [I 42 3,I 2 42] .ret))))⟩:=bO (by kernel_rfl)
theorem E.D5:bN F.D5 ⟨45,[.tmp 2], (J [ay 1 (.box T.j (ab 0)),aj 2 (b4 false)] (.seq (J [ag 4 0 1,ae 5 4,bh 6 (.mN (ab 5)),az .gtr T.a 7 6 60,I 8 7,au 8 (ag 9 3 1),au 8 (ae 10 9),au 8 (bI 11 10),au 8 (az .gtr T.a 12 11 60),ct 13 8 12,I 14 13,au 14 (ag 15 4 1),au 14 (ae 16 15),au 14 (bI 17 16),au 14 (az .gtr T.a 18 17 12),ct 19 14 18] (aD 19 (J [aj 2 (b4 false)] .ret) .skip)) (.seq (J [aj 3 (ai 0)] (.aQ 0 (.loop (.seq (J [I 20 3,ag 21 4 1,ae 22 21,bI 23 22,bl .lss T.a 24 20 23] (aD 24 .skip (.exit 0))) (.seq (.aQ 1 (J [ag 27 4 1,ae 28 27,I 29 3,bc 30 5 28 29,ag 31 3 30,ae 32 31,bI 33 32,az .gtr T.a 34 33 60,I 35 34,au 35 (ag 36 4 1),au 35 (ae 37 36),au 35 (I 38 3),au 35 (bc 39 5 37 38),au 35 (ag 40 4 39),au 35 (ae 41 40),au 35 (bI 42 41),au 35 (az .gtr T.a 43 42 60),ct 44 35 43] (aD 44 (J [aj 2 (b4 false)] .ret) .skip))) (.bF [I 25 3,az .add T.a 26 25 1,I 3 26])))))) (J [aj 2 (b4 true)] .ret))))⟩:=bO (by kernel_rfl)
theorem E.BP:bN F.BP ⟨79,[.tmp 2,.tmp 3,.tmp 4], (J [ay 1 (.box T.b (ab 0)),aj 2 (ai 0),aj 3 (ai 0),aj 4 (ai 0)] (J [aj 5 (ai 0),aj 6 (ai 0),aj 7 (ai 0)] (.seq (J [ag 15 1 1,ae 16 15,bI 17 16,aj 18 (ai 0)] (.aQ 0 (.loop (J [bl .lss T.a 19 18 17] (eS 19 0
 (.seq (.aQ 1 (J [bc 20 6 16 18,a6 21 6 20,ay 9 (.new T.i (.agg #[cu,an,an,an,an,an])),cf 6 9 21] (.bF [I 22 7,a6 23 6 9,ag 24 0 1,ae 25 24,bb 26 F.x [23,25],bl .add T.a 27 22 26,I 7 27]))) (e0 T.a 28 18))))))) (.seq (J [ag 29 2 1,ae 30 29,bI 31 30,aj 32 (ai 0)] (.aQ 2 (.loop (J [bl .lss T.a 33 32 31] (eS 33 2
 (.seq (.aQ 3 (J [bc 34 6 30 32,a6 35 6 34,ay 11 (.new T.r (.agg #[cu,an,an,an,an,(.bool false)])),cf 6 11 35] (.bF [I 36 7,ag 37 2 11,ae 38 37,bh 39 (.sE (ab 38) (ai 0)),bh 40 (.um (ab 39) (ai 4)),bh 41 (.bin .add T.a (ai 1) (ab 40)),bl .add T.a 42 36 41,I 7 42]))) (e0 T.a 43 32))))))) (.seq (J [ag 44 3 1,ae 45 44,bI 46 45,aj 47 (ai 0)] (.aQ 4 (.loop (J [bl .lss T.a 48 47 46] (eS 48 4
 (.seq (.aQ 5 (J [bc 49 5 45 47,a6 50 5 49,ay 13 (.new T.g (.agg #[cu,an,an,aP,aP])),cf 5 13 50] (J [ag 51 1 13,ae 52 51,bh 53 (.cP [cu,an,an,an,an,an] [(0,1),(1,1),(2,1),(3,1),(4,1),(5,1)] [(2,(ab 52))]),ag 54 0 1,ae 55 54,bb 56 F.x [53,55],I 14 56] (J [I 57 5,I 58 14,bl .add T.a 59 57 58,I 5 59] (J [I 60 6,I 61 14,ag 62 4 13,ae 63 62,bI 64 63,bl .mul T.a 65 61 64,bl .add T.a 66 60 65,I 6 66] (.bF [I 67 7,I 68 14,ag 69 3 13,ae 70 69,bI 71 70,bh 72 (.bin .add T.a (ai 1) (ab 71)),bl .mul T.a 73 68 72,bl .add T.a 74 67 73,I 7 74])))))) (e0 T.a 75 47))))))) (J [I 76 5,I 77 6,I 78 7,I 2 76,I 3 77,I 4 78] .ret))))))⟩:=bO (by kernel_rfl)
theorem E.Az:bN F.Az ⟨13,[.ja 5 2], (J [ay 2 (.new T.g (.agg #[cu,an,an,aP,aP]))] (J [I 3 0,bh 4 (.cP [cu,an,an,an,an,an] [(0,1),(1,1),(2,1),(3,1),(4,1),(5,1)] [(0,(.const (.string ⟨#[110]⟩))),(4,(ai 1))]),ay 5 (.cQ T.i 1 6 [cu,an,an,an,an,an] [(0,(ab 4))]),bh 6 (.cP [an,an] [(0,1),(1,1)] [(0,(ai 1)),(1,(ai 1))]),ay 7 (.cQ T.f 1 2 [an,an] [(0,(ab 6))]),bh 8 (.cP [an,an,an,aP,aP] [(0,1),(1,1),(2,1),(3,1),(4,1)] [(0,(ai 3)),(4,(ab 7))]),ay 9 (.cQ T.q 1 5 [an,an,an,aP,aP] [(0,(ab 8))]),bh 10 (.cP [cu,an,an,aP,aP,(.bool false)] [(0,1),(1,1),(2,1),(3,1),(4,1),(5,1)] [(0,(.const (.string ⟨#[103,111]⟩))),(2,(ai 1)),(4,(ab 9))]),ay 11 (.cQ T.j 1 6 [cu,an,an,aP,aP,(.bool false)] [(0,(ab 10))]),bh 12 (.cP [cu,an,an,aP,aP] [(0,1),(1,1),(2,1),(3,1),(4,1)] [(0,(ab 3)),(2,(ai 2)),(3,(ab 5)),(4,(ab 11))]),cf 5 2 12] .ret))⟩:=bO (by kernel_rfl)
theorem E.qJ:bN F.qJ ⟨27,[.tmp 2], (J [ay 1 (.box T.b (ab 0)),aj 2 (.const aP)] (J [aj 3 (.const aP)] (.seq (J [a6 7 5 1,bb 8 F.e [7],bI 9 8,aj 10 (ai 0)] (.aQ 0 (.loop (J [bl .lss T.a 11 10 9] (eS 11 0
 (.seq (.aQ 1 (J [I 12 10,I 4 12] (J [a6 14 5 1,I 15 4,bb 16 F.s5 [14,15],I 13 16,bZ 17 13 0,bZ 18 13 1,I 5 17,I 6 18] (.bF [I 19 3,I 20 5,I 21 6,bh 22 (.cP [aP,aP] [(0,1),(1,1)] [(0,(ab 20)),(1,(ab 21))]),ay 23 (.cQ T.s4 1 2 [aP,aP] [(0,(ab 22))]),ay 24 (.app T.rR T.s4 2 48 (ab 19) (ab 23)),I 3 24])))) (e0 T.a 25 10))))))) (J [I 26 3,I 2 26] .ret))))⟩:=bO (by kernel_rfl)
theorem E.a9:bN F.a9 ⟨24,[.tmp 4], (J [ay 2 (.box T.s4 (ab 0)),ay 3 (.box T.s4 (ab 1)),aj 4 (b4 false)] (J [ag 5 1 2,ae 6 5,ag 7 1 3,ae 8 7,bb 9 F.ox [6,8],I 10 9,au 10 (ag 11 1 2),au 10 (ae 12 11),au 10 (ag 13 0 3),au 10 (ae 14 13),au 10 (bb 15 F.ox [12,14]),ct 16 10 15,I 17 16,au 17 (ag 18 0 2),au 17 (ae 19 18),au 17 (ag 20 1 3),au 17 (ae 21 20),au 17 (bb 22 F.ox [19,21]),ct 23 17 22,I 4 23] .ret))⟩:=bO (by kernel_rfl)
theorem E.vN:bN F.vN ⟨7,[.tmp 2], (J [ay 1 (.box T.b (ab 0)),aj 2 (b4 false)] (J [a6 3 5 1,bb 4 F.x5 [3],bh 5 (.jd 0 (ab 4)),az .eql T.e 6 5 0,I 2 6] .ret))⟩:=bO (by kernel_rfl)
theorem E.Ay:bN F.Ay ⟨27,[.tmp 2], (J [ay 1 (.box T.b (ab 0)),aj 2 (.const aP)] (J [aj 3 (.const aP)] (.seq (J [aj 4 (ai 0)] (.aQ 0 (.loop (.seq (J [I 7 4,a6 8 5 1,bb 9 F.uh [8],bI 10 9,bl .lss T.a 11 7 10] (aD 11 .skip (.exit 0))) (.seq (.aQ 1 (J [a6 15 5 1,I 16 4,bb 17 F.As [15,16],I 14 17,bZ 18 14 0,bZ 19 14 1,I 5 18,I 6 19] (.bF [I 20 3,I 21 5,I 22 6,bh 23 (.cP [aP,aP] [(0,1),(1,1)] [(0,(ab 21)),(1,(ab 22))]),ay 24 (.cQ T.Ax 1 2 [aP,aP] [(0,(ab 23))]),ay 25 (.app T.aiJ T.Ax 2 48 (ab 20) (ab 24)),I 3 25]))) (.bF [I 12 4,az .add T.a 13 12 1,I 4 13])))))) (J [I 26 3,I 2 26] .ret))))⟩:=bO (by kernel_rfl)
theorem E.Aw:bN F.Aw ⟨24,[.tmp 4], (J [ay 2 (.box T.Ax (ab 0)),ay 3 (.box T.Ax (ab 1)),aj 4 (b4 false)] (J [ag 5 1 2,ae 6 5,ag 7 0 3,ae 8 7,bb 9 F.x8 [6,8],I 10 9,au 10 (ag 11 1 2),au 10 (ae 12 11),au 10 (ag 13 1 3),au 10 (ae 14 13),au 10 (bb 15 F.x8 [12,14]),ct 16 10 15,I 17 16,au 17 (ag 18 1 3),au 17 (ae 19 18),au 17 (ag 20 0 2),au 17 (ae 21 20),au 17 (bb 22 F.x8 [19,21]),ct 23 17 22,I 4 23] .ret))⟩:=bO (by kernel_rfl)
theorem E.a:bN F.a ⟨6,[.tmp 2], (J [ay 1 (.box T.b (ab 0)),aj 2 (.const aP)] (J [a6 3 5 1,bb 4 F.y4 [3],bb 5 F.pd [4],I 2 5] .ret))⟩:=bO (by kernel_rfl)
theorem E.cV:bN F.cV ⟨8,[.tmp 6], (J [ay 3 (.box T.b (ab 0)),ay 4 (.box T.a (ab 1)),ay 5 (.box T.a (ab 2)),aj 6 (.const .nilFunc)] (J [bh 7 (.jv F.gB [] [(ab 3),(ab 4),(ab 5)]),I 6 7] .ret))⟩:=bO (by kernel_rfl)
theorem E.y2:bN F.y2 ⟨8,[.tmp 3], (J [ay 2 (.box T.ak (ab 0)),aj 3 (b4 false)] (J [ag 4 0 2,ae 5 4,ae 6 1,bl .neq T.a 7 5 6,I 3 7] .ret))⟩:=bO (by kernel_rfl)
theorem E.k:bN F.k ⟨22,[.ja 6 6], (J [ay 3 (.box T.b (ab 0)),ay 5 (.box T.ak (ab 2)),ay 6 (.new T.j (.agg #[cu,an,an,aP,aP,(.bool false)]))] (.seq (.dW (al (ag 7 3 3) (al (ae 8 7) (al (I 9 1) (al (ag 10 0 5) (al (ae 11 10) (al (bc 12 2 9 11) (al (ag 13 0 12) (al (ae 14 13) (al (bc 15 5 8 14) (al (ag 16 4 15) (al (ae 17 16) (al (ag 18 1 5) (al (ae 19 18) (al (bc 20 6 17 19) (al (a6 21 6 20) (.bT (cf 6 6 21) .done .nil))))))))))))))))) .ret))⟩:=bO (by kernel_rfl)
theorem E.s5:bN F.s5 ⟨57,[.tmp 4,.tmp 5], (J [ay 2 (.box T.b (ab 0)),aj 4 (.const aP),aj 5 (.const aP)] (J [a6 14 5 2,I 15 1,bb 16 F.u2 [14,15],I 13 16,bZ 17 13 0,bZ 18 13 1,bZ 19 13 2,ay 7 (.new T.j (.agg #[cu,an,an,aP,aP,(.bool false)])),I 6 17,cf 6 7 18,I 8 19] (.seq (J [I 20 8,bh 21 (.un .not (ab 20))] (aD 21 (J [aj 4 (.const aP),aj 5 (.const aP)] .ret) .skip)) (J [ay 22 .rp,ay 23 .rp,I 9 22,I 10 23] (J [I 24 9,I 25 6,bb 26 F.q [25],dh 27 (.fn F.c [(ab 24),(ab 26),(ai 1)])] (J [I 28 10,I 29 6,bb 30 F.q [29],dh 31 (.fn F.c [(ab 28),(ab 30),(ai 1)])] (J [I 32 6,I 33 9,ag 34 3 7,ae 35 34,bb 36 F.rP [32,33,35]] (.seq (J [ag 37 4 7,ae 38 37,bI 39 38,aj 40 (ai 0)] (.aQ 0 (.loop (J [bl .lss T.a 41 40 39] (eS 41 0
 (.seq (.aQ 1 (J [bc 42 5 38 40,a6 43 5 42,ay 12 (.new T.q (.agg #[an,an,an,aP,aP])),cf 5 12 43] (J [I 44 6,I 45 9,a6 46 5 12,bb 47 F.rT [44,45,46]] (.bF [I 48 6,I 49 10,a6 50 5 12,bb 51 F.wX [48,49,50]])))) (e0 T.a 52 40))))))) (J [I 53 9,bb 54 F.y5 [53],I 55 10,bb 56 F.y5 [55],I 4 54,I 5 56] .ret)))))))))⟩:=bO (by kernel_rfl)
theorem E.c3:bN F.c3 ⟨45,[.tmp 2], (J [ay 1 (.box T.b (ab 0)),aj 2 (.const aP)] (.seq (J [a6 10 5 1,bb 11 F.j [10],bh 12 (.jd 0 (ab 11)),az .neq T.e 13 12 0] (aD 13 (J [aj 2 (.const aP)] .ret) .skip)) (.seq (.dW (al (a6 14 5 1) (al (a6 16 5 1) (.alt (bb 15 F.y [14]) (.bT (bb 17 F.a [16]) (.alt (ay 3 (.new T.h (.agg #[aP,aP,aP,an,aP,aP]))) (.bT (cf 6 3 15) (al (I 4 17) .done) .nil) .nil) (.alt (ay 3 (.new T.h (.agg #[aP,aP,aP,an,aP,aP]))) (.bT (bb 17 F.a [16]) (.bT (cf 6 3 15) (al (I 4 17) .done) .nil) .nil) .nil)) (.alt (ay 3 (.new T.h (.agg #[aP,aP,aP,an,aP,aP]))) (.alt (bb 15 F.y [14]) (.bT (bb 17 F.a [16]) (.bT (cf 6 3 15) (al (I 4 17) .done) .nil) .nil) .nil) .nil))))) (J [ag 18 3 3,ae 19 18,ay 20 (.pA T.l 1 1 (.bool false) (ab 19) (ab 19)),ay 5 (.new T.s aP),ys 5 20] (.seq (J [ag 21 4 1,ae 22 21,bI 23 22,aj 24 (ai 0)] (.aQ 0 (.loop (J [bl .lss T.a 25 24 23] (eS 25 0
 (.seq (.aQ 1 (J [bc 26 2 22 24,a6 27 2 26,ay 7 (.new T.gB (.agg #[cu,aP])),cf 2 7 27] (J [ag 28 1 7,ae 29 28,bb 30 F.wY [29],bI 31 30,aj 32 (ai 0)] (.aQ 2 (.loop (J [bl .lss T.a 33 32 31] (eS 33 2
 (.seq (.aQ 3 (J [bc 34 2 30 32,a6 35 2 34,ay 9 (.new T.f (.agg #[an,an])),cf 2 9 35] (.bF [a6 36 5 1,a6 37 6 3,I 38 4,a6 39 2 9,bh 40 (.jv F.bi [] [(ab 5)]),bb 41 F.pZ [36,37,38,39,40]]))) (e0 T.a 42 32))))))))) (e0 T.a 43 24))))))) (J [ae 44 5,I 2 44] .ret))))))⟩:=bO (by kernel_rfl)
theorem E.w:bN F.w ⟨8,[.tmp 3], (J [aj 3 (b4 false)] (J [ae 4 1,I 5 0,bc 6 1 4 5,ae 7 6,I 3 7] .ret))⟩:=bO (by kernel_rfl)
theorem E.Eb:bN F.Eb ⟨57,[.tmp 2], (J [ay 1 (.box T.b (ab 0)),aj 2 (.const aP)] (.seq (J [a6 10 5 1,bb 11 F.vN [10],bh 12 (.un .not (ab 11))] (aD 12 (J [aj 2 (.const aP)] .ret) .skip)) (J [a6 13 5 1,bb 14 F.D9 [13],ay 3 (.new T.h (.agg #[aP,aP,aP,an,aP,aP])),cf 6 3 14] (J [ag 15 3 3,ae 16 15,ay 17 (.pA T.l 1 1 (.bool false) (ab 16) (ab 16)),I 4 17] (.seq (J [aj 5 (ai 0)] (.aQ 0 (.loop (.seq (J [I 18 5,ag 19 4 1,ae 20 19,bI 21 20,bl .lss T.a 22 18 21] (aD 22 .skip (.exit 0))) (.seq (.aQ 1 (J [ag 25 4 1,ae 26 25,I 27 5,bc 28 2 26 27,ag 29 1 28,ae 30 29,I 6 30] (J [aj 7 (ai 0)] (.aQ 2 (.loop (.seq (J [I 31 7,I 32 6,bI 33 32,bl .lss T.a 34 31 33] (aD 34 .skip (.exit 2))) (.seq (.aQ 3 (.seq (.dW (al (a6 37 5 1) (al (a6 38 6 3) (al (I 39 6) (al (I 40 7) (al (bc 41 2 39 40) (al (a6 42 2 41) (.bT (bb 43 F.Ec [37,38,42]) (al (I 8 43) .done) .nil)))))))) (J [aj 9 (ai 0)] (.aQ 4 (.loop (.seq (J [I 44 9,I 45 8,bI 46 45,bl .lss T.a 47 44 46] (aD 47 .skip (.exit 4))) (.seq (.aQ 5 (.bF [I 50 4,I 51 8,I 52 9,bc 53 1 51 52,ae 54 53,bc 55 1 50 54,hd (.st (ab 55) (b4 true))])) (.bF [I 48 9,az .add T.a 49 48 1,I 9 49])))))))) (.bF [I 35 7,az .add T.a 36 35 1,I 7 36])))))))) (.bF [I 23 5,az .add T.a 24 23 1,I 5 24])))))) (J [I 56 4,I 2 56] .ret))))))⟩:=bO (by kernel_rfl)
theorem E.As:bN F.As ⟨191,[.tmp 4,.tmp 5], (J [ay 2 (.box T.b (ab 0)),aj 4 (.const aP),aj 5 (.const aP)] (J [a6 16 5 2,I 17 1,bb 18 F.Ed [16,17],I 15 18,bZ 19 15 0,bZ 20 15 1,bZ 21 15 2,ay 7 (.new T.j (.agg #[cu,an,an,aP,aP,(.bool false)])),I 6 19,cf 6 7 20,I 8 21] (.seq (J [I 22 8,bh 23 (.un .not (ab 22))] (aD 23 (J [aj 4 (.const aP),aj 5 (.const aP)] .ret) .skip)) (J [a6 24 5 2,bb 25 F.Ar [24],ay 9 (.new T.h (.agg #[aP,aP,aP,an,aP,aP])),cf 6 9 25] (.seq (.dW (al (ag 26 2 9) (al (ae 27 26) (al (I 28 6) (al (bc 29 1 27 28) (al (ae 30 29) (al (a6 32 5 2) (al (a6 33 6 9) (al (I 34 6) (al (ag 35 3 7) (al (ae 36 35) (.alt (ay 31 (.cQ T.a 1 1 [an] [(0,(ab 30))])) (.alt (bb 37 F.vO [32,33,34,36]) (.bT (ay 38 (.app T.c T.a 1 8 (ab 31) (ab 37))) (al (I 10 38) .done) .nil) .nil) (.alt (bb 37 F.vO [32,33,34,36]) (.alt (ay 31 (.cQ T.a 1 1 [an] [(0,(ab 30))])) (.bT (ay 38 (.app T.c T.a 1 8 (ab 31) (ab 37))) (al (I 10 38) .done) .nil) .nil) .nil))))))))))))) (J [ag 39 2 9,ae 40 39,I 41 6,bc 42 1 40 41,ae 43 42,ay 44 (.cQ T.a 1 1 [an] [(0,(ab 43))]),I 11 44] (.seq (J [aj 12 (ai 0)] (.aQ 0 (.loop (.seq (J [I 45 12,ag 46 4 7,ae 47 46,bI 48 47,bl .lss T.a 49 45 48] (aD 49 .skip (.exit 0))) (.seq (.aQ 1 (J [ag 52 4 7,ae 53 52,I 54 12,bc 55 5 53 54,a6 56 5 55,ay 13 (.new T.q (.agg #[an,an,an,aP,aP])),cf 5 13 56] (.seq (J [ag 57 0 13,ae 58 57,az .neq T.a 59 58 5] (aD 59 (.bF [I 60 10,a6 61 5 2,a6 62 6 9,I 63 6,ag 64 4 13,ae 65 64,bb 66 F.vO [61,62,63,65],ay 67 (.app T.c T.a 1 8 (ab 60) (ab 66)),I 10 67]) .skip)) (J [ag 68 0 13,ae 69 68] (.aQ 2 (J [az .eql T.a 71 69 1,I 70 71] (aD 70 (.bF [I 72 11,ag 73 0 9,ae 74 73,ag 75 1 13,ae 76 75,bc 77 1 74 76,ae 78 77,ay 79 (.cQ T.a 1 1 [an] [(0,(ab 78))]),ay 80 (.app T.c T.a 1 8 (ab 72) (ab 79)),I 11 80]) (J [az .eql T.a 82 69 2,I 81 82] (aD 81 (J [I 83 10,a6 84 5 2,a6 85 6 9,I 86 6,ag 87 3 13,ae 88 87,bb 89 F.vO [84,85,86,88],ay 90 (.app T.c T.a 1 8 (ab 83) (ab 89)),I 10 90] (.dW (al (I 91 11) (al (a6 92 5 2) (al (a6 93 6 9) (al (I 94 6) (al (ag 95 1 13) (al (ae 96 95) (al (ag 97 3 13) (al (ae 98 97) (al (bI 99 98) (al (az .eql T.a 100 99 1) (al (I 101 100) (al (aS 101 (ag 102 3 13)) (al (aS 101 (ae 103 102)) (al (aS 101 (bh 104 (.ib 2 (ab 103) (ai 0)))) (al (aS 101 (ag 105 0 104)) (al (aS 101 (ae 106 105)) (al (aS 101 (az .eql T.a 107 106 5)) (al (du 108 101 107) (.bT (bb 109 F.Au [92,93,94,96,108]) (.bT (ay 110 (.app T.c T.a 1 8 (ab 91) (ab 109))) (al (I 11 110) .done) .nil) .nil))))))))))))))))))))) (J [az .eql T.a 112 69 3,I 111 112] (aD 111 (.dW (al (I 113 11) (al (ag 114 2 9) (al (ae 115 114) (al (I 116 6) (al (bc 117 1 115 116) (al (ae 118 117) (al (az .add T.a 119 118 1) (al (ag 120 1 13) (al (ae 121 120) (al (bl .add T.a 122 119 121) (.bT (ay 123 (.cQ T.a 1 1 [an] [(0,(ab 122))])) (.bT (ay 124 (.app T.c T.a 1 8 (ab 113) (ab 123))) (al (I 11 124) .done) .nil) .nil)))))))))))) (J [az .eql T.a 126 69 4,I 125 126] (aD 125 (J [I 127 10,ag 128 1 9,ae 129 128,ag 130 1 13,ae 131 130,bc 132 1 129 131,ae 133 132,ay 134 (.cQ T.a 1 1 [an] [(0,(ab 133))]),ay 135 (.app T.c T.a 1 8 (ab 127) (ab 134)),I 10 135] (.dW (al (I 136 11) (al (ag 137 1 9) (al (ae 138 137) (al (ag 139 1 13) (al (ae 140 139) (al (bc 141 1 138 140) (al (ae 142 141) (al (ag 143 2 2) (al (ae 144 143) (al (ag 145 1 13) (al (ae 146 145) (al (bc 147 6 144 146) (al (ag 148 2 147) (al (ae 149 148) (al (bh 150 (.bin .add T.a (ai 1) (ab 149))) (.bT (bb 151 F.x7 [142,150]) (.bT (ay 152 (.app T.c T.a 1 8 (ab 136) (ab 151))) (al (I 11 152) .done) .nil) .nil)))))))))))))))))) (J [az .eql T.a 154 69 5,I 153 154] (aD 153 (.seq (.dW (al (ag 155 1 9) (al (ae 156 155) (al (ag 157 1 13) (al (ae 158 157) (al (bc 159 1 156 158) (al (ae 160 159) (al (ag 161 2 2) (al (ae 162 161) (al (ag 163 1 13) (al (ae 164 163) (al (bc 165 6 162 164) (al (ag 166 2 165) (al (ae 167 166) (al (bh 168 (.bin .add T.a (ai 1) (ab 167))) (.bT (bb 169 F.x7 [160,168]) (al (I 14 169) .done) .nil)))))))))))))))) (J [I 170 10,I 171 14,ay 172 (.app T.c T.a 1 8 (ab 170) (ab 171)),I 10 172] (.dW (.wide (al (I 173 11) (al (I 174 14) (al (ag 176 2 9) (al (ae 177 176) (al (I 178 6) (al (bc 179 1 177 178) (al (ae 180 179) (al (az .add T.a 181 180 1) (al (ag 182 2 13) (al (ae 183 182) (al (bl .add T.a 184 181 183) (.alt (ay 175 (.app T.c T.a 1 8 (ab 173) (ab 174))) (.bT (ay 185 (.cQ T.a 1 1 [an] [(0,(ab 184))])) (.bT (ay 186 (.app T.c T.a 1 8 (ab 175) (ab 185))) (al (I 11 186) .done) .nil) .nil) (.bT (ay 185 (.cQ T.a 1 1 [an] [(0,(ab 184))])) (.alt (ay 175 (.app T.c T.a 1 8 (ab 173) (ab 174))) (.bT (ay 186 (.app T.c T.a 1 8 (ab 175) (ab 185))) (al (I 11 186) .done) .nil) .nil) .nil))))))))))))))))) .skip))))))))))))))) (.bF [I 50 12,az .add T.a 51 50 1,I 12 51])))))) (J [I 187 10,bb 188 F.Av [187],I 189 11,bb 190 F.Av [189],I 4 188,I 5 190] .ret))))))))⟩:=bO (by kernel_rfl)
theorem E.D9:bN F.D9 ⟨9,[.ja 6 2], (J [ay 1 (.box T.b (ab 0)),ay 2 (.new T.h (.agg #[aP,aP,aP,an,aP,aP]))] (.seq (J [a6 3 5 1,bb 4 F.Ea [3],bh 5 (.un .not (ab 4))] (aD 5 (J [bh 6 (.cP [aP,aP,aP,an,aP,aP] [(0,1),(1,1),(2,1),(3,1),(4,1),(5,1)] []),cf 6 2 6] .ret) .skip)) (J [a6 7 5 1,bb 8 F.Ar [7],cf 6 2 8] .ret)))⟩:=bO (by kernel_rfl)
theorem E.D1:bN F.D1 ⟨32,[.tmp 4], (J [ay 2 (.box T.b (ab 0)),ay 3 (.box T.g (ab 1)),aj 4 (ai 0)] (.seq (J [ag 6 1 3,ae 7 6,az .lss T.a 8 7 1,I 9 8,au 9 (ag 10 1 3),au 9 (ae 11 10),au 9 (ag 12 0 2),au 9 (ae 13 12),au 9 (bI 14 13),au 9 (bl .gtr T.a 15 11 14),ct 16 9 15] (aD 16 (J [aj 4 (ai 0)] .ret) .skip)) (J [ag 17 0 2,ae 18 17,ag 19 1 3,ae 20 19,az .sub T.a 21 20 1,bc 22 2 18 21,ag 23 1 22,ae 24 23,I 5 24] (.seq (J [I 25 5,az .lss T.a 26 25 1,I 27 26,au 27 (I 28 5),au 27 (az .gtr T.a 29 28 4),ct 30 27 29] (aD 30 (J [aj 4 (ai 0)] .ret) .skip)) (J [I 31 5,I 4 31] .ret)))))⟩:=bO (by kernel_rfl)
theorem E.x:bN F.x ⟨18,[.tmp 4], (J [ay 2 (.box T.i (ab 0)),aj 4 (ai 0)] (.seq (J [ag 7 2 2,ae 8 7,az .eql T.a 9 8 0] (aD 9 (J [aj 4 (ai 1)] .ret) .skip)) (J [ag 11 2 2,ae 12 11,I 13 1,bb 14 F.o9 [12,13],I 10 14,bZ 15 10 0,bZ 16 10 1,I 5 15,I 6 16] (J [I 17 5,I 4 17] .ret))))⟩:=bO (by kernel_rfl)
def C.c2:mZ:=⟨88,[], (J [ay 2 (.box T.b (ab 0))] (J [ag 13 0 2,ae 14 13,bb 15 F.BQ [14],I 12 15,bZ 16 12 0,bZ 17 12 1,I 4 16,I 5 17] (.seq (.e3 [I 18 5,I 19 4] (some 20) F.b [(ab 18),(ai 1),(ab 19),(ai 0)]) (.seq (J [ag 21 0 2,ae 22 21,bI 23 22,aj 24 (ai 0)] (.aQ 0 (.loop (J [bl .lss T.a 25 24 23] (eS 25 0
 (.seq (.aQ 1 (J [bc 26 2 22 24,a6 27 2 26,ay 7 (.new T.ac (.agg #[cu,an])),cf 2 7 27] (.bF [I 28 1,ag 29 0 7,ae 30 29,hd (.iQ .string (ab 28) (ab 30) (b4 true))]))) (e0 T.a 31 24))))))) (J [ag 33 1 2,ae 34 33,ag 35 0 2,ae 36 35,dh 37 (.fn F.cF [(ab 34),(ab 36),(ai 12)]),I 32 37,bZ 38 32 0,bZ 39 32 1,I 4 38,I 5 39] (.seq (J [ag 40 1 2,ae 41 40,bI 42 41,aj 43 (ai 0)] (.aQ 2 (.loop (J [bl .lss T.a 44 43 42] (eS 44 2
 (.seq (.aQ 3 (J [I 45 43,bc 46 6 41 43,a6 47 6 46,ay 9 (.new T.i (.agg #[cu,an,an,an,an,an])),I 8 45,cf 6 9 47] (.seq (J [I 48 8,I 49 4,bl .eql T.a 50 48 49] (aD 50 (.e3 [I 51 5,I 52 8] (some 53) F.b [(ab 51),(ai 2),(ab 52),(ai 0)]) .skip)) (.e3 [I 54 1,ag 55 0 9,ae 56 55,I 57 8] (some 58) F.jE [(ab 54),(ab 56),(ai 2),(ab 57)])))) (e0 T.a 59 43))))))) (J [ag 61 2 2,ae 62 61,ag 63 0 2,ae 64 63,bb 65 F.BR [62,64],I 60 65,bZ 66 60 0,bZ 67 60 1,I 4 66,I 5 67] (J [ag 68 2 2,ae 69 68,bI 70 69,aj 71 (ai 0)] (.aQ 4 (.loop (J [bl .lss T.a 72 71 70] (eS 72 4
 (.seq (.aQ 5 (J [I 73 71,bc 74 6 69 71,a6 75 6 74,ay 11 (.new T.r (.agg #[cu,an,an,an,an,(.bool false)])),I 10 73,cf 6 11 75] (.seq (J [I 76 10,I 77 4,bl .eql T.a 78 76 77] (aD 78 (.e3 [I 79 5,I 80 10] (some 81) F.b [(ab 79),(ai 3),(ab 80),(ai 0)]) .skip)) (.e3 [I 82 1,ag 83 0 11,ae 84 83,I 85 10] (some 86) F.jE [(ab 82),(ab 84),(ai 3),(ab 85)])))) (e0 T.a 87 71))))))))))))))⟩
theorem E.c2:lA Tryz.prog F.c2=some C.c2:=by kernel_rfl
def C.bJ:mZ:=⟨105,[], (J [ay 2 (.box T.b (ab 0))] (J [ay 18 .rp,I 4 18] (.seq (J [I 19 1,ay 20 (.raw (.range T.a3 (ab 19)) T.am)] (.aQ 0 (.loop (J [ay 21 (.raw (.next (ab 20) false) T.am),bZ 22 21 0] (eS 22 0
 (.aQ 1 (J [ay 23 (.raw (.entry (ab 20)) T.am),bZ 24 23 0,I 5 24] (.bF [I 25 4,I 26 5,hd (.iQ .string (ab 25) (ab 26) (b4 true))])))))))) (.seq (J [ag 27 3 2,ae 28 27,bI 29 28,aj 30 (ai 0)] (.aQ 2 (.loop (J [bl .lss T.a 31 30 29] (eS 31 2
 (.seq (.aQ 3 (J [bc 32 5 28 30,a6 33 5 32,ay 7 (.new T.g (.agg #[cu,an,an,aP,aP])),cf 5 7 33] (.bF [I 34 4,ag 35 0 7,ae 36 35,hd (.iQ .string (ab 34) (ab 36) (b4 true))]))) (e0 T.a 37 30))))))) (.seq (J [ag 38 3 2,ae 39 38,bI 40 39,aj 41 (ai 0)] (.aQ 4 (.loop (J [bl .lss T.a 42 41 40] (eS 42 4
 (.seq (.aQ 5 (J [I 43 41,bc 44 5 39 41,a6 45 5 44,ay 9 (.new T.g (.agg #[cu,an,an,aP,aP])),I 8 43,cf 5 9 45] (.seq (J [I 46 8,az .geq T.a 47 46 6] (aD 47 (.e3 [I 48 8] (some 49) F.b [(ai 11),(ai 4),(ab 48),(ai 0)]) .skip)) (.seq (.dW (al (a6 51 5 9) (al (a6 52 5 2) (al (I 53 8) (.alt (bb 54 F.y7 [52,53]) (.bT (bb 55 F.BS [51,54]) (al (I 50 55) (al (bZ 56 50 0) (al (bZ 57 50 1) (al (bZ 58 50 2) (al (I 10 56) (al (I 11 57) (al (I 12 58) .done))))))) .nil) .nil))))) (.seq (.e3 [I 59 12,I 60 8,I 61 10,bh 62 (.bin .mul T.a (ai 16) (ab 61)),I 63 11,bl .add T.a 64 62 63] (some 65) F.b [(ab 59),(ai 4),(ab 60),(ab 64)]) (.seq (.e3 [I 66 1,ag 67 0 9,ae 68 67,I 69 8] (some 70) F.jE [(ab 66),(ab 68),(ai 4),(ab 69)]) (J [ag 71 3 9,ae 72 71,bI 73 72,aj 74 (ai 0)] (.aQ 6 (.loop (J [bl .lss T.a 75 74 73] (eS 75 6
 (.seq (.aQ 7 (J [I 76 74,bc 77 6 72 74,a6 78 6 77,ay 14 (.new T.i (.agg #[cu,an,an,an,an,an])),I 13 76,cf 6 14 78] (J [I 79 4,ag 80 0 14,ae 81 80,nz 82 (.l6 .string (.bool false) false (ab 79) (ab 81))] (aD 82 (.e3 [I 83 8,I 84 13,bh 85 (.bin .add T.a (ai 16) (ab 84))] (some 86) F.b [(ai 7),(ai 4),(ab 83),(ab 85)]) .skip)))) (e0 T.a 87 74))))))))))))) (e0 T.a 88 41))))))) (J [a6 90 5 2,bb 91 F.BP [90],I 89 91,bZ 92 89 0,bZ 93 89 1,bZ 94 89 2,I 15 92,I 16 93,I 17 94] (J [I 95 15,az .gtr T.a 96 95 12,I 97 96,au 97 (I 98 17),au 97 (az .gtr T.a 99 98 64),ct 100 97 99] (aD 100 (.e3 [ag 101 3 2,ae 102 101,bI 103 102] (some 104) F.b [(ai 11),(ai 4),(ab 103),(ai 0)]) .skip))))))))⟩
theorem E.bJ:lA Tryz.prog F.bJ=some C.bJ:=by kernel_rfl
def C.bW:mZ:=⟨51,[], (J [ay 2 (.box T.b (ab 0))] (J [a6 9 5 2,dh 10 (.fn F.y7 [(ab 9),(ai (-1))]),ay 4 (.new T.d (.agg #[aP,aP,aP,aP,aP,an])),cf 6 4 10] (J [ag 11 4 2,ae 12 11,bI 13 12,aj 14 (ai 0)] (.aQ 0 (.loop (J [bl .lss T.a 15 14 13] (eS 15 0
 (.seq (.aQ 1 (J [I 16 14,bc 17 2 12 14,a6 18 2 17,ay 6 (.new T.gB (.agg #[cu,aP])),I 5 16,cf 2 6 18] (.seq (.aQ 2 (J [I 20 5,az .geq T.a 21 20 8,I 19 21] (aD 19 (.e3 [I 22 5] (some 23) F.b [(ai 11),(ai 5),(ab 22),(ai 0)]) (J [ag 25 0 6,ae 26 25,bb 27 F.kV [26],bh 28 (.un .not (ab 27)),I 24 28] (aD 24 (.e3 [I 29 5] (some 30) F.b [(ai 6),(ai 5),(ab 29),(ai 0)]) .skip))))) (.seq (.e3 [I 31 1,ag 32 0 6,ae 33 32,I 34 5] (some 35) F.jE [(ab 31),(ab 33),(ai 5),(ab 34)]) (J [ag 37 1 6,ae 38 37,a6 39 6 4,bb 40 F.dE [38,39],I 36 40,bZ 41 36 0,bZ 42 36 1,I 7 41,I 8 42] (.seq (.e3 [I 43 8,I 44 5] (some 45) F.b [(ab 43),(ai 5),(ab 44),(ai 0)]) (J [I 46 7,az .neq T.a 47 46 1] (aD 47 (.e3 [I 48 5] (some 49) F.b [(ai 9),(ai 5),(ab 48),(ai 0)]) .skip)))))))) (e0 T.a 50 14)))))))))⟩
theorem E.bW:lA Tryz.prog F.bW=some C.bW:=by kernel_rfl
theorem E.ox:bN F.ox ⟨41,[.tmp 4], (J [aj 4 (b4 false)] (.seq (J [aj 5 (ai 0),aj 6 (ai 0)] (.aQ 0 (.loop (.seq (J [I 7 5,I 8 0,bI 9 8,bl .lss T.a 10 7 9,I 11 10,aS 11 (I 12 6),aS 11 (I 13 1),aS 11 (bI 14 13),aS 11 (bl .lss T.a 15 12 14),du 16 11 15] (aD 16 .skip (.exit 0))) (.aQ 1 (.aQ 2 (.seq (.ec [I 20 0,I 21 5,bc 22 1 20 21,ae 23 22,I 24 1,I 25 6,bc 26 1 24 25,ae 27 26,bl .eql T.a 28 23 27,I 19 28]) (aD 19 (J [aj 4 (b4 true)] .ret) (.seq (.ec [I 30 0,I 31 5,bc 32 1 30 31,ae 33 32,I 34 1,I 35 6,bc 36 1 34 35,ae 37 36,bl .lss T.a 38 33 37,I 29 38]) (aD 29 (.bF [I 39 5,az .add T.a 40 39 1,I 5 40]) (.bF [I 17 6,az .add T.a 18 17 1,I 6 18]))))))))))) (J [aj 4 (b4 false)] .ret)))⟩:=bO (by kernel_rfl)
theorem E.x5:bN F.x5 ⟨63,[.ja 4 2], (J [ay 1 (.box T.b (ab 0)),ay 2 (.new T.v (.agg #[an,an,an,an]))] (J [a6 10 5 1,bb 11 F.D4 [10],ay 3 (.new T.v (.agg #[an,an,an,an])),cf 4 3 11] (.seq (J [aj 4 (ai 0)] (.aQ 0 (.loop (.seq (J [I 12 4,ag 13 3 1,ae 14 13,bI 15 14,bl .lss T.a 16 12 15,I 17 16,aS 17 (ag 18 0 3),aS 17 (ae 19 18),aS 17 (az .eql T.e 20 19 0),du 21 17 20] (aD 21 .skip (.exit 0))) (.seq (.aQ 1 (.bF [a6 24 5 1,I 25 4,bb 26 F.D6 [24,25],cf 4 3 26])) (.bF [I 22 4,az .add T.a 23 22 1,I 4 23])))))) (.seq (J [ag 27 0 3,ae 28 27,az .neq T.e 29 28 0] (aD 29 (J [a6 30 4 3,cf 4 2 30] .ret) .skip)) (J [a6 32 5 1,bb 33 F.D3 [32],I 31 33,bZ 34 31 0,bZ 35 31 1,bZ 36 31 2,I 5 34,I 6 35,I 7 36] (.seq (J [I 37 5,az .gtr T.a 38 37 12,I 39 38,au 39 (I 40 7),au 39 (az .gtr T.a 41 40 64),ct 42 39 41] (aD 42 (J [ag 43 3 1,ae 44 43,bI 45 44,bh 46 (.cP [an,an,an,an] [(0,1),(1,1),(2,1),(3,1)] [(0,(ai 11)),(1,(ai 4)),(2,(ab 45))]),cf 4 2 46] .ret) .skip)) (.seq (J [aj 8 (ai 0)] (.aQ 2 (.loop (.seq (J [I 47 8,ag 48 4 1,ae 49 48,bI 50 49,bl .lss T.a 51 47 50] (aD 51 .skip (.exit 2))) (.seq (.aQ 3 (J [a6 54 5 1,I 55 8,bb 56 F.D7 [54,55],I 9 56] (J [I 57 9,az .neq T.e 58 57 0] (aD 58 (J [I 59 9,I 60 8,bh 61 (.cP [an,an,an,an] [(0,1),(1,1),(2,1),(3,1)] [(0,(ab 59)),(1,(ai 5)),(2,(ab 60))]),cf 4 2 61] .ret) .skip)))) (.bF [I 52 8,az .add T.a 53 52 1,I 8 53])))))) (J [bh 62 (.cP [an,an,an,an] [(0,1),(1,1),(2,1),(3,1)] []),cf 4 2 62] .ret))))))))⟩:=bO (by kernel_rfl)
theorem E.x8:bN F.x8 ⟨28,[.tmp 4], (J [aj 4 (b4 false)] (.seq (J [aj 5 (ai 0)] (.aQ 0 (.loop (.seq (J [I 7 5,I 8 0,bI 9 8,bl .lss T.a 10 7 9] (aD 10 .skip (.exit 0))) (.seq (.aQ 1 (J [aj 6 (ai 0)] (.aQ 2 (.loop (.seq (J [I 13 6,I 14 1,bI 15 14,bl .lss T.a 16 13 15] (aD 16 .skip (.exit 2))) (.seq (.aQ 3 (.seq (.ec [I 19 0,I 20 5,bc 21 1 19 20,ae 22 21,I 23 1,I 24 6,bc 25 1 23 24,ae 26 25,bl .eql T.a 27 22 26]) (aD 27 (J [aj 4 (b4 true)] .ret) .skip))) (.bF [I 17 6,az .add T.a 18 17 1,I 6 18]))))))) (.bF [I 11 5,az .add T.a 12 11 1,I 5 12])))))) (J [aj 4 (b4 false)] .ret)))⟩:=bO (by kernel_rfl)
theorem E.y4:bN F.y4 ⟨4,[.tmp 2], (J [ay 1 (.box T.b (ab 0)),aj 2 (.const .nilFunc)] (J [bh 3 (.jv F.am [] [(ab 1)]),I 2 3] .ret))⟩:=bO (by kernel_rfl)
theorem E.gB:bN F.gB ⟨38,[], (J [a6 8 5 1,bb 9 F.a [8],I 5 9] (J [a6 10 5 1,bb 11 F.e [10],bI 12 11,aj 13 (ai 0)] (.aQ 0 (.loop (J [bl .lss T.a 14 13 12] (eS 14 0
 (.seq (.aQ 1 (J [I 15 13,bc 16 2 11 13,a6 17 2 16,ay 7 (.new T.ak (.agg #[an,an])),I 6 15,cf 2 7 17] (.seq (.dW (al (ag 18 0 7) (al (ae 19 18) (al (ae 20 2) (al (bl .eql T.a 21 19 20) (al (I 22 21) (al (aS 22 (a6 23 5 1)) (al (aS 22 (I 24 5)) (al (aS 22 (a6 25 2 7)) (al (aS 22 (ae 28 3)) (.alt (aS 22 (bb 26 F.k [23,24,25])) (al (aS 22 (bh 27 (.jd 1 (ab 26)))) (al (aS 22 (bl .eql T.a 29 27 28)) (al (du 30 22 29) (al (I 31 30) (al (aS 31 (I 32 0)) (al (aS 31 (I 33 6)) (.bT (aS 31 (dh 34 (.val (ab 32) [(ab 33)]))) (al (aS 31 (bh 35 (.un .not (ab 34)))) (al (du 36 31 35) .done)) .nil))))))) .nil))))))))))) (aD 36 .ret .skip)))) (e0 T.a 37 13))))))))⟩:=bO (by kernel_rfl)
theorem E.u2:bN F.u2 ⟨61,[.tmp 4,.ja 6 5,.tmp 6], (J [ay 2 (.box T.b (ab 0)),aj 4 (.const (.pointer none)),ay 5 (.new T.j (.agg #[cu,an,an,aP,aP,(.bool false)])),aj 6 (b4 false)] (.seq (J [a6 9 5 2,bb 10 F.j [9],bh 11 (.jd 0 (ab 10)),az .neq T.e 12 11 0] (aD 12 (J [bh 13 (.cP [cu,an,an,aP,aP,(.bool false)] [(0,1),(1,1),(2,1),(3,1),(4,1),(5,1)] []),aj 4 (.const (.pointer none)),cf 6 5 13,aj 6 (b4 false)] .ret) .skip)) (J [a6 14 5 2,bb 15 F.e [14],I 7 15] (.seq (J [I 16 1,az .lss T.a 17 16 0,I 18 17,au 18 (I 19 1),au 18 (I 20 7),au 18 (bI 21 20),au 18 (bl .geq T.a 22 19 21),ct 23 18 22] (aD 23 (J [bh 24 (.cP [cu,an,an,aP,aP,(.bool false)] [(0,1),(1,1),(2,1),(3,1),(4,1),(5,1)] []),aj 4 (.const (.pointer none)),cf 6 5 24,aj 6 (b4 false)] .ret) .skip)) (.seq (.dW (al (a6 25 5 2) (al (a6 26 5 2) (al (a6 28 5 2) (al (I 30 7) (al (I 31 1) (al (bc 32 2 30 31) (al (ag 33 0 32) (al (ae 34 33) (.alt (bb 27 F.y [26]) (.alt (bb 29 F.a [28]) (al (bh 35 (.cP [aP,aP,aP,aP,aP,aP,aP,aP,an,aP,aP,aP,an] [(0,5),(5,6),(11,1),(12,1)] [(0,(ab 25)),(1,(ab 27)),(2,(ab 29)),(3,(ab 34))])) (.bT (ay 36 (.box T.I3 (ab 35))) (al (I 8 36) .done) .nil)) .nil) .nil)))))))))) (.seq (.dW (al (I 37 8) (al (ag 38 3 2) (al (ae 39 38) (al (I 40 8) (al (ht 41 40) (al (ag 42 11 41) (al (ae 43 42) (al (I 44 8) (al (ht 45 44) (al (ag 46 12 45) (al (ae 47 46) (al (bc 48 2 43 47) (al (ag 49 0 48) (al (ae 50 49) (al (bc 51 5 39 50) (al (ag 52 4 51) (al (ae 53 52) (al (I 54 7) (al (I 55 1) (al (bc 56 2 54 55) (al (ag 57 1 56) (al (ae 58 57) (al (bc 59 6 53 58) (al (a6 60 6 59) (al (I 4 37) (.bT (cf 6 5 60) (al (aj 6 (b4 true)) .done) .nil))))))))))))))))))))))))))) .ret))))))⟩:=bO (by kernel_rfl)
theorem E.c:bN F.c ⟨18,[], (J [I 7 2,aj 8 (ai 0)] (.aQ 0 (.loop (J [bl .lss T.a 9 8 7] (eS 9 0
 (.seq (.aQ 1 (J [I 10 8,I 6 10] (.bF [I 11 0,I 12 1,I 13 6,bl .add T.a 14 12 13,nz 15 (.l6 (.int .i64) an false (ab 11) (ab 14)),az .add T.a 16 15 1,hd (.iQ (.int .i64) (ab 11) (ab 14) (ab 16))]))) (e0 T.a 17 8)))))))⟩:=bO (by kernel_rfl)
theorem E.q:bN F.q ⟨14,[.tmp 2], (J [aj 2 (ai 0)] (.seq (.ec [I 3 0,ht 4 3,ag 5 5 4,ag 6 2 5,ae 7 6,I 8 0,ht 9 8,ag 10 12 9,ae 11 10,bc 12 1 7 11,ae 13 12,I 2 13]) .ret))⟩:=bO (by kernel_rfl)
theorem E.rP:bN F.rP ⟨9,[], (J [ay 3 (.box T.rS (ab 0)),ay 4 (.box T.w (ab 1))] (.bF [I 6 2,bh 7 (.jv F.y9 [] [(ab 3),(ab 4)]),bb 8 F.BU [6,7]]))⟩:=bO (by kernel_rfl)
end Go.Proofs.R
end