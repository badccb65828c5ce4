/- Texts joined: LayQ LayR Code0 CodeP1 CodeP2 CodeP3 CodeP4 CodeP5. -/
import Derived.Test.YtempnjgiohpopaaGreatDoorQrdc
import Derived.Test.YtempnjgiohpopaaGreatDoorQrdd
import Derived.Test.YtempnjgiohpopaaGreatDoorChecked
set_option linter.all false
set_option maxRecDepth 100000
section
namespace o
open Go
structure Aq(v:Var)(s:List Scalar):Prop where
 fg:v.scalar=0∨size v.scalar s≠0
 e1:v.over=0∨size v.over s≠0
 F1:v.scalar=0→narrow v.aZ v.ad=true
 aZ:(bounds v s).1≤v.init
 ad:v.init≤(bounds v s).2
structure zZ(c:c5)(s:List Scalar):Prop where
 fg:c.scalar=0∨size c.scalar s≠0
 cap:1≤c.cap∧c.cap≤4
 F1:c.scalar=0→narrow c.aZ c.ad=true
structure VE(p:dj)(s:List Scalar):Prop where
 over:0≤p.over∧p.over≤s.length
 cz:1≤p.cz∧p.cz≤12
 gU:p.vars.length≤4∧p.cB.length≤12
 var:∀v∈p.vars,Aq v s
structure eI(m:Model):Prop where
 gU:m.scalars.length≤2∧m.vars.length≤12∧m.aJ.length≤4
 procs:m.procs.length≤6
 var:∀v∈m.vars,Aq v m.scalars
 chan:∀c∈m.aJ,zZ c m.scalars
 proc:∀p∈m.procs,VE p m.scalars
 insts:(pieces m).1≤12
 cells:(pieces m).2.2≤64
theorem Lf{k:Int}{s:List Scalar}(h:¬there k s=false):k=0∨size k s≠0:=by
 unfold there at h;by_cases aj:k=0
 ·exact .inl aj
 ·exact .inr (by simpa[aj] using h)
theorem UZ{l:List Var}{s:List Scalar}{i:Nat}(ad:i<l.length)(h:nA l s i=0):Aq l[i] s:=by
 unfold nA at h;rw[List.getElem?_eq_getElem ad] at h;simp only at h;by_cases h1:there l[i].scalar s=false∨there l[i].over s=false
 ·rw[if_pos h1] at h;cases h
 rw[if_neg h1] at h;by_cases U:(l[i].scalar=0∧narrow l[i].aZ l[i].ad=false)∨l[i].init<(bounds l[i] s).1∨l[i].init > (bounds l[i] s).2
 ·rw[if_pos U] at h;cases h
 refine⟨Lf fun e=>h1 (.inl e),Lf fun e=>h1 (.inr e),fun aj=>?_,?_,?_⟩
 ·cases aI:narrow l[i].aZ l[i].ad with
  | true=>rfl
  | false=>exact absurd (.inl ⟨aj,aI⟩) U
 ·exact Int.not_lt.1 fun e=>U (.inr (.inl e))
 ·exact Int.not_lt.1 fun e=>U (.inr (.inr e))
theorem Xi{l:List c5}{s:List Scalar}{i:Nat}(ad:i<l.length)(h:nc l s i=0):zZ l[i] s:=by
 unfold nc at h;rw[List.getElem?_eq_getElem ad] at h;simp only at h;by_cases h1:there l[i].scalar s=false
 ·rw[if_pos h1] at h;cases h
 rw[if_neg h1] at h;by_cases U:l[i].cap<1∨l[i].cap > 4∨(l[i].scalar=0∧narrow l[i].aZ l[i].ad=false)
 ·rw[if_pos U] at h;cases h
 refine⟨Lf h1,by omega,fun aj=>?_⟩;cases aI:narrow l[i].aZ l[i].ad with
 | true=>rfl
 | false=>exact absurd (.inr (.inr ⟨aj,aI⟩)) U
theorem H4{e0:Int}{fe:Nat→ByteArray}{mo:Nat→Int}{i:Nat}(h:err e0 fe mo i=0):mo i=0:=by
 unfold err at h;split at h
 ·cases h
 ·split at h
  ·cases h
  ·split at h
   ·cases h
   ·exact h
theorem qO{m:Model}(h:(check m).dp=0):eI m:=by
 unfold check at h;by_cases br:(data m).dp≠0
 ·rw[if_pos br] at h;exact absurd h br
 rw[if_neg br] at h;have br:(data m).dp=0:=by simpa using br
 by_cases aO:(lF m).dp≠0
 ·rw[if_pos aO] at h;exact absurd h aO
 have aO:(lF m).dp=0:=by simpa using aO
 obtain⟨h1,U,ag⟩:=Pn br;obtain⟨ff,gf,gV⟩:=Ky aO;refine⟨EE br,?_,fun v aS=>?_,fun c ax=>?_,fun p aaX=>?_,gf,gV⟩
 ·apply Classical.byContradiction;intro aI
  have:=EL (i:=6) (by omega) (ff 6 (by omega))
  omega
 ·obtain⟨i,ad,rfl⟩:=List.mem_iff_getElem.1 aS;exact UZ ad (H4 (GF (U i ad)))
 ·obtain⟨i,ad,rfl⟩:=List.mem_iff_getElem.1 ax;exact Xi ad (H4 (Ev (ag i ad)))
 ·obtain⟨i,ad,rfl⟩:=List.mem_iff_getElem.1 aaX;obtain⟨_,ez,_,_⟩:=A3 ad (ff i ad);have ay:(gg m i).scalars=m.scalars:=by
   unfold gg;split<;>rfl
  obtain⟨f1,f2,f3,f4,_⟩:=Kw ez;have f5:(vars m.procs[i].vars m.scalars 4).2=0:=by
   apply Classical.byContradiction;intro aI;unfold jR at f4;rw[ay,if_pos aI] at f4;exact aI f4
  unfold whole at f3;rw[ay] at f3;split at f3
  ·cases f3
  ·split at f3
   ·cases f3
   ·split at f3
    ·cases f3
    ·exact⟨by omega,by omega,⟨f1,f2⟩,fun v aS=>by
      obtain⟨j,aU,rfl⟩:=List.mem_iff_getElem.1 aS;exact UZ aU (H4 (sD f5 j aU))⟩
theorem S4{aZ ad:Int}(h:narrow aZ ad=true) : -1048576≤aZ∧aZ≤ad∧ad≤1048576∧ad - aZ<256:=by
 unfold narrow at h;exact of_decide_eq_true h
theorem Xe{v:Var}{s:List Scalar}(h:Aq v s):1≤cells v s:=by
 have:=size_le v.over s
 have:=h.e1
 unfold cells;split<;>omega
theorem zQ(s:List Scalar)(v:Var):(xB s v).length=(cells v s).toNat:=by simp[xB]
theorem sn(s:List Scalar)(c:c5):(lh s c).length=1+c.cap.toNat:=by simp[lh];omega
theorem B5{m:Model}{x:c3}(h:x.of m):∃(i:Nat) (ad:i<m.procs.length),x.proc=i∧ka m x=rU m.scalars m.procs[i]:=by
 refine⟨x.proc.toNat,by have:=h.ad;have:=h.aZ;omega,by have:=h.aZ;omega,?_⟩;unfold ka;rw[hX h.aZ (by exact_mod_cast h.ad)]
theorem agp{m:Model}(h:eI m):∀l∈cG m,l≠[]:=fun l aP=>by
 obtain⟨v,aS,rfl⟩:=List.mem_map.1 aP
 have:=Xe (h.var v aS)
 intro e
 have:=congrArg List.length e
 rw[zQ] at this;simp at this;omega
theorem WT(m:Model):∀l∈dc m,l≠[]:=fun l aP=>by
 obtain⟨v,aS,rfl⟩:=List.mem_map.1 aP;simp[lh]
theorem abI(m:Model):∀l∈eP m,l≠[]:=fun l aP=>by
 obtain⟨v,aS,rfl⟩:=List.mem_map.1 aP;obtain⟨i,ad,_,e⟩:=B5 (qK v aS);rw[e];simp[rU]
theorem YL{m:Model}(h:eI m):hy 1 (b1 m) 0=gF 0 (cG m)∧hy 2 (b1 m) 0=gF (total (cG m)) (dc m)∧hy 3 (b1 m) 0=gF (total (cG m)+total (dc m)) (eP m):=by
 unfold b1;simp only[A6,jx,List.length_append,Nat.zero_add];refine⟨?_,?_,?_⟩
 ·rw[ES 1 _ 0 0 (agp h),wh 1 2 (by decide),wh 1 3 (by decide)];simp
 ·rw[ES 2 _ 0 _ (WT m),wh 2 1 (by decide),wh 2 3 (by decide)];simp
 ·rw[ES 3 _ 0 _ (abI m),wh 3 1 (by decide),wh 3 2 (by decide)];simp
theorem K8(x:Int)(l:List Int):hq (x :: l)=x+hq l:=by
 have key:∀(l:List Int) (a:Int),l.foldl (· + ·) a=a+l.foldl (· + ·) 0:=by
  intro l
  induction l with
  | nil=>intro a;simp
  | cons y r fB =>
   intro a;simp only[List.foldl_cons];rw[fB (a+y),fB (0+y)];omega
 unfold hq;rw[List.foldl_cons,key];omega
theorem Dv(l:List dm)(r:List (List dm)):total (l :: r)=l.length+total r:=by simp[total]
theorem Du(a b:List (List dm)):total (a++b)=total a+total b:=by simp[total]
theorem UR(s:List Scalar):∀l:List Var,(total (l.map (xB s)):Int)=hq (l.map fun v=>cells v s)
 | []=>rfl
 | v :: r=>by
  rw[List.map_cons,Dv,List.map_cons,K8,←UR s r,zQ]
  have:=(sm v s).1
  omega
theorem UO(s:List Scalar):∀l:List c5,(∀c∈l,zZ c s)→(total (l.map (lh s)):Int)=hq (l.map oW)
 | [],_=>rfl
 | c :: r,h=>by
  rw[List.map_cons,Dv,List.map_cons,K8,←UO s r (fun x ar=>h x (by simp[ar])),sn]
  have:=(h c (by simp)).cap
  unfold oW;omega
theorem xp(s:List Scalar)(p:dj):(rU s p).length=1+p.vars.length:=by simp[rU];omega
theorem X4(m:Model)(i:Nat)(p:dj)(h:0≤p.over):(((hI i p).length+elems m p:Nat):Int)=jJ m p:=by
 unfold hI jJ elems;by_cases aj:p.over=0
 ·rw[if_pos aj,if_pos aj,gQ (.inl (by omega))];rfl
 ·rw[if_neg aj,if_neg aj];unfold size;by_cases h1:p.over - 1<m.scalars.length
  ·rw[hX (by omega) h1,List.getElem?_eq_getElem (by omega)];simp only;by_cases U:(m.scalars[(p.over - 1).toNat]'(by omega)).size<1∨4<(m.scalars[(p.over - 1).toNat]'(by omega)).size
   ·rw[if_pos U,if_neg (by omega)];rfl
   ·rw[if_neg U,if_pos (by omega)];simp only[List.length_nil];omega
  ·rw[gQ (.inr (by omega)),List.getElem?_eq_none (by omega)];rfl
theorem UP(m:Model):∀(l:List dj) (i:Nat),m.procs.drop i=l→(∀p∈l,0≤p.over)→(total ((ic m l i).map (ka m)):Int)=hq (l.map fun p=>jJ m p*(1+p.vars.length))
 | [],_,_,_=>rfl
 | p :: r,i,br,h=>by
  have ad:i<m.procs.length:=by
   apply Classical.byContradiction;intro aI;rw[List.drop_eq_nil_of_le (by omega)] at br;cases br
  rw[List.drop_eq_getElem_cons ad] at br;injection br with aO bd
  have aD:∀x:c3,x.proc=i→(ka m x).length=1+p.vars.length:=fun x ar=>by
   unfold ka;rw[ar,hX (by omega) (by omega)];simp only[Int.toNat_natCast];rw[aO,xp]
  have c9:∀l:List c3,(∀x∈l,x.proc=i)→total (l.map (ka m))=l.length*(1+p.vars.length):=by
   intro l
   induction l with
   | nil=>intro _;simp[total]
   | cons x r fB =>
    intro h;rw[List.map_cons,Dv,fB (fun y cx=>h y (by simp[cx])),aD x (h x (by simp)),List.length_cons,Nat.add_mul];omega
  have h1:∀x∈hI i p++ih i (elems m p),x.proc=i:=fun x ar=>by
   rcases List.mem_append.1 ar with ar | ar
   ·unfold hI at ar;split at ar
    ·rw[List.mem_singleton] at ar;rw[ar]
    ·cases ar
   ·unfold ih at ar;obtain⟨k,_,rfl⟩:=List.mem_map.1 ar;rfl
  rw[ic,List.map_append,Du,c9 _ h1,List.map_cons,K8,←UP m r (i+1) bd (fun x ar=>h x (by simp[ar])),←X4 m i p (h p (by simp))];rw[List.length_append,show(ih i (elems m p)).length=elems m p from by simp[ih]];simp only[Int.natCast_add,Int.natCast_mul];rfl
theorem FU{m:Model}(h:eI m):((b1 m).length:Int)=(pieces m).2.2:=by
 rw[B9];have bP:=UR m.scalars m.vars;have ba:=UO m.scalars m.aJ h.chan;have bQ:=UP m m.procs 0 (by simp) (fun p aO=>(h.proc p aO).over.1);unfold pieces;simp only;rw[←bP,←ba,←bQ];simp only[cG,dc,eP,insts];omega
def P3(l:tU)(s:Int):List Int:=if s=3 then l.insts else if s=2 then l.aJ else l.vars
structure agS(m:Model)(c:Nat)(x:Cell):Prop where
 sort:1≤x.sort∧x.sort≤3
 tL:0≤x.tL∧x.tL<(P3 (layout m) x.sort).length
 at_:(P3 (layout m) x.sort)[x.tL.toNat]? = some ((c:Int) - x.place)
 place:0≤x.place∧x.place≤c
 le:x.aZ≤x.ad
 chan:x.sort=2→x.aZ≤0∧0≤x.ad
theorem acv{m:Model}{c:Nat}(h1:total (cG m)≤c)(h:c<total (cG m)+total (dc m)):(b1 m)[c]? = (cellsOf 2 (dc m) 0)[c - total (cG m)]? := by
 unfold b1;rw[List.getElem?_append_left (by rw[List.length_append,jx,jx];omega),List.getElem?_append_right (by rw[jx];exact h1),jx]
theorem acx{m:Model}{c:Nat}(h1:total (cG m)+total (dc m)≤c):(b1 m)[c]? = (cellsOf 3 (eP m) 0)[c - (total (cG m)+total (dc m))]? := by
 unfold b1;rw[List.getElem?_append_right (by rw[List.length_append,jx,jx];exact h1),List.length_append,jx,jx]
theorem Dw{ls:List (List dm)}{i:Nat}(h:i<ls.length):total (ls.take (i+1))=total (ls.take i)+ls[i].length:=by
 rw[List.take_succ_eq_append_getElem h,agb]
theorem agc(ls:List (List dm))(i:Nat):total (ls.take i)≤total ls:=by
 have e:total ls=total (ls.take i)+total (ls.drop i):=by rw[←Du,List.take_append_drop]
 omega
theorem Lc{ls:List (List dm)}{i:Nat}(h:i<ls.length):total (ls.take i)+ls[i].length≤total ls:=by
 rw[←Dw h];exact agc _ _
end o
end
section
namespace Go.Proofs.R
open Go bt Go.Proofs
abbrev T.qk:TypeId:=0
abbrev T.a:TypeId:=3
abbrev T.rb:TypeId:=4
abbrev T.w:TypeId:=5
abbrev T.h:TypeId:=9
abbrev T.oR:TypeId:=20
abbrev T.x:TypeId:=21
abbrev T.y:TypeId:=22
abbrev T.Ar:TypeId:=23
abbrev T.oP:TypeId:=24
abbrev T.ql:TypeId:=25
abbrev T.sj:TypeId:=26
abbrev T.c:TypeId:=28
abbrev T.b:TypeId:=34
abbrev T.z:TypeId:=37
abbrev T.e:TypeId:=42
abbrev T.x4:TypeId:=51
abbrev T.lY:TypeId:=70
abbrev T.ap:TypeId:=71
abbrev T.m:TypeId:=73
abbrev T.qm:TypeId:=74
abbrev T.g:TypeId:=76
abbrev T.l:TypeId:=78
abbrev T.nH:TypeId:=79
abbrev T.p:TypeId:=82
abbrev T.Eh:TypeId:=85
abbrev T.f:TypeId:=88
abbrev T.s:TypeId:=92
abbrev T.n:TypeId:=95
abbrev T.jt:TypeId:=97
abbrev T.q:TypeId:=99
abbrev T.k:TypeId:=101
abbrev T.i:TypeId:=117
abbrev T.re:TypeId:=121
abbrev T.t:TypeId:=125
abbrev T.rQ:TypeId:=132
abbrev T.v:TypeId:=147
abbrev T.kq:TypeId:=176
abbrev T.a0:TypeId:=177
abbrev T.dy:TypeId:=178
abbrev T.x3:TypeId:=188
abbrev T.a2:TypeId:=202
abbrev T.rf:TypeId:=204
abbrev T.ac:TypeId:=207
abbrev T.am:TypeId:=213
abbrev T.sh:TypeId:=216
abbrev T.d:TypeId:=240
abbrev T.Di:TypeId:=248
abbrev T.kb:TypeId:=251
abbrev T.as:TypeId:=264
abbrev T.j:TypeId:=266
abbrev T.r:TypeId:=268
abbrev T.oQ:TypeId:=281
abbrev T.a4:TypeId:=290
abbrev T.vN:TypeId:=295
abbrev T.a3:TypeId:=307
abbrev F.CQ:FuncId:=4
abbrev F.CP:FuncId:=20
abbrev F.xb:FuncId:=21
abbrev F.xf:FuncId:=22
abbrev F.zh:FuncId:=23
abbrev F.a4:FuncId:=24
abbrev F.CR:FuncId:=25
abbrev F.zo:FuncId:=26
abbrev F.tj:FuncId:=44
abbrev F.cs:FuncId:=47
abbrev F.z:FuncId:=48
abbrev F.dw:FuncId:=50
abbrev F.lf:FuncId:=51
abbrev F.bP:FuncId:=52
abbrev F.Cw:FuncId:=61
abbrev F.zj:FuncId:=62
abbrev F.CC:FuncId:=63
abbrev F.u5:FuncId:=64
abbrev F.jt:FuncId:=65
abbrev F.fu:FuncId:=66
abbrev F.qh:FuncId:=67
abbrev F.a9:FuncId:=68
abbrev F.a:FuncId:=69
abbrev F.f:FuncId:=70
abbrev F.p:FuncId:=71
abbrev F.yr:FuncId:=72
abbrev F.cW:FuncId:=73
abbrev F.q:FuncId:=74
abbrev F.CK:FuncId:=75
abbrev F.CL:FuncId:=76
abbrev F.Cp:FuncId:=77
abbrev F.xc:FuncId:=78
abbrev F.CN:FuncId:=79
abbrev F.zf:FuncId:=80
abbrev F.xe:FuncId:=81
abbrev F.xd:FuncId:=82
abbrev F.fS:FuncId:=89
abbrev F.oP:FuncId:=90
abbrev F.c2:FuncId:=100
abbrev F.Cu:FuncId:=108
abbrev F.r:FuncId:=109
abbrev F.bT:FuncId:=111
abbrev F.nI:FuncId:=112
abbrev F.pB:FuncId:=113
abbrev F.vT:FuncId:=121
abbrev F.w9:FuncId:=123
abbrev F.CF:FuncId:=124
abbrev F.CG:FuncId:=125
abbrev F.CD:FuncId:=126
abbrev F.zi:FuncId:=127
abbrev F.pE:FuncId:=128
abbrev F.be:FuncId:=129
abbrev F.g:FuncId:=130
abbrev F.oQ:FuncId:=131
abbrev F.nd:FuncId:=132
abbrev F.iB:FuncId:=133
abbrev F.CJ:FuncId:=134
abbrev F.w4:FuncId:=135
abbrev F.zk:FuncId:=136
abbrev F.CM:FuncId:=137
abbrev F.zp:FuncId:=138
abbrev F.AI:FuncId:=142
abbrev F.AJ:FuncId:=146
abbrev F.AK:FuncId:=147
abbrev F.AL:FuncId:=148
abbrev F.x6:FuncId:=149
abbrev F.w7:FuncId:=153
abbrev F.nH:FuncId:=163
abbrev F.AM:FuncId:=164
abbrev F.b:FuncId:=165
abbrev F.bi:FuncId:=166
abbrev F.s:FuncId:=167
abbrev F.AN:FuncId:=168
abbrev F.AO:FuncId:=169
abbrev F.x7:FuncId:=170
abbrev F.t:FuncId:=171
abbrev F.x8:FuncId:=172
abbrev F.Cy:FuncId:=176
abbrev F.Cz:FuncId:=177
abbrev F.Cx:FuncId:=178
abbrev F.CA:FuncId:=179
abbrev F.w6:FuncId:=180
abbrev F.CB:FuncId:=181
abbrev F.dZ:FuncId:=184
abbrev F.zd:FuncId:=185
abbrev F.Ck:FuncId:=186
abbrev F.Cg:FuncId:=187
abbrev F.Cf:FuncId:=188
abbrev F.CE:FuncId:=189
abbrev F.CI:FuncId:=190
abbrev F.u4:FuncId:=191
abbrev F.CH:FuncId:=192
abbrev F.AP:FuncId:=194
abbrev F.AQ:FuncId:=195
abbrev F.kq:FuncId:=196
abbrev F.AR:FuncId:=198
abbrev F.am:FuncId:=199
abbrev F.qk:FuncId:=200
abbrev F.ba:FuncId:=201
abbrev F.ql:FuncId:=202
abbrev F.AS:FuncId:=203
abbrev F.pR:FuncId:=206
abbrev F.ap:FuncId:=208
abbrev F.cN:FuncId:=209
abbrev F.ya:FuncId:=210
abbrev F.yc:FuncId:=211
abbrev F.yd:FuncId:=212
abbrev F.qm:FuncId:=213
abbrev F.ye:FuncId:=214
abbrev F.jw:FuncId:=215
abbrev F.cT:FuncId:=216
abbrev F.dz:FuncId:=217
abbrev F.d0:FuncId:=218
abbrev F.d1:FuncId:=219
abbrev F.yf:FuncId:=220
abbrev F.d2:FuncId:=221
abbrev F.bQ:FuncId:=222
abbrev F.bv:FuncId:=223
abbrev F.d3:FuncId:=224
abbrev F.nb:FuncId:=225
abbrev F.d4:FuncId:=226
abbrev F.cv:FuncId:=227
abbrev F.d5:FuncId:=228
abbrev F.d6:FuncId:=229
abbrev F.d7:FuncId:=230
abbrev F.Cm:FuncId:=233
abbrev F.ze:FuncId:=234
abbrev F.tm:FuncId:=235
abbrev F.tk:FuncId:=236
abbrev F.Cl:FuncId:=237
abbrev F.Cs:FuncId:=238
abbrev F.Ct:FuncId:=239
abbrev F.Cv:FuncId:=240
abbrev F.rP:FuncId:=241
abbrev F.zc:FuncId:=242
abbrev F.xa:FuncId:=243
abbrev F.u3:FuncId:=246
abbrev F.qM:FuncId:=247
abbrev F.y9:FuncId:=248
abbrev F.Cb:FuncId:=249
abbrev F.Cc:FuncId:=250
abbrev F.zl:FuncId:=251
abbrev F.zm:FuncId:=252
abbrev F.zn:FuncId:=253
abbrev F.dH:FuncId:=254
abbrev F.AV:FuncId:=255
abbrev F.ix:FuncId:=256
abbrev F.as:FuncId:=257
abbrev F.lZ:FuncId:=258
abbrev F.i:FuncId:=259
abbrev F.mu:FuncId:=260
abbrev F.iy:FuncId:=261
abbrev F.iz:FuncId:=262
abbrev F.qo:FuncId:=263
abbrev F.j0:FuncId:=264
abbrev F.vX:FuncId:=265
abbrev F.AW:FuncId:=266
abbrev F.ce:FuncId:=267
abbrev F.rb:FuncId:=268
abbrev F.AX:FuncId:=269
abbrev F.b3:FuncId:=280
abbrev F.yl:FuncId:=281
abbrev F.AY:FuncId:=282
abbrev F.oR:FuncId:=283
abbrev F.kU:FuncId:=284
abbrev F.wb:FuncId:=285
abbrev F.cc:FuncId:=286
abbrev F.nf:FuncId:=287
abbrev F.el:FuncId:=288
abbrev F.em:FuncId:=289
abbrev F.h5:FuncId:=290
abbrev F.Cn:FuncId:=291
abbrev F.w8:FuncId:=292
abbrev F.Co:FuncId:=293
abbrev F.Cd:FuncId:=294
abbrev F.Ch:FuncId:=295
abbrev F.Ci:FuncId:=296
abbrev F.Cj:FuncId:=297
abbrev F.w1:FuncId:=307
abbrev F.rh:FuncId:=308
abbrev F.ci:FuncId:=309
abbrev F.eW:FuncId:=310
abbrev F.yn:FuncId:=311
abbrev F.c0:FuncId:=317
abbrev F.A4:FuncId:=318
abbrev F.bb:FuncId:=319
abbrev F.re:FuncId:=320
abbrev F.yo:FuncId:=321
abbrev F.A5:FuncId:=322
abbrev F.rf:FuncId:=323
abbrev F.ti:FuncId:=324
abbrev F.Cq:FuncId:=325
abbrev F.za:FuncId:=326
abbrev F.w3:FuncId:=327
abbrev F.Ce:FuncId:=328
abbrev F.u2:FuncId:=329
abbrev F.qL:FuncId:=330
abbrev F.zb:FuncId:=331
abbrev F.w2:FuncId:=336
abbrev F.vZ:FuncId:=338
abbrev F.Cr:FuncId:=339
abbrev F.zg:FuncId:=340
abbrev F.w5:FuncId:=341
abbrev G.SM:Nat:=0
theorem lx:Tryz.prog.follows .mixedOrders=true:=by kernel_rfl
theorem bM{f:FuncId}{L:lR}{args:List Value}{R:Value→World→Prop}{w:World}(ax:kv Tryz.prog f=some L)(h:dT Tryz.prog L.code (sx L.res R ⟨⟩) (hd args 0) w ⟨⟩)(bp:args.length≤L.n:=by exact Nat.le_of_ble_eq_true rfl):bu Tryz.prog f args.toArray w R:=K.start lx ax bp h
abbrev bE(f:FuncId)(c:lR):Prop:=kv Tryz.prog f=some c
theorem bG{f:FuncId}{c:lR}(h:kv Tryz.prog f=some c):bE f c:=h
theorem E.CQ:bE F.CQ ⟨129,[.tmp 6], (J [aG 3 (.box T.c (ab 0)),ah 6 (bV false)] (.seq (J [bn 17 5 3,aY 18 F.CP [17],az .eql T.a 19 18 1,I 20 19,ao 20 (I 21 1),ao 20 (bL 22 21),ao 20 (az .gtr T.a 23 22 200),cb 24 20 23,I 25 24,ao 25 (I 26 2),ao 25 (bL 27 26),ao 25 (az .gtr T.a 28 27 200),cb 29 25 28,I 30 29,ao 30 (bn 31 5 3),ao 30 (I 32 1),ao 30 (aY 33 F.xb [31,32]),ao 30 (a7 34 (.un .not (ab 33))),cb 35 30 34,I 36 35,ao 36 (bn 37 5 3),ao 36 (I 38 2),ao 36 (aY 39 F.xb [37,38]),ao 36 (a7 40 (.un .not (ab 39))),cb 41 36 40] (aE 41 (J [aY 42 F.xf [],I 6 42] .ret) .skip)) (J [bn 43 5 3,aY 44 F.zh [43],bL 45 44,I 7 45] (.seq (J [ah 8 (ai 0)] (.aW 0 (.loop (.seq (J [I 46 8,I 47 7,bm .lss T.a 48 46 47] (aE 48 .skip (.exit 0))) (.seq (.aW 1 (J [bn 52 5 3,I 53 8,aY 54 F.a4 [52,53],I 51 54,bx 55 51 0,bx 56 51 1,I 9 55,I 10 56] (.seq (.dS (ak (bn 57 5 3) (ak (I 58 1) (ak (I 59 2) (ak (I 61 9) (ak (I 63 10) (.alt (aG 60 (.cV T.a 0 1 [] [])) (.alt (aG 62 (.app T.b T.a 1 8 (ab 60) (ab 61))) (.alt (aG 64 (.app T.b T.a 1 8 (ab 62) (ab 63))) (.b0 (aY 65 F.CR [57,58,59,64]) (ak (I 11 65) .done) .nil) .nil) .nil) .nil))))))) (.seq (J [bn 66 5 3,I 67 11,aY 68 F.xb [66,67],a7 69 (.un .not (ab 68))] (aE 69 (.exit 1) .skip)) (J [bn 71 5 3,I 72 1,I 73 8,de 74 (.fn F.zo [(ab 71),(ab 72),(ab 73),(ai 0)]),I 70 74,bx 75 70 0,bx 76 70 1,I 12 75,I 13 76] (J [bn 78 5 3,I 79 11,I 80 8,de 81 (.fn F.zo [(ab 78),(ab 79),(ab 80),(ai 0)]),I 77 81,bx 82 77 0,bx 83 77 1,I 14 82,I 15 83] (.seq (J [I 84 13,I 85 15,bm .neq T.e 86 84 85] (aE 86 (J [ah 6 (bV false)] .ret) .skip)) (J [ah 16 (ai 0)] (.aW 2 (.loop (.seq (J [I 87 16,I 88 10,bL 89 88,bm .lss T.a 90 87 89,I 91 90,aX 91 (I 92 13),aX 91 (az .eql T.e 93 92 0),dq 94 91 93] (aE 94 .skip (.exit 2))) (.seq (.aW 3 (.seq (.dR [I 97 10,I 98 16,bo 99 1 97 98,ae 100 99,az .lss T.a 101 100 0,I 102 101,ao 102 (I 103 10),ao 102 (I 104 16),ao 102 (bo 105 1 103 104),ao 102 (ae 106 105),ao 102 (I 107 12),ao 102 (bL 108 107),ao 102 (bm .geq T.a 109 106 108),cb 110 102 109,I 111 110,ao 111 (I 112 12),ao 111 (I 113 10),ao 111 (I 114 16),ao 111 (bo 115 1 113 114),ao 111 (ae 116 115),ao 111 (bo 117 1 112 116),ao 111 (ae 118 117),ao 111 (I 119 14),ao 111 (I 120 10),ao 111 (I 121 16),ao 111 (bo 122 1 120 121),ao 111 (ae 123 122),ao 111 (bo 124 1 119 123),ao 111 (ae 125 124),ao 111 (bm .neq T.a 126 118 125),cb 127 111 126]) (aE 127 (J [ah 6 (bV false)] .ret) .skip))) (.bJ [I 95 16,az .add T.a 96 95 1,I 16 96]))))))))))))) (.bJ [I 49 8,az .add T.a 50 49 1,I 8 50])))))) (J [aY 128 F.xf [],I 6 128] .ret)))))⟩:=bG (by kernel_rfl)
theorem E.CP:bE F.CP ⟨81,[.tmp 2], (J [aG 1 (.box T.c (ab 0)),ah 2 (ai 0)] (.seq (J [af 6 0 1,ae 7 6,bL 8 7,az .gtr T.a 9 8 10,I 10 9,ao 10 (af 11 1 1),ao 10 (ae 12 11),ao 10 (bL 13 12),ao 10 (az .gtr T.a 14 13 30),cb 15 10 14,I 16 15,ao 16 (af 17 2 1),ao 16 (ae 18 17),ao 16 (bL 19 18),ao 16 (az .gtr T.a 20 19 20),cb 21 16 20,I 22 21,ao 22 (af 23 3 1),ao 22 (ae 24 23),ao 22 (bL 25 24),ao 22 (az .gtr T.a 26 25 20),cb 27 22 26,I 28 27,ao 28 (af 29 4 1),ao 28 (ae 30 29),ao 28 (bL 31 30),ao 28 (az .gtr T.a 32 31 20),cb 33 28 32] (aE 33 (J [ah 2 (ai 1)] .ret) .skip)) (.seq (J [ah 3 (ai 0)] (.aW 0 (.loop (.seq (J [I 34 3,af 35 3 1,ae 36 35,bL 37 36,bm .lss T.a 38 34 37] (aE 38 .skip (.exit 0))) (.seq (.aW 1 (J [af 41 3 1,ae 42 41,I 43 3,bo 44 5 42 43,bn 45 5 44,aG 4 (.new T.g (.agg #[cH,an,an,aQ,aQ])),cf 5 4 45] (.seq (J [af 46 3 4,ae 47 46,bL 48 47,az .gtr T.a 49 48 20,I 50 49,ao 50 (af 51 4 4),ao 50 (ae 52 51),ao 50 (bL 53 52),ao 50 (az .gtr T.a 54 53 30),cb 55 50 54] (aE 55 (J [ah 2 (ai 1)] .ret) .skip)) (J [ah 5 (ai 0)] (.aW 2 (.loop (.seq (J [I 56 5,af 57 4 4,ae 58 57,bL 59 58,bm .lss T.a 60 56 59] (aE 60 .skip (.exit 2))) (.seq (.aW 3 (J [af 63 4 4,ae 64 63,I 65 5,bo 66 6 64 65,af 67 4 66,ae 68 67,bL 69 68,az .gtr T.a 70 69 20,I 71 70,ao 71 (af 72 4 4),ao 71 (ae 73 72),ao 71 (I 74 5),ao 71 (bo 75 6 73 74),ao 71 (af 76 3 75),ao 71 (ae 77 76),ao 71 (bL 78 77),ao 71 (az .gtr T.a 79 78 60),cb 80 71 79] (aE 80 (J [ah 2 (ai 1)] .ret) .skip))) (.bJ [I 61 5,az .add T.a 62 61 1,I 5 62]))))))))) (.bJ [I 39 3,az .add T.a 40 39 1,I 3 40])))))) (J [ah 2 (ai 0)] .ret))))⟩:=bG (by kernel_rfl)
theorem E.xb:bE F.xb ⟨14,[.tmp 4], (J [aG 2 (.box T.c (ab 0)),ah 4 (bV false)] (.seq (.dS (ak (bn 5 5 2) (.alt (aY 6 F.Cw [5]) (ak (I 7 6) (ak (aX 7 (bn 8 5 2)) (ak (aX 7 (bn 9 5 2)) (ak (aX 7 (I 11 1)) (.alt (aX 7 (aY 10 F.CC [9])) (.b0 (aX 7 (aY 12 F.zj [8,10,11])) (ak (dq 13 7 12) (ak (I 4 13) .done)) .nil) .nil))))) .nil))) .ret))⟩:=bG (by kernel_rfl)
theorem E.xf:bE F.xf ⟨34,[.tmp 0], (J [ah 0 (bV false)] (J [aY 4 F.u5 [],de 5 (.fn F.a4 [(ab 4),(ai 1)]),I 3 5,bx 6 3 0,bx 7 3 1,I 1 6,I 2 7] (J [I 8 1,aG 9 (.cV T.a 2 1 [an,an] [(0,(ai 1)),(1,(ai 3))]),aY 10 F.jt [8,9],I 11 10,aX 11 (I 12 2),aX 11 (aG 13 (.cV T.a 2 1 [an,an] [(0,(ai 1)),(1,(ai 3))])),aX 11 (aY 14 F.jt [12,13]),dq 15 11 14,I 16 15,aX 16 (aY 17 F.u5 []),aX 16 (de 18 (.fn F.fu [(ab 17),(ai 0)])),aX 16 (aG 19 (.cV T.a 1 1 [an] [(0,(ai 2))])),aX 16 (aY 20 F.jt [18,19]),dq 21 16 20,I 22 21,aX 22 (aY 23 F.u5 []),aX 22 (de 24 (.fn F.qh [(ab 23),(ai 1)])),aX 22 (aG 25 (.cV T.a 1 1 [an] [(0,(ai 3))])),aX 22 (aY 26 F.jt [24,25]),dq 27 22 26,I 28 27,aX 28 (aY 29 F.u5 []),aX 28 (de 30 (.fn F.qh [(ab 29),(ai 2)])),aX 28 (bL 31 30),aX 28 (az .eql T.a 32 31 0),dq 33 28 32,I 0 33] .ret)))⟩:=bG (by kernel_rfl)
theorem E.zh:bE F.zh ⟨37,[.tmp 2], (J [aG 1 (.box T.c (ab 0)),ah 2 (.const aQ)] (J [bn 7 5 1,aY 8 F.tj [7],I 3 8] (J [ah 4 (.const aQ)] (.seq (J [ah 5 (ai 0)] (.aW 0 (.loop (.seq (J [I 9 5,I 10 3,bL 11 10,bm .lss T.a 12 9 11] (aE 12 .skip (.exit 0))) (.seq (.aW 1 (J [ah 6 (ai 0)] (.aW 2 (.loop (.seq (.seq (.dR [I 15 6,af 16 3 1,ae 17 16,I 18 3,I 19 5,bo 20 2 18 19,af 21 0 20,ae 22 21,bo 23 5 17 22,af 24 4 23,ae 25 24,bL 26 25,bm .lss T.a 27 15 26]) (aE 27 .skip (.exit 2))) (.seq (.aW 3 (.bJ [I 30 4,I 31 5,I 32 6,a7 33 (.cF [an,an] [(0,1),(1,1)] [(0,(ab 31)),(1,(ab 32))]),aG 34 (.cV T.p 1 2 [an,an] [(0,(ab 33))]),aG 35 (.app T.z T.p 2 16 (ab 30) (ab 34)),I 4 35])) (.bJ [I 28 6,az .add T.a 29 28 1,I 6 29]))))))) (.bJ [I 13 5,az .add T.a 14 13 1,I 5 14])))))) (J [I 36 4,I 2 36] .ret)))))⟩:=bG (by kernel_rfl)
theorem E.a4:bE F.a4 ⟨57,[.tmp 4,.tmp 5], (J [aG 2 (.box T.c (ab 0)),ah 4 (.const aQ),ah 5 (.const aQ)] (J [bn 14 5 2,I 15 1,aY 16 F.a9 [14,15],I 13 16,bx 17 13 0,bx 18 13 1,bx 19 13 2,aG 7 (.new T.m (.agg #[cH,an,an,aQ,aQ,(.bool false)])),I 6 17,cf 6 7 18,I 8 19] (.seq (J [I 20 8,a7 21 (.un .not (ab 20))] (aE 21 (J [ah 4 (.const aQ),ah 5 (.const aQ)] .ret) .skip)) (J [aG 22 .pa,aG 23 .pa,I 9 22,I 10 23] (J [I 24 9,I 25 6,aY 26 F.f [25],de 27 (.fn F.a [(ab 24),(ab 26),(ai 1)])] (J [I 28 10,I 29 6,aY 30 F.f [29],de 31 (.fn F.a [(ab 28),(ab 30),(ai 1)])] (J [I 32 6,I 33 9,af 34 3 7,ae 35 34,aY 36 F.p [32,33,35]] (.seq (J [af 37 4 7,ae 38 37,bL 39 38,ah 40 (ai 0)] (.aW 0 (.loop (J [bm .lss T.a 41 40 39] (fy 41 0
 (.seq (.aW 1 (J [bo 42 5 38 40,bn 43 5 42,aG 12 (.new T.n (.agg #[an,an,an,aQ,aQ])),cf 5 12 43] (J [I 44 6,I 45 9,bn 46 5 12,aY 47 F.yr [44,45,46]] (.bJ [I 48 6,I 49 10,bn 50 5 12,aY 51 F.cW [48,49,50]])))) (fM T.a 52 40))))))) (J [I 53 9,aY 54 F.q [53],I 55 10,aY 56 F.q [55],I 4 54,I 5 56] .ret)))))))))⟩:=bG (by kernel_rfl)
theorem E.CR:bE F.CR ⟨48,[.tmp 8], (J [aG 4 (.box T.c (ab 0)),ah 8 (.const aQ)] (J [aG 11 (.cV T.a 0 1 [] []),I 12 2,aG 13 (.app T.b T.a 1 8 (ab 11) (ab 12)),I 9 13] (.seq (J [ah 10 (ai 0)] (.aW 0 (.loop (.seq (J [I 14 10,I 15 3,bL 16 15,bm .lss T.a 17 14 16] (aE 17 .skip (.exit 0))) (.seq (.aW 1 (J [I 20 3,I 21 10,bo 22 1 20 21,ae 23 22,az .geq T.a 24 23 0,I 25 24,aX 25 (I 26 3),aX 25 (I 27 10),aX 25 (bo 28 1 26 27),aX 25 (ae 29 28),aX 25 (I 30 9),aX 25 (bL 31 30),aX 25 (bm .lss T.a 32 29 31),dq 33 25 32] (aE 33 (.dS (ak (I 34 9) (ak (I 35 3) (ak (I 36 10) (ak (bo 37 1 35 36) (ak (ae 38 37) (ak (I 39 1) (ak (I 40 3) (ak (I 41 10) (ak (bo 42 1 40 41) (ak (ae 43 42) (ak (bo 44 1 39 43) (ak (ae 45 44) (ak (bo 46 1 34 38) (.b0 (ys 46 45) .done .nil))))))))))))))) .skip))) (.bJ [I 18 10,az .add T.a 19 18 1,I 10 19])))))) (J [I 47 9,I 8 47] .ret))))⟩:=bG (by kernel_rfl)
theorem E.zo:bE F.zo ⟨81,[.tmp 8,.tmp 9], (J [aG 4 (.box T.c (ab 0)),ah 8 (.const aQ),ah 9 (ai 0)] (J [bn 17 5 4,aY 18 F.CK [17],I 16 18,bx 19 16 0,bx 20 16 1,aG 10 (.new T.rQ (.agg #[aQ,aQ,aQ,aQ,aQ,aQ,aQ,aQ,an,aQ,aQ,aQ,aQ])),cf 13 10 19,I 11 20] (.seq (.seq (.dS (ak (I 21 11) (ak (a7 22 (.un .not (ab 21))) (ak (I 23 22) (ak (ao 23 (bn 24 13 10)) (ak (ao 23 (I 25 1)) (.alt (ao 23 (aY 26 F.CL [24,25])) (ak (ao 23 (a7 27 (.un .not (ab 26)))) (ak (cb 28 23 27) (ak (I 29 28) (ak (ao 29 (I 30 2)) (ak (ao 29 (az .lss T.a 31 30 0)) (ak (cb 32 29 31) (ak (I 33 32) (ak (ao 33 (I 34 2)) (ak (ao 33 (af 35 12 10)) (ak (ao 33 (ae 36 35)) (ak (ao 33 (bL 37 36)) (ak (ao 33 (bm .geq T.a 38 34 37)) (ak (cb 39 33 38) (ak (I 40 39) (ak (ao 40 (I 41 3)) (ak (ao 40 (az .lss T.a 42 41 0)) (ak (cb 43 40 42) (ak (I 44 43) (ak (ao 44 (I 45 3)) (ak (ao 44 (bn 46 13 10)) (ak (ao 44 (I 47 2)) (ak (ao 44 (af 49 2 4)) (ak (ao 44 (ae 50 49)) (.alt (ao 44 (aY 48 F.xc [46,47])) (.b0 (ao 44 (aY 51 F.Cp [48,50])) (ak (ao 44 (bm .geq T.a 52 45 51)) (ak (cb 53 44 52) .done)) .nil) .nil)))))))))))))))))))))))) .nil))))))) (aE 53 (J [ah 8 (.const aQ),ah 9 (ai 2)] .ret) .skip)) (J [bn 55 13 10,I 56 1,I 57 2,aY 58 F.CN [55,56,57],I 54 58,bx 59 54 0,bx 60 54 1,I 12 59,I 13 60] (.seq (J [I 61 13,a7 62 (.un .not (ab 61))] (aE 62 (J [ah 8 (.const aQ),ah 9 (ai 15)] .ret) .skip)) (.seq (J [I 63 3,az .eql T.a 64 63 1] (aE 64 (J [bn 66 13 10,I 67 2,aY 68 F.xc [66,67],aY 69 F.zf [68],I 65 69,bx 70 65 0,bx 71 65 1,I 14 70,I 15 71] (.dS (ak (bn 72 13 10) (ak (I 73 12) (ak (I 74 15) (ak (bn 75 13 10) (ak (I 76 1) (ak (I 77 15) (.alt (aY 78 F.xd [75,76,77]) (.b0 (aY 79 F.xe [72,73,74,78]) (ak (I 12 79) .done) .nil) .nil))))))))) .skip)) (J [I 80 12,I 8 80,ah 9 (ai 0)] .ret)))))))⟩:=bG (by kernel_rfl)
theorem E.tj:bE F.tj ⟨43,[.tmp 2], (J [aG 1 (.box T.c (ab 0)),ah 2 (.const aQ)] (J [ah 3 (.const aQ)] (.seq (J [ah 4 (ai 0)] (.aW 0 (.loop (.seq (J [I 6 4,af 7 3 1,ae 8 7,bL 9 8,bm .lss T.a 10 6 9] (aE 10 .skip (.exit 0))) (.seq (.aW 1 (.seq (J [af 13 3 1,ae 14 13,I 15 4,bo 16 5 14 15,af 17 1 16,ae 18 17,az .eql T.a 19 18 0] (aE 19 (.bJ [I 20 3,I 21 4,a7 22 (.cF [an,an] [(0,1),(1,1)] [(0,(ab 21))]),aG 23 (.cV T.l 1 2 [an,an] [(0,(ab 22))]),aG 24 (.app T.nH T.l 2 16 (ab 20) (ab 23)),I 3 24]) .skip)) (J [ah 5 (ai 1)] (.aW 2 (.loop (.seq (.seq (.dR [I 25 5,bn 26 5 1,af 27 3 1,ae 28 27,I 29 4,bo 30 5 28 29,bn 31 5 30,aY 32 F.Cu [26,31],bm .leq T.a 33 25 32]) (aE 33 .skip (.exit 2))) (.seq (.aW 3 (.bJ [I 36 3,I 37 4,I 38 5,a7 39 (.cF [an,an] [(0,1),(1,1)] [(0,(ab 37)),(1,(ab 38))]),aG 40 (.cV T.l 1 2 [an,an] [(0,(ab 39))]),aG 41 (.app T.nH T.l 2 16 (ab 36) (ab 40)),I 3 41])) (.bJ [I 34 5,az .add T.a 35 34 1,I 5 35])))))))) (.bJ [I 11 4,az .add T.a 12 11 1,I 4 12])))))) (J [I 42 3,I 2 42] .ret))))⟩:=bG (by kernel_rfl)
theorem E.cs:bE F.cs ⟨79,[.tmp 2,.tmp 3,.tmp 4], (J [aG 1 (.box T.c (ab 0)),ah 2 (ai 0),ah 3 (ai 0),ah 4 (ai 0)] (J [ah 5 (ai 0),ah 6 (ai 0),ah 7 (ai 0)] (.seq (J [af 15 1 1,ae 16 15,bL 17 16,ah 18 (ai 0)] (.aW 0 (.loop (J [bm .lss T.a 19 18 17] (fy 19 0
 (.seq (.aW 1 (J [bo 20 6 16 18,bn 21 6 20,aG 9 (.new T.f (.agg #[cH,an,an,an,an,an])),cf 6 9 21] (.bJ [I 22 7,bn 23 6 9,af 24 0 1,ae 25 24,aY 26 F.r [23,25],bm .add T.a 27 22 26,I 7 27]))) (fM T.a 28 18))))))) (.seq (J [af 29 2 1,ae 30 29,bL 31 30,ah 32 (ai 0)] (.aW 2 (.loop (J [bm .lss T.a 33 32 31] (fy 33 2
 (.seq (.aW 3 (J [bo 34 6 30 32,bn 35 6 34,aG 11 (.new T.q (.agg #[cH,an,an,an,an,(.bool false)])),cf 6 11 35] (.bJ [I 36 7,af 37 2 11,ae 38 37,a7 39 (.rR (ab 38) (ai 0)),a7 40 (.tn (ab 39) (ai 4)),a7 41 (.bin .add T.a (ai 1) (ab 40)),bm .add T.a 42 36 41,I 7 42]))) (fM T.a 43 32))))))) (.seq (J [af 44 3 1,ae 45 44,bL 46 45,ah 47 (ai 0)] (.aW 4 (.loop (J [bm .lss T.a 48 47 46] (fy 48 4
 (.seq (.aW 5 (J [bo 49 5 45 47,bn 50 5 49,aG 13 (.new T.g (.agg #[cH,an,an,aQ,aQ])),cf 5 13 50] (J [af 51 1 13,ae 52 51,a7 53 (.cF [cH,an,an,an,an,an] [(0,1),(1,1),(2,1),(3,1),(4,1),(5,1)] [(2,(ab 52))]),af 54 0 1,ae 55 54,aY 56 F.r [53,55],I 14 56] (J [I 57 5,I 58 14,bm .add T.a 59 57 58,I 5 59] (J [I 60 6,I 61 14,af 62 4 13,ae 63 62,bL 64 63,bm .mul T.a 65 61 64,bm .add T.a 66 60 65,I 6 66] (.bJ [I 67 7,I 68 14,af 69 3 13,ae 70 69,bL 71 70,a7 72 (.bin .add T.a (ai 1) (ab 71)),bm .mul T.a 73 68 72,bm .add T.a 74 67 73,I 7 74])))))) (fM T.a 75 47))))))) (J [I 76 5,I 77 6,I 78 7,I 2 76,I 3 77,I 4 78] .ret))))))⟩:=bG (by kernel_rfl)
theorem E.Cw:bE F.Cw ⟨7,[.tmp 2], (J [aG 1 (.box T.c (ab 0)),ah 2 (bV false)] (J [bn 3 5 1,aY 4 F.w9 [3],a7 5 (.kx 0 (ab 4)),az .eql T.e 6 5 0,I 2 6] .ret))⟩:=bG (by kernel_rfl)
theorem E.zj:bE F.zj ⟨45,[.tmp 6], (J [aG 3 (.box T.c (ab 0)),aG 4 (.box T.i (ab 1)),ah 6 (bV false)] (.seq (J [I 9 2,bL 10 9,af 11 3 4,ae 12 11,bm .neq T.a 13 10 12] (aE 13 (J [ah 6 (bV false)] .ret) .skip)) (.seq (J [ah 7 (ai 0)] (.aW 0 (.loop (.seq (J [I 14 7,af 15 2 3,ae 16 15,bL 17 16,bm .lss T.a 18 14 17] (aE 18 .skip (.exit 0))) (.seq (.aW 1 (J [af 21 1 4,ae 22 21,I 23 7,bo 24 1 22 23,ae 25 24,I 8 25] (.seq (.dR [bn 26 5 3,I 27 2,I 28 8,I 29 8,af 30 2 3,ae 31 30,I 32 7,bo 33 6 31 32,af 34 2 33,ae 35 34,bm .add T.a 36 29 35,az .add T.a 37 36 1,a7 38 (.iW 1 (ab 27) (some (ab 28)) (some (ab 37)) none),I 39 7,aY 40 F.CF [26,38,39],a7 41 (.un .not (ab 40))]) (aE 41 (J [ah 6 (bV false)] .ret) .skip)))) (.bJ [I 19 7,az .add T.a 20 19 1,I 7 20])))))) (J [bn 42 6 4,I 43 2,aY 44 F.CG [42,43],I 6 44] .ret))))⟩:=bG (by kernel_rfl)
theorem E.CC:bE F.CC ⟨9,[.hN 6 2], (J [aG 1 (.box T.c (ab 0)),aG 2 (.new T.i (.agg #[aQ,aQ,aQ,an,aQ,aQ]))] (.seq (J [bn 3 5 1,aY 4 F.CD [3],a7 5 (.un .not (ab 4))] (aE 5 (J [a7 6 (.cF [aQ,aQ,aQ,an,aQ,aQ] [(0,1),(1,1),(2,1),(3,1),(4,1),(5,1)] []),cf 6 2 6] .ret) .skip)) (J [bn 7 5 1,aY 8 F.zi [7],cf 6 2 8] .ret)))⟩:=bG (by kernel_rfl)
theorem E.u5:bE F.u5 ⟨23,[.hN 5 0], (J [aG 0 (.new T.c (.agg #[aQ,aQ,aQ,aQ,aQ]))] (J [a7 3 (.cF [an,an] [(0,1),(1,1)] [(0,(ai 5))]),a7 4 (.cF [an,an] [(0,1),(1,1)] [(0,(ai 3))]),a7 5 (.cF [an,an] [(0,1),(1,1)] [(0,(ai 1)),(1,(ai 1))]),a7 6 (.cF [an,an] [(0,1),(1,1)] [(0,(ai 11))]),aG 7 (.cV T.k 4 2 [an,an,an,an,an,an,an,an] [(0,(ab 3)),(1,(ab 4)),(2,(ab 5)),(3,(ab 6))]),I 1 7] (J [a7 8 (.cF [an,an] [(0,1),(1,1)] [(0,(ai 5))]),aG 9 (.cV T.k 1 2 [an,an] [(0,(ab 8))]),I 10 1,a7 11 (.cF [an,an,an,aQ,aQ] [(0,1),(1,1),(2,1),(3,1),(4,1)] [(0,(ai 2)),(3,(ab 9)),(4,(ab 10))]),aG 2 (.new T.n (.agg #[an,an,an,aQ,aQ])),cf 5 2 11] (J [a7 12 (.cF [cH,an] [(0,1),(1,1)] [(0,(.const (.string ⟨#[83]⟩))),(1,(ai 2))]),aG 13 (.cV T.jt 1 2 [cH,an] [(0,(ab 12))]),a7 14 (.cF [cH,an,an,an,an,an] [(0,1),(1,1),(2,1),(3,1),(4,1),(5,1)] [(0,(.const (.string ⟨#[120]⟩))),(2,(ai 1)),(4,(ai 3))]),aG 15 (.cV T.f 1 6 [cH,an,an,an,an,an] [(0,(ab 14))]),bn 16 5 2,aG 17 (.cV T.n 1 5 [an,an,an,aQ,aQ] [(0,(ab 16))]),a7 18 (.cF [cH,an,an,aQ,aQ,(.bool false)] [(0,1),(1,1),(2,1),(3,1),(4,1),(5,1)] [(0,(.const (.string ⟨#[103,111]⟩))),(4,(ab 17))]),aG 19 (.cV T.m 1 6 [cH,an,an,aQ,aQ,(.bool false)] [(0,(ab 18))]),a7 20 (.cF [cH,an,an,aQ,aQ] [(0,1),(1,1),(2,1),(3,1),(4,1)] [(0,(.const (.string ⟨#[97]⟩))),(1,(ai 1)),(2,(ai 1)),(4,(ab 19))]),aG 21 (.cV T.g 1 5 [cH,an,an,aQ,aQ] [(0,(ab 20))]),a7 22 (.cF [aQ,aQ,aQ,aQ,aQ] [(0,1),(1,1),(2,1),(3,1),(4,1)] [(0,(ab 13)),(1,(ab 15)),(3,(ab 21))]),cf 5 0 22] .ret))))⟩:=bG (by kernel_rfl)
theorem E.fu:bE F.fu ⟨30,[.tmp 4], (J [aG 2 (.box T.c (ab 0)),ah 4 (.const aQ)] (J [bn 10 5 2,I 11 1,aY 12 F.a9 [10,11],I 9 12,bx 13 9 0,bx 14 9 1,bx 15 9 2,aG 6 (.new T.m (.agg #[cH,an,an,aQ,aQ,(.bool false)])),I 5 13,cf 6 6 14,I 7 15] (.seq (J [I 16 7,a7 17 (.un .not (ab 16))] (aE 17 (J [ah 4 (.const aQ)] .ret) .skip)) (J [aG 18 .pa,I 8 18] (J [I 19 8,I 20 5,aY 21 F.f [20],de 22 (.fn F.a [(ab 19),(ab 21),(ai 1)])] (J [I 23 5,I 24 8,af 25 3 6,ae 26 25,aY 27 F.p [23,24,26]] (J [I 28 8,aY 29 F.q [28],I 4 29] .ret)))))))⟩:=bG (by kernel_rfl)
theorem E.qh:bE F.qh ⟨44,[.tmp 4], (J [aG 2 (.box T.c (ab 0)),ah 4 (.const aQ)] (.seq (J [bn 7 5 2,aY 8 F.z [7],a7 9 (.kx 0 (ab 8)),az .neq T.e 10 9 0] (aE 10 (J [ah 4 (.const aQ)] .ret) .skip)) (J [bn 11 5 2,aY 12 F.oP [11],I 5 12] (.seq (J [I 13 1,az .lss T.a 14 13 0,I 15 14,ao 15 (I 16 1),ao 15 (I 17 5),ao 15 (bL 18 17),ao 15 (bm .geq T.a 19 16 18),cb 20 15 19] (aE 20 (J [ah 4 (.const aQ)] .ret) .skip)) (J [aG 21 .pa,I 6 21] (.seq (.dS (ak (I 22 6) (ak (bn 23 5 2) (ak (I 26 1) (ak (af 29 3 2) (ak (ae 30 29) (ak (I 31 5) (ak (I 32 1) (ak (bo 33 2 31 32) (ak (af 34 0 33) (ak (ae 35 34) (ak (bo 36 5 30 35) (ak (af 37 3 36) (ak (ae 38 37) (ak (bL 39 38) (ak (a7 40 (.bin .add T.a (ai 1) (ab 39))) (.alt (aY 24 F.fS [23]) (ak (a7 25 (.kx 2 (ab 24))) (ak (bo 27 1 25 26) (.alt (ae 28 27) (.b0 (aY 41 F.a [22,28,40]) .done .nil) .nil))) .nil))))))))))))))))) (J [I 42 6,aY 43 F.q [42],I 4 43] .ret)))))))⟩:=bG (by kernel_rfl)
theorem E.a9:bE F.a9 ⟨61,[.tmp 4,.hN 6 5,.tmp 6], (J [aG 2 (.box T.c (ab 0)),ah 4 (.const (.pointer none)),aG 5 (.new T.m (.agg #[cH,an,an,aQ,aQ,(.bool false)])),ah 6 (bV false)] (.seq (J [bn 9 5 2,aY 10 F.z [9],a7 11 (.kx 0 (ab 10)),az .neq T.e 12 11 0] (aE 12 (J [a7 13 (.cF [cH,an,an,aQ,aQ,(.bool false)] [(0,1),(1,1),(2,1),(3,1),(4,1),(5,1)] []),ah 4 (.const (.pointer none)),cf 6 5 13,ah 6 (bV false)] .ret) .skip)) (J [bn 14 5 2,aY 15 F.c2 [14],I 7 15] (.seq (J [I 16 1,az .lss T.a 17 16 0,I 18 17,ao 18 (I 19 1),ao 18 (I 20 7),ao 18 (bL 21 20),ao 18 (bm .geq T.a 22 19 21),cb 23 18 22] (aE 23 (J [a7 24 (.cF [cH,an,an,aQ,aQ,(.bool false)] [(0,1),(1,1),(2,1),(3,1),(4,1),(5,1)] []),ah 4 (.const (.pointer none)),cf 6 5 24,ah 6 (bV false)] .ret) .skip)) (.seq (.dS (ak (bn 25 5 2) (ak (bn 26 5 2) (ak (bn 28 5 2) (ak (I 30 7) (ak (I 31 1) (ak (bo 32 2 30 31) (ak (af 33 0 32) (ak (ae 34 33) (.alt (aY 27 F.fS [26]) (.alt (aY 29 F.oP [28]) (ak (a7 35 (.cF [aQ,aQ,aQ,aQ,aQ,aQ,aQ,aQ,an,aQ,aQ,aQ,an] [(0,5),(5,6),(11,1),(12,1)] [(0,(ab 25)),(1,(ab 27)),(2,(ab 29)),(3,(ab 34))])) (.b0 (aG 36 (.box T.x3 (ab 35))) (ak (I 8 36) .done) .nil)) .nil) .nil)))))))))) (.seq (.dS (ak (I 37 8) (ak (af 38 3 2) (ak (ae 39 38) (ak (I 40 8) (ak (gY 41 40) (ak (af 42 11 41) (ak (ae 43 42) (ak (I 44 8) (ak (gY 45 44) (ak (af 46 12 45) (ak (ae 47 46) (ak (bo 48 2 43 47) (ak (af 49 0 48) (ak (ae 50 49) (ak (bo 51 5 39 50) (ak (af 52 4 51) (ak (ae 53 52) (ak (I 54 7) (ak (I 55 1) (ak (bo 56 2 54 55) (ak (af 57 1 56) (ak (ae 58 57) (ak (bo 59 6 53 58) (ak (bn 60 6 59) (ak (I 4 37) (.b0 (cf 6 5 60) (ak (ah 6 (bV true)) .done) .nil))))))))))))))))))))))))))) .ret))))))⟩:=bG (by kernel_rfl)
theorem E.a:bE F.a ⟨18,[], (J [I 7 2,ah 8 (ai 0)] (.aW 0 (.loop (J [bm .lss T.a 9 8 7] (fy 9 0
 (.seq (.aW 1 (J [I 10 8,I 6 10] (.bJ [I 11 0,I 12 1,I 13 6,bm .add T.a 14 12 13,mQ 15 (.lD (.int .i64) an false (ab 11) (ab 14)),az .add T.a 16 15 1,iI (.ig (.int .i64) (ab 11) (ab 14) (ab 16))]))) (fM T.a 17 8)))))))⟩:=bG (by kernel_rfl)
theorem E.f:bE F.f ⟨14,[.tmp 2], (J [ah 2 (ai 0)] (.seq (.dR [I 3 0,gY 4 3,af 5 5 4,af 6 2 5,ae 7 6,I 8 0,gY 9 8,af 10 12 9,ae 11 10,bo 12 1 7 11,ae 13 12,I 2 13]) .ret))⟩:=bG (by kernel_rfl)
theorem E.p:bE F.p ⟨9,[], (J [aG 3 (.box T.re (ab 0)),aG 4 (.box T.t (ab 1))] (.bJ [I 6 2,a7 7 (.kc F.be [] [(ab 3),(ab 4)]),aY 8 F.pE [6,7]]))⟩:=bG (by kernel_rfl)
theorem E.yr:bE F.yr ⟨40,[], (J [aG 5 (.box T.n (ab 2))] (.seq (J [af 6 0 5,ae 7 6] (.aW 0 (J [az .eql T.a 9 7 2,I 8 9] (aE 8 (.bJ [I 10 0,I 11 1,af 12 3 5,ae 13 12,aY 14 F.p [10,11,13]]) (J [az .eql T.a 16 7 4,I 15 16] (aE 15 (.dS (ak (I 17 1) (ak (I 18 0) (ak (gY 19 18) (ak (af 20 5 19) (ak (af 21 1 20) (ak (ae 22 21) (ak (af 23 1 5) (ak (ae 24 23) (ak (bo 25 1 22 24) (ak (ae 26 25) (.b0 (de 27 (.fn F.a [(ab 17),(ab 26),(ai 1)])) .done .nil)))))))))))) (J [az .eql T.a 29 7 5,I 28 29] (aE 28 (J [I 30 0,I 31 1,af 32 1 5,ae 33 32,aY 34 F.oQ [30,31,33]] .ret) .skip)))))))) (.bJ [I 35 0,I 36 1,af 37 4 5,ae 38 37,aY 39 F.p [35,36,38]])))⟩:=bG (by kernel_rfl)
theorem E.cW:bE F.cW ⟨66,[], (J [aG 5 (.box T.n (ab 2))] (J [af 6 0 5,ae 7 6] (.aW 0 (J [az .eql T.a 9 7 1,I 8 9] (aE 8 (.bJ [I 10 0,I 11 1,af 12 1 5,ae 13 12,de 14 (.fn F.g [(ab 10),(ab 11),(ab 13),(bV false),(bV false)])]) (J [az .eql T.a 16 7 2,I 15 16] (aE 15 (.dS (ak (I 17 0) (ak (I 18 1) (ak (af 19 1 5) (ak (ae 20 19) (ak (af 21 3 5) (ak (ae 22 21) (ak (bL 23 22) (ak (az .eql T.a 24 23 1) (ak (I 25 24) (ak (aX 25 (af 26 3 5)) (ak (aX 25 (ae 27 26)) (ak (aX 25 (a7 28 (.hE 2 (ab 27) (ai 0)))) (ak (aX 25 (af 29 0 28)) (ak (aX 25 (ae 30 29)) (ak (aX 25 (az .eql T.a 31 30 5)) (ak (dq 32 25 31) (.b0 (de 33 (.fn F.g [(ab 17),(ab 18),(ab 20),(bV true),(ab 32)])) .done .nil)))))))))))))))))) (J [az .eql T.a 35 7 3,I 34 35] (aE 34 (.dS (ak (I 36 1) (ak (I 37 0) (ak (af 40 1 5) (ak (ae 41 40) (.alt (aY 38 F.f [37]) (ak (az .add T.a 39 38 1) (ak (bm .add T.a 42 39 41) (.b0 (de 43 (.fn F.a [(ab 36),(ab 42),(ai 1)])) .done .nil))) .nil)))))) (J [az .eql T.a 45 7 4,I 44 45] (aE 44 (.bJ [I 46 0,I 47 1,af 48 1 5,ae 49 48,aY 50 F.oQ [46,47,49]]) (J [az .eql T.a 52 7 5,I 51 52] (aE 51 (J [I 53 0,I 54 1,af 55 1 5,ae 56 55,aY 57 F.oQ [53,54,56]] (.dS (ak (I 58 1) (ak (I 59 0) (ak (af 62 2 5) (ak (ae 63 62) (.alt (aY 60 F.f [59]) (ak (az .add T.a 61 60 1) (ak (bm .add T.a 64 61 63) (.b0 (de 65 (.fn F.a [(ab 58),(ab 64),(ai 1)])) .done .nil))) .nil))))))) .skip)))))))))))))⟩:=bG (by kernel_rfl)
theorem E.q:bE F.q ⟨6,[.tmp 2], (J [ah 2 (.const aQ)] (J [I 3 0,aY 4 F.iB [3],aY 5 F.nd [4],I 2 5] .ret))⟩:=bG (by kernel_rfl)
theorem E.CK:bE F.CK ⟨13,[.hN 13 2,.tmp 3], (J [aG 1 (.box T.c (ab 0)),aG 2 (.new T.rQ (.agg #[aQ,aQ,aQ,aQ,aQ,aQ,aQ,aQ,an,aQ,aQ,aQ,aQ])),ah 3 (bV false)] (.seq (J [bn 4 5 1,aY 5 F.w9 [4],a7 6 (.kx 0 (ab 5)),az .neq T.e 7 6 0] (aE 7 (J [a7 8 (.cF [aQ,aQ,aQ,aQ,aQ,aQ,aQ,aQ,an,aQ,aQ,aQ,aQ] [(0,5),(5,6),(11,1),(12,1)] []),cf 13 2 8,ah 3 (bV false)] .ret) .skip)) (.seq (.dS (ak (bn 9 5 1) (ak (bn 10 5 1) (.alt (aY 11 F.zi [10]) (.b0 (aY 12 F.CJ [9,11]) (.b0 (cf 13 2 12) (ak (ah 3 (bV true)) .done) .nil) .nil) .nil)))) .ret)))⟩:=bG (by kernel_rfl)
theorem E.CL:bE F.CL ⟨11,[.tmp 4], (J [aG 2 (.box T.rQ (ab 0)),ah 4 (bV false)] (J [af 5 0 2,bn 6 5 5,af 7 5 2,bn 8 6 7,I 9 1,aY 10 F.zj [6,8,9],I 4 10] .ret))⟩:=bG (by kernel_rfl)
theorem E.Cp:bE F.Cp ⟨31,[.tmp 4], (J [aG 2 (.box T.m (ab 0)),ah 4 (ai 0)] (J [bn 8 6 2,aY 9 F.zf [8],I 7 9,bx 10 7 0,bx 11 7 1,I 5 10,I 6 11] (.seq (J [I 12 5,az .eql T.a 13 12 4,I 14 13,aX 14 (I 15 6),aX 14 (az .geq T.a 16 15 0),dq 17 14 16,I 18 17,aX 18 (I 19 6),aX 18 (I 20 1),aX 18 (bL 21 20),aX 18 (bm .lss T.a 22 19 21),dq 23 18 22,I 24 23,aX 24 (I 25 1),aX 24 (I 26 6),aX 24 (bo 27 6 25 26),aX 24 (af 28 5 27),aX 24 (ae 29 28),dq 30 24 29] (aE 30 (J [ah 4 (ai 2)] .ret) .skip)) (J [ah 4 (ai 1)] .ret))))⟩:=bG (by kernel_rfl)
theorem E.xc:bE F.xc ⟨28,[.hN 6 4], (J [aG 2 (.box T.rQ (ab 0)),aG 4 (.new T.m (.agg #[cH,an,an,aQ,aQ,(.bool false)]))] (J [af 6 12 2,ae 7 6,I 8 1,bo 9 2 7 8,bn 10 2 9,aG 5 (.new T.p (.agg #[an,an])),cf 2 5 10] (.seq (.dS (ak (af 11 0 2) (ak (af 12 3 11) (ak (ae 13 12) (ak (af 14 11 2) (ak (ae 15 14) (ak (af 16 0 5) (ak (ae 17 16) (ak (bo 18 2 15 17) (ak (af 19 0 18) (ak (ae 20 19) (ak (bo 21 5 13 20) (ak (af 22 4 21) (ak (ae 23 22) (ak (af 24 1 5) (ak (ae 25 24) (ak (bo 26 6 23 25) (ak (bn 27 6 26) (.b0 (cf 6 4 27) .done .nil))))))))))))))))))) .ret)))⟩:=bG (by kernel_rfl)
theorem E.CN:bE F.CN ⟨96,[.tmp 6,.tmp 7], (J [aG 3 (.box T.rQ (ab 0)),ah 6 (.const aQ),ah 7 (bV false)] (J [af 16 12 3,ae 17 16,I 18 2,bo 19 2 17 18,bn 20 2 19,aG 8 (.new T.p (.agg #[an,an])),cf 2 8 20] (J [bn 21 13 3,I 22 2,aY 23 F.xc [21,22],aG 9 (.new T.m (.agg #[cH,an,an,aQ,aQ,(.bool false)])),cf 6 9 23] (.seq (.seq (.dR [I 24 1,af 25 5 3,af 26 2 25,ae 27 26,af 28 0 8,ae 29 28,bo 30 1 27 29,ae 31 30,bo 32 1 24 31,ae 33 32,af 34 1 9,ae 35 34,bm .neq T.a 36 33 35]) (aE 36 (J [ah 6 (.const aQ),ah 7 (bV false)] .ret) .skip)) (.seq (J [af 37 3 9,ae 38 37,bL 39 38,az .gtr T.a 40 39 0] (aE 40 (.seq (.dS (ak (af 42 3 9) (ak (ae 43 42) (ak (af 44 0 3) (ak (bn 45 5 44) (ak (af 46 5 3) (ak (bn 47 6 46) (ak (I 48 1) (ak (af 49 0 8) (ak (ae 50 49) (.alt (aY 51 F.zk [45,47,48,50]) (.b0 (aY 52 F.w4 [43,51]) (ak (I 41 52) (ak (bx 53 41 0) (ak (bx 54 41 1) (ak (I 10 53) (ak (I 11 54) .done))))) .nil) .nil))))))))))) (J [I 55 11,az .neq T.e 56 55 0,I 57 56,ao 57 (I 58 10),ao 57 (az .eql T.a 59 58 0),cb 60 57 59] (aE 60 (J [ah 6 (.const aQ),ah 7 (bV false)] .ret) .skip))) .skip)) (J [I 61 1,I 12 61] (.seq (J [ah 13 (ai 0)] (.aW 0 (.loop (.seq (J [I 62 13,af 63 4 9,ae 64 63,bL 65 64,bm .lss T.a 66 62 65] (aE 66 .skip (.exit 0))) (.seq (.aW 1 (.seq (.dS (ak (bn 70 13 3) (ak (I 71 12) (ak (af 72 0 8) (ak (ae 73 72) (ak (af 74 4 9) (ak (ae 75 74) (ak (I 76 13) (ak (bo 77 5 75 76) (ak (bn 78 5 77) (.b0 (aY 79 F.CM [70,71,73,78]) (ak (I 69 79) (ak (bx 80 69 0) (ak (bx 81 69 1) (ak (I 14 80) (ak (I 15 81) .done))))) .nil))))))))))) (.seq (J [I 82 15,a7 83 (.un .not (ab 82))] (aE 83 (J [ah 6 (.const aQ),ah 7 (bV false)] .ret) .skip)) (.bJ [I 84 14,I 12 84])))) (.bJ [I 67 13,az .add T.a 68 67 1,I 13 68])))))) (.seq (.dS (ak (I 85 12) (ak (af 86 5 3) (ak (af 87 2 86) (ak (ae 88 87) (ak (af 89 0 8) (ak (ae 90 89) (ak (bo 91 1 88 90) (ak (ae 92 91) (ak (af 93 2 9) (ak (ae 94 93) (.b0 (aY 95 F.zp [85,92,94]) (ak (I 6 95) (ak (ah 7 (bV true)) .done)) .nil)))))))))))) .ret))))))))⟩:=bG (by kernel_rfl)
theorem E.zf:bE F.zf ⟨40,[.tmp 2,.tmp 3], (J [aG 1 (.box T.m (ab 0)),ah 2 (ai 0),ah 3 (ai 0)] (.seq (J [ah 4 (ai 0)] (.aW 0 (.loop (.seq (J [I 5 4,af 6 4 1,ae 7 6,bL 8 7,bm .lss T.a 9 5 8] (aE 9 .skip (.exit 0))) (.seq (.aW 1 (J [af 12 4 1,ae 13 12,I 14 4,bo 15 5 13 14,af 16 0 15,ae 17 16,az .eql T.a 18 17 4,I 19 18,ao 19 (af 20 4 1),ao 19 (ae 21 20),ao 19 (I 22 4),ao 19 (bo 23 5 21 22),ao 19 (af 24 0 23),ao 19 (ae 25 24),ao 19 (az .eql T.a 26 25 5),cb 27 19 26] (aE 27 (.seq (.dR [af 28 4 1,ae 29 28,I 30 4,bo 31 5 29 30,af 32 0 31,ae 33 32,af 34 4 1,ae 35 34,I 36 4,bo 37 5 35 36,af 38 1 37,ae 39 38,I 2 33,I 3 39]) .ret) .skip))) (.bJ [I 10 4,az .add T.a 11 10 1,I 4 11])))))) (J [ah 2 (ai 0),ah 3 (ai 0)] .ret)))⟩:=bG (by kernel_rfl)
theorem E.xe:bE F.xe ⟨30,[.tmp 8], (J [aG 4 (.box T.rQ (ab 0)),ah 8 (.const aQ)] (J [af 10 5 4,af 11 1 10,ae 12 11,I 13 2,bo 14 1 12 13,ae 15 14,I 9 15] (.seq (.dS (ak (I 17 1) (ak (I 18 9) (ak (a7 19 (.iW 1 (ab 17) none (some (ab 18)) none)) (ak (I 21 3) (ak (I 23 1) (ak (I 24 9) (ak (I 25 3) (ak (bL 26 25) (ak (bm .add T.a 27 24 26) (ak (a7 28 (.iW 1 (ab 23) (some (ab 27)) none none)) (.b0 (aG 16 (.cV T.a 0 1 [] [])) (.b0 (aG 20 (.app T.b T.a 1 8 (ab 16) (ab 19))) (.b0 (aG 22 (.app T.b T.a 1 8 (ab 20) (ab 21))) (.b0 (aG 29 (.app T.b T.a 1 8 (ab 22) (ab 28))) (ak (I 8 29) .done) .nil) .nil) .nil) .nil)))))))))))) .ret)))⟩:=bG (by kernel_rfl)
theorem E.xd:bE F.xd ⟨27,[.tmp 6], (J [aG 3 (.box T.rQ (ab 0)),ah 6 (.const aQ)] (J [af 8 5 3,af 9 1 8,ae 10 9,I 11 2,bo 12 1 10 11,ae 13 12,I 7 13] (J [I 14 1,I 15 7,I 16 7,az .add T.a 17 16 1,af 18 0 3,af 19 2 18,ae 20 19,I 21 2,bo 22 6 20 21,af 23 2 22,ae 24 23,bm .add T.a 25 17 24,a7 26 (.iW 1 (ab 14) (some (ab 15)) (some (ab 25)) none),I 6 26] .ret)))⟩:=bG (by kernel_rfl)
theorem E.fS:bE F.fS ⟨15,[.hN 6 2], (J [aG 1 (.box T.c (ab 0)),aG 2 (.new T.i (.agg #[aQ,aQ,aQ,an,aQ,aQ]))] (.seq (J [bn 5 5 1,aY 6 F.AJ [5],a7 7 (.un .not (ab 6))] (aE 7 (J [a7 8 (.cF [aQ,aQ,aQ,an,aQ,aQ] [(0,1),(1,1),(2,1),(3,1),(4,1),(5,1)] []),cf 6 2 8] .ret) .skip)) (J [bn 10 5 1,aY 11 F.AK [10],I 9 11,bx 12 9 0,bx 13 9 1,aG 3 (.new T.i (.agg #[aQ,aQ,aQ,an,aQ,aQ])),cf 6 3 12,I 4 13] (J [bn 14 6 3,cf 6 2 14] .ret))))⟩:=bG (by kernel_rfl)
theorem E.oP:bE F.oP ⟨6,[.tmp 2], (J [aG 1 (.box T.c (ab 0)),ah 2 (.const aQ)] (J [bn 3 5 1,aY 4 F.x6 [3],aY 5 F.AL [4],I 2 5] .ret))⟩:=bG (by kernel_rfl)
theorem E.Cu:bE F.Cu ⟨32,[.tmp 4], (J [aG 2 (.box T.c (ab 0)),aG 3 (.box T.g (ab 1)),ah 4 (ai 0)] (.seq (J [af 6 1 3,ae 7 6,az .lss T.a 8 7 1,I 9 8,ao 9 (af 10 1 3),ao 9 (ae 11 10),ao 9 (af 12 0 2),ao 9 (ae 13 12),ao 9 (bL 14 13),ao 9 (bm .gtr T.a 15 11 14),cb 16 9 15] (aE 16 (J [ah 4 (ai 0)] .ret) .skip)) (J [af 17 0 2,ae 18 17,af 19 1 3,ae 20 19,az .sub T.a 21 20 1,bo 22 2 18 21,af 23 1 22,ae 24 23,I 5 24] (.seq (J [I 25 5,az .lss T.a 26 25 1,I 27 26,ao 27 (I 28 5),ao 27 (az .gtr T.a 29 28 4),cb 30 27 29] (aE 30 (J [ah 4 (ai 0)] .ret) .skip)) (J [I 31 5,I 4 31] .ret)))))⟩:=bG (by kernel_rfl)
theorem E.r:bE F.r ⟨18,[.tmp 4], (J [aG 2 (.box T.f (ab 0)),ah 4 (ai 0)] (.seq (J [af 7 2 2,ae 8 7,az .eql T.a 9 8 0] (aE 9 (J [ah 4 (ai 1)] .ret) .skip)) (J [af 11 2 2,ae 12 11,I 13 1,aY 14 F.nH [12,13],I 10 14,bx 15 10 0,bx 16 10 1,I 5 15,I 6 16] (J [I 17 5,I 4 17] .ret))))⟩:=bG (by kernel_rfl)
def C.bT:lR:=⟨88,[], (J [aG 2 (.box T.c (ab 0))] (J [af 13 0 2,ae 14 13,aY 15 F.AM [14],I 12 15,bx 16 12 0,bx 17 12 1,I 4 16,I 5 17] (.seq (.eQ [I 18 5,I 19 4] (some 20) F.b [(ab 18),(ai 1),(ab 19),(ai 0)]) (.seq (J [af 21 0 2,ae 22 21,bL 23 22,ah 24 (ai 0)] (.aW 0 (.loop (J [bm .lss T.a 25 24 23] (fy 25 0
 (.seq (.aW 1 (J [bo 26 2 22 24,bn 27 2 26,aG 7 (.new T.jt (.agg #[cH,an])),cf 2 7 27] (.bJ [I 28 1,af 29 0 7,ae 30 29,iI (.ig .string (ab 28) (ab 30) (bV true))]))) (fM T.a 31 24))))))) (J [af 33 1 2,ae 34 33,af 35 0 2,ae 36 35,de 37 (.fn F.bi [(ab 34),(ab 36),(ai 12)]),I 32 37,bx 38 32 0,bx 39 32 1,I 4 38,I 5 39] (.seq (J [af 40 1 2,ae 41 40,bL 42 41,ah 43 (ai 0)] (.aW 2 (.loop (J [bm .lss T.a 44 43 42] (fy 44 2
 (.seq (.aW 3 (J [I 45 43,bo 46 6 41 43,bn 47 6 46,aG 9 (.new T.f (.agg #[cH,an,an,an,an,an])),I 8 45,cf 6 9 47] (.seq (J [I 48 8,I 49 4,bm .eql T.a 50 48 49] (aE 50 (.eQ [I 51 5,I 52 8] (some 53) F.b [(ab 51),(ai 2),(ab 52),(ai 0)]) .skip)) (.eQ [I 54 1,af 55 0 9,ae 56 55,I 57 8] (some 58) F.s [(ab 54),(ab 56),(ai 2),(ab 57)])))) (fM T.a 59 43))))))) (J [af 61 2 2,ae 62 61,af 63 0 2,ae 64 63,aY 65 F.AN [62,64],I 60 65,bx 66 60 0,bx 67 60 1,I 4 66,I 5 67] (J [af 68 2 2,ae 69 68,bL 70 69,ah 71 (ai 0)] (.aW 4 (.loop (J [bm .lss T.a 72 71 70] (fy 72 4
 (.seq (.aW 5 (J [I 73 71,bo 74 6 69 71,bn 75 6 74,aG 11 (.new T.q (.agg #[cH,an,an,an,an,(.bool false)])),I 10 73,cf 6 11 75] (.seq (J [I 76 10,I 77 4,bm .eql T.a 78 76 77] (aE 78 (.eQ [I 79 5,I 80 10] (some 81) F.b [(ab 79),(ai 3),(ab 80),(ai 0)]) .skip)) (.eQ [I 82 1,af 83 0 11,ae 84 83,I 85 10] (some 86) F.s [(ab 82),(ab 84),(ai 3),(ab 85)])))) (fM T.a 87 71))))))))))))))⟩
theorem E.bT:kv Tryz.prog F.bT=some C.bT:=by kernel_rfl
def C.nI:lR:=⟨105,[], (J [aG 2 (.box T.c (ab 0))] (J [aG 18 .pa,I 4 18] (.seq (J [I 19 1,aG 20 (.raw (.range T.dy (ab 19)) T.qk)] (.aW 0 (.loop (J [aG 21 (.raw (.next (ab 20) false) T.qk),bx 22 21 0] (fy 22 0
 (.aW 1 (J [aG 23 (.raw (.entry (ab 20)) T.qk),bx 24 23 0,I 5 24] (.bJ [I 25 4,I 26 5,iI (.ig .string (ab 25) (ab 26) (bV true))])))))))) (.seq (J [af 27 3 2,ae 28 27,bL 29 28,ah 30 (ai 0)] (.aW 2 (.loop (J [bm .lss T.a 31 30 29] (fy 31 2
 (.seq (.aW 3 (J [bo 32 5 28 30,bn 33 5 32,aG 7 (.new T.g (.agg #[cH,an,an,aQ,aQ])),cf 5 7 33] (.bJ [I 34 4,af 35 0 7,ae 36 35,iI (.ig .string (ab 34) (ab 36) (bV true))]))) (fM T.a 37 30))))))) (.seq (J [af 38 3 2,ae 39 38,bL 40 39,ah 41 (ai 0)] (.aW 4 (.loop (J [bm .lss T.a 42 41 40] (fy 42 4
 (.seq (.aW 5 (J [I 43 41,bo 44 5 39 41,bn 45 5 44,aG 9 (.new T.g (.agg #[cH,an,an,aQ,aQ])),I 8 43,cf 5 9 45] (.seq (J [I 46 8,az .geq T.a 47 46 6] (aE 47 (.eQ [I 48 8] (some 49) F.b [(ai 11),(ai 4),(ab 48),(ai 0)]) .skip)) (.seq (.dS (ak (bn 51 5 9) (ak (bn 52 5 2) (ak (I 53 8) (.alt (aY 54 F.x7 [52,53]) (.b0 (aY 55 F.AO [51,54]) (ak (I 50 55) (ak (bx 56 50 0) (ak (bx 57 50 1) (ak (bx 58 50 2) (ak (I 10 56) (ak (I 11 57) (ak (I 12 58) .done))))))) .nil) .nil))))) (.seq (.eQ [I 59 12,I 60 8,I 61 10,a7 62 (.bin .mul T.a (ai 16) (ab 61)),I 63 11,bm .add T.a 64 62 63] (some 65) F.b [(ab 59),(ai 4),(ab 60),(ab 64)]) (.seq (.eQ [I 66 1,af 67 0 9,ae 68 67,I 69 8] (some 70) F.s [(ab 66),(ab 68),(ai 4),(ab 69)]) (J [af 71 3 9,ae 72 71,bL 73 72,ah 74 (ai 0)] (.aW 6 (.loop (J [bm .lss T.a 75 74 73] (fy 75 6
 (.seq (.aW 7 (J [I 76 74,bo 77 6 72 74,bn 78 6 77,aG 14 (.new T.f (.agg #[cH,an,an,an,an,an])),I 13 76,cf 6 14 78] (J [I 79 4,af 80 0 14,ae 81 80,mQ 82 (.lD .string (.bool false) false (ab 79) (ab 81))] (aE 82 (.eQ [I 83 8,I 84 13,a7 85 (.bin .add T.a (ai 16) (ab 84))] (some 86) F.b [(ai 7),(ai 4),(ab 83),(ab 85)]) .skip)))) (fM T.a 87 74))))))))))))) (fM T.a 88 41))))))) (J [bn 90 5 2,aY 91 F.cs [90],I 89 91,bx 92 89 0,bx 93 89 1,bx 94 89 2,I 15 92,I 16 93,I 17 94] (J [I 95 15,az .gtr T.a 96 95 12,I 97 96,ao 97 (I 98 17),ao 97 (az .gtr T.a 99 98 64),cb 100 97 99] (aE 100 (.eQ [af 101 3 2,ae 102 101,bL 103 102] (some 104) F.b [(ai 11),(ai 4),(ab 103),(ai 0)]) .skip))))))))⟩
theorem E.nI:kv Tryz.prog F.nI=some C.nI:=by kernel_rfl
def C.pB:lR:=⟨51,[], (J [aG 2 (.box T.c (ab 0))] (J [bn 9 5 2,de 10 (.fn F.x7 [(ab 9),(ai (-1))]),aG 4 (.new T.d (.agg #[aQ,aQ,aQ,aQ,aQ,an])),cf 6 4 10] (J [af 11 4 2,ae 12 11,bL 13 12,ah 14 (ai 0)] (.aW 0 (.loop (J [bm .lss T.a 15 14 13] (fy 15 0
 (.seq (.aW 1 (J [I 16 14,bo 17 2 12 14,bn 18 2 17,aG 6 (.new T.Eh (.agg #[cH,aQ])),I 5 16,cf 2 6 18] (.seq (.aW 2 (J [I 20 5,az .geq T.a 21 20 8,I 19 21] (aE 19 (.eQ [I 22 5] (some 23) F.b [(ai 11),(ai 5),(ab 22),(ai 0)]) (J [af 25 0 6,ae 26 25,aY 27 F.t [26],a7 28 (.un .not (ab 27)),I 24 28] (aE 24 (.eQ [I 29 5] (some 30) F.b [(ai 6),(ai 5),(ab 29),(ai 0)]) .skip))))) (.seq (.eQ [I 31 1,af 32 0 6,ae 33 32,I 34 5] (some 35) F.s [(ab 31),(ab 33),(ai 5),(ab 34)]) (J [af 37 1 6,ae 38 37,bn 39 6 4,aY 40 F.x8 [38,39],I 36 40,bx 41 36 0,bx 42 36 1,I 7 41,I 8 42] (.seq (.eQ [I 43 8,I 44 5] (some 45) F.b [(ab 43),(ai 5),(ab 44),(ai 0)]) (J [I 46 7,az .neq T.a 47 46 1] (aE 47 (.eQ [I 48 5] (some 49) F.b [(ai 9),(ai 5),(ab 48),(ai 0)]) .skip)))))))) (fM T.a 50 14)))))))))⟩
theorem E.pB:kv Tryz.prog F.pB=some C.pB:=by kernel_rfl
theorem E.w9:bE F.w9 ⟨63,[.hN 4 2], (J [aG 1 (.box T.c (ab 0)),aG 2 (.new T.s (.agg #[an,an,an,an]))] (J [bn 10 5 1,aY 11 F.Cy [10],aG 3 (.new T.s (.agg #[an,an,an,an])),cf 4 3 11] (.seq (J [ah 4 (ai 0)] (.aW 0 (.loop (.seq (J [I 12 4,af 13 3 1,ae 14 13,bL 15 14,bm .lss T.a 16 12 15,I 17 16,aX 17 (af 18 0 3),aX 17 (ae 19 18),aX 17 (az .eql T.e 20 19 0),dq 21 17 20] (aE 21 .skip (.exit 0))) (.seq (.aW 1 (.bJ [bn 24 5 1,I 25 4,aY 26 F.Cz [24,25],cf 4 3 26])) (.bJ [I 22 4,az .add T.a 23 22 1,I 4 23])))))) (.seq (J [af 27 0 3,ae 28 27,az .neq T.e 29 28 0] (aE 29 (J [bn 30 4 3,cf 4 2 30] .ret) .skip)) (J [bn 32 5 1,aY 33 F.Cx [32],I 31 33,bx 34 31 0,bx 35 31 1,bx 36 31 2,I 5 34,I 6 35,I 7 36] (.seq (J [I 37 5,az .gtr T.a 38 37 12,I 39 38,ao 39 (I 40 7),ao 39 (az .gtr T.a 41 40 64),cb 42 39 41] (aE 42 (J [af 43 3 1,ae 44 43,bL 45 44,a7 46 (.cF [an,an,an,an] [(0,1),(1,1),(2,1),(3,1)] [(0,(ai 11)),(1,(ai 4)),(2,(ab 45))]),cf 4 2 46] .ret) .skip)) (.seq (J [ah 8 (ai 0)] (.aW 2 (.loop (.seq (J [I 47 8,af 48 4 1,ae 49 48,bL 50 49,bm .lss T.a 51 47 50] (aE 51 .skip (.exit 2))) (.seq (.aW 3 (J [bn 54 5 1,I 55 8,aY 56 F.CA [54,55],I 9 56] (J [I 57 9,az .neq T.e 58 57 0] (aE 58 (J [I 59 9,I 60 8,a7 61 (.cF [an,an,an,an] [(0,1),(1,1),(2,1),(3,1)] [(0,(ab 59)),(1,(ai 5)),(2,(ab 60))]),cf 4 2 61] .ret) .skip)))) (.bJ [I 52 8,az .add T.a 53 52 1,I 8 53])))))) (J [a7 62 (.cF [an,an,an,an] [(0,1),(1,1),(2,1),(3,1)] []),cf 4 2 62] .ret))))))))⟩:=bG (by kernel_rfl)
theorem E.CF:bE F.CF ⟨82,[.tmp 6], (J [aG 3 (.box T.c (ab 0)),ah 6 (bV false)] (J [af 11 2 3,ae 12 11,I 13 2,bo 14 6 12 13,bn 15 6 14,aG 7 (.new T.q (.agg #[cH,an,an,an,an,(.bool false)])),cf 6 7 15] (.seq (.seq (.dR [I 16 1,a7 17 (.hE 1 (ab 16) (ai 0)),ae 18 17,az .lss T.a 19 18 0,I 20 19,ao 20 (I 21 1),ao 20 (a7 22 (.hE 1 (ab 21) (ai 0))),ao 20 (ae 23 22),ao 20 (af 24 2 7),ao 20 (ae 25 24),ao 20 (bm .gtr T.a 26 23 25),cb 27 20 26]) (aE 27 (J [ah 6 (bV false)] .ret) .skip)) (J [af 29 1 7,ae 30 29,af 31 3 7,ae 32 31,af 33 4 7,ae 34 33,a7 35 (.cF [cH,an,an,an,an,an] [(0,1),(1,1),(2,1),(3,1),(4,1),(5,1)] [(1,(ab 30)),(3,(ab 32)),(4,(ab 34))]),af 36 0 3,ae 37 36,aY 38 F.w6 [35,37],I 28 38,bx 39 28 0,bx 40 28 1,I 8 39,I 9 40] (.seq (J [ah 10 (ai 1)] (.aW 0 (.loop (.seq (J [I 41 10,af 42 2 7,ae 43 42,bm .leq T.a 44 41 43] (aE 44 .skip (.exit 0))) (.seq (.aW 1 (J [I 47 10,I 48 1,a7 49 (.hE 1 (ab 48) (ai 0)),ae 50 49,bm .leq T.a 51 47 50,I 52 51,aX 52 (I 53 1),aX 52 (I 54 10),aX 52 (bo 55 1 53 54),aX 52 (ae 56 55),aX 52 (I 57 8),aX 52 (bm .lss T.a 58 56 57),aX 52 (I 59 58),ao 59 (I 60 1),ao 59 (I 61 10),ao 59 (bo 62 1 60 61),ao 59 (ae 63 62),ao 59 (I 64 9),ao 59 (bm .gtr T.a 65 63 64),aX 52 (cb 66 59 65),dq 67 52 66,I 68 67,ao 68 (I 69 10),ao 68 (I 70 1),ao 68 (a7 71 (.hE 1 (ab 70) (ai 0))),ao 68 (ae 72 71),ao 68 (bm .gtr T.a 73 69 72),ao 68 (I 74 73),aX 74 (I 75 1),aX 74 (I 76 10),aX 74 (bo 77 1 75 76),aX 74 (ae 78 77),aX 74 (az .neq T.a 79 78 0),ao 68 (dq 80 74 79),cb 81 68 80] (aE 81 (J [ah 6 (bV false)] .ret) .skip))) (.bJ [I 45 10,az .add T.a 46 45 1,I 10 46])))))) (J [ah 6 (bV true)] .ret))))))⟩:=bG (by kernel_rfl)
theorem E.CG:bE F.CG ⟨34,[.tmp 4], (J [aG 2 (.box T.i (ab 0)),ah 4 (bV false)] (.seq (J [ah 5 (ai 0)] (.aW 0 (.loop (.seq (J [I 6 5,af 7 3 2,ae 8 7,bm .lss T.a 9 6 8] (aE 9 .skip (.exit 0))) (.seq (.aW 1 (.seq (.dR [I 12 1,I 13 5,bo 14 1 12 13,ae 15 14,af 16 4 2,ae 17 16,I 18 5,bo 19 1 17 18,ae 20 19,bm .lss T.a 21 15 20,I 22 21,ao 22 (I 23 1),ao 22 (I 24 5),ao 22 (bo 25 1 23 24),ao 22 (ae 26 25),ao 22 (af 27 5 2),ao 22 (ae 28 27),ao 22 (I 29 5),ao 22 (bo 30 1 28 29),ao 22 (ae 31 30),ao 22 (bm .gtr T.a 32 26 31),cb 33 22 32]) (aE 33 (J [ah 4 (bV false)] .ret) .skip))) (.bJ [I 10 5,az .add T.a 11 10 1,I 5 11])))))) (J [ah 4 (bV true)] .ret)))⟩:=bG (by kernel_rfl)
theorem E.CD:bE F.CD ⟨7,[.tmp 2], (J [aG 1 (.box T.c (ab 0)),ah 2 (bV false)] (J [bn 3 5 1,aY 4 F.w9 [3],a7 5 (.kx 0 (ab 4)),az .eql T.e 6 5 0,I 2 6] .ret))⟩:=bG (by kernel_rfl)
theorem E.zi:bE F.zi ⟨99,[.hN 6 2], (J [aG 1 (.box T.c (ab 0)),aG 2 (.new T.i (.agg #[aQ,aQ,aQ,an,aQ,aQ]))] (J [a7 6 (.cF [aQ,aQ,aQ,an,aQ,aQ] [(0,1),(1,1),(2,1),(3,1),(4,1),(5,1)] []),aG 3 (.new T.i (.agg #[aQ,aQ,aQ,an,aQ,aQ])),cf 6 3 6] (J [bn 7 5 1,aY 8 F.CB [7],I 4 8] (.seq (J [ah 5 (ai 0)] (.aW 0 (.loop (.seq (J [I 9 5,I 10 4,bL 11 10,bm .lss T.a 12 9 11] (aE 12 .skip (.exit 0))) (.seq (.aW 1 (.seq (J [I 15 4,I 16 5,bo 17 6 15 16,af 18 2 17,ae 19 18,az .eql T.a 20 19 0,I 21 20,aX 21 (I 22 4),aX 21 (I 23 5),aX 21 (bo 24 6 22 23),aX 21 (af 25 0 24),aX 21 (ae 26 25),aX 21 (az .eql T.a 27 26 1),dq 28 21 27] (aE 28 (.bJ [af 29 0 3,ae 30 29,I 31 5,aG 32 (.cV T.a 1 1 [an] [(0,(ab 31))]),aG 33 (.app T.b T.a 1 8 (ab 30) (ab 32)),af 34 0 3,ys 34 33]) .skip)) (.seq (J [I 35 4,I 36 5,bo 37 6 35 36,af 38 2 37,ae 39 38,az .eql T.a 40 39 0,I 41 40,aX 41 (I 42 4),aX 41 (I 43 5),aX 41 (bo 44 6 42 43),aX 41 (af 45 0 44),aX 41 (ae 46 45),aX 41 (az .eql T.a 47 46 2),dq 48 41 47] (aE 48 (.bJ [af 49 1 3,ae 50 49,I 51 5,aG 52 (.cV T.a 1 1 [an] [(0,(ab 51))]),aG 53 (.app T.b T.a 1 8 (ab 50) (ab 52)),af 54 1 3,ys 54 53]) .skip)) (.seq (J [I 55 4,I 56 5,bo 57 6 55 56,af 58 2 57,ae 59 58,az .eql T.a 60 59 0,I 61 60,aX 61 (I 62 4),aX 61 (I 63 5),aX 61 (bo 64 6 62 63),aX 61 (af 65 0 64),aX 61 (ae 66 65),aX 61 (az .eql T.a 67 66 3),dq 68 61 67] (aE 68 (.bJ [af 69 2 3,ae 70 69,I 71 5,aG 72 (.cV T.a 1 1 [an] [(0,(ab 71))]),aG 73 (.app T.b T.a 1 8 (ab 70) (ab 72)),af 74 2 3,ys 74 73]) .skip)) (.seq (.dS (ak (af 75 4 3) (ak (ae 76 75) (ak (I 77 4) (ak (I 78 5) (ak (bo 79 6 77 78) (ak (af 80 3 79) (ak (ae 81 80) (.alt (aG 82 (.cV T.a 1 1 [an] [(0,(ab 81))])) (.b0 (aG 83 (.app T.b T.a 1 8 (ab 76) (ab 82))) (ak (af 84 4 3) (.b0 (ys 84 83) .done .nil)) .nil) .nil))))))))) (.dS (ak (af 85 5 3) (ak (ae 86 85) (ak (I 87 4) (ak (I 88 5) (ak (bo 89 6 87 88) (ak (af 90 4 89) (ak (ae 91 90) (.alt (aG 92 (.cV T.a 1 1 [an] [(0,(ab 91))])) (.b0 (aG 93 (.app T.b T.a 1 8 (ab 86) (ab 92))) (ak (af 94 5 3) (.b0 (ys 94 93) .done .nil)) .nil) .nil)))))))))))))) (.bJ [I 13 5,az .add T.a 14 13 1,I 5 14])))))) (J [I 95 4,bL 96 95,af 97 3 3,ys 97 96] (J [bn 98 6 3,cf 6 2 98] .ret))))))⟩:=bG (by kernel_rfl)
theorem E.pE:bE F.pE ⟨21,[], (J [ah 4 (bV false)] (J [I 7 0,bL 8 7,ah 9 (ai 0)] (.aW 0 (.loop (J [bm .lss T.a 10 9 8] (fy 10 0
 (.seq (.aW 1 (J [bo 11 2 7 9,bn 12 2 11,aG 6 (.new T.k (.agg #[an,an])),cf 2 6 12] (J [I 13 1,bn 14 2 6,I 15 4,de 16 (.val (ab 13) [(ab 14),(ab 15)])] (.bJ [af 17 0 6,ae 18 17,az .eql T.a 19 18 5,I 4 19])))) (fM T.a 20 9))))))))⟩:=bG (by kernel_rfl)
theorem E.be:bE F.be ⟨77,[], (J [aG 4 (.box T.k (ab 0))] (J [af 8 0 4,ae 9 8] (.aW 0 (J [az .eql T.a 11 9 2,I 10 11] (aE 10 (.bJ [ae 12 2,ae 13 3,af 14 1 4,ae 15 14,de 16 (.fn F.g [(ab 12),(ab 13),(ab 15),(bV false),(bV false)])]) (J [az .eql T.a 18 9 3,I 17 18] (aE 17 (.bJ [ae 19 2,ae 20 3,af 21 1 4,ae 22 21,I 23 1,de 24 (.fn F.g [(ab 19),(ab 20),(ab 22),(bV true),(ab 23)])]) (J [az .eql T.a 26 9 4,I 25 26] (aE 25 (.dS (ak (ae 27 3) (ak (ae 28 2) (ak (af 31 1 4) (ak (ae 32 31) (.alt (aY 29 F.f [28]) (ak (az .add T.a 30 29 1) (ak (bm .add T.a 33 30 32) (.b0 (de 34 (.fn F.a [(ab 27),(ab 33),(ai 1)])) .done .nil))) .nil)))))) (J [az .eql T.a 36 9 6,I 35 36] (aE 35 (.dS (ak (ae 37 3) (ak (ae 38 2) (ak (gY 39 38) (ak (af 40 5 39) (ak (af 41 1 40) (ak (ae 42 41) (ak (af 43 1 4) (ak (ae 44 43) (ak (bo 45 1 42 44) (ak (ae 46 45) (.b0 (de 47 (.fn F.a [(ab 37),(ab 46),(ai 1)])) .done .nil)))))))))))) (J [az .eql T.a 49 9 7,I 48 49] (aE 48 (J [ae 50 2,gY 51 50,af 52 11 51,ae 53 52,bL 54 53,ah 55 (ai 0)] (.aW 1 (.loop (J [bm .lss T.a 56 55 54] (fy 56 1
 (.seq (.aW 2 (J [I 57 55,bo 58 2 53 55,bn 59 2 58,aG 7 (.new T.l (.agg #[an,an])),I 6 57,cf 2 7 59] (J [af 60 0 7,ae 61 60,af 62 1 4,ae 63 62,az .quo T.a 64 63 16,bm .eql T.a 65 61 64] (aE 65 (.dS (ak (ae 66 3) (ak (ae 67 2) (ak (gY 68 67) (ak (af 69 5 68) (ak (af 70 2 69) (ak (ae 71 70) (ak (I 72 6) (ak (bo 73 1 71 72) (ak (ae 74 73) (.b0 (de 75 (.fn F.a [(ab 66),(ab 74),(ai 1)])) .done .nil))))))))))) .skip)))) (fM T.a 76 55))))))) .skip)))))))))))))⟩:=bG (by kernel_rfl)
theorem E.g:bE F.g ⟨56,[], (J [I 11 0,gY 12 11,af 13 5 12,af 14 0 13,ae 15 14,I 16 2,bo 17 1 15 16,ae 18 17,I 10 18] (.seq (J [I 19 3,I 20 19,aX 20 (I 21 4),dq 22 20 21] (aE 22 (.seq (.dS (ak (I 23 1) (ak (I 24 10) (ak (I 25 0) (ak (gY 26 25) (ak (af 27 11 26) (ak (ae 28 27) (ak (I 29 0) (ak (gY 30 29) (ak (af 31 12 30) (ak (ae 32 31) (ak (bo 33 2 28 32) (ak (af 34 1 33) (ak (ae 35 34) (ak (bm .add T.a 36 24 35) (ak (az .sub T.a 37 36 1) (.b0 (de 38 (.fn F.a [(ab 23),(ab 37),(ai 1)])) .done .nil))))))))))))))))) .ret) .skip)) (.dS (ak (I 39 1) (ak (I 40 10) (ak (I 41 0) (ak (gY 42 41) (ak (af 43 0 42) (ak (af 44 1 43) (ak (ae 45 44) (ak (I 46 2) (ak (bo 47 6 45 46) (ak (bn 48 6 47) (ak (I 49 0) (ak (gY 50 49) (ak (af 51 0 50) (ak (af 52 0 51) (ak (ae 53 52) (.b0 (aY 54 F.r [48,53]) (.b0 (aY 55 F.a [39,40,54]) .done .nil) .nil)))))))))))))))))))⟩:=bG (by kernel_rfl)
theorem E.oQ:bE F.oQ ⟨26,[], (.dS (ak (I 6 1) (ak (I 7 0) (ak (gY 8 7) (ak (af 9 5 8) (ak (af 10 1 9) (ak (ae 11 10) (ak (I 12 2) (ak (bo 13 1 11 12) (ak (ae 14 13) (ak (I 15 0) (ak (gY 16 15) (ak (af 17 0 16) (ak (af 18 2 17) (ak (ae 19 18) (ak (I 20 2) (ak (bo 21 6 19 20) (ak (af 22 2 21) (ak (ae 23 22) (ak (a7 24 (.bin .add T.a (ai 1) (ab 23))) (.b0 (aY 25 F.a [6,14,24]) .done .nil)))))))))))))))))))))⟩:=bG (by kernel_rfl)
theorem E.CJ:bE F.CJ ⟨12,[.hN 13 4], (J [aG 2 (.box T.c (ab 0)),aG 3 (.box T.i (ab 1)),aG 4 (.new T.rQ (.agg #[aQ,aQ,aQ,aQ,aQ,aQ,aQ,aQ,an,aQ,aQ,aQ,aQ]))] (.seq (.dS (ak (bn 5 5 2) (ak (bn 6 6 3) (ak (bn 7 5 2) (ak (bn 9 5 2) (.alt (aY 8 F.tj [7]) (.alt (aY 10 F.zh [9]) (ak (a7 11 (.cF [aQ,aQ,aQ,aQ,aQ,aQ,aQ,aQ,an,aQ,aQ,aQ,aQ] [(0,5),(5,6),(11,1),(12,1)] [(0,(ab 5)),(1,(ab 6)),(2,(ab 8)),(3,(ab 10))])) (.b0 (cf 13 4 11) .done .nil)) .nil) .nil)))))) .ret))⟩:=bG (by kernel_rfl)
theorem E.w4:bE F.w4 ⟨107,[.tmp 4,.tmp 5], (J [aG 3 (.box T.v (ab 1)),ah 4 (ai 0),ah 5 (ai 0)] (.seq (J [I 12 0,bL 13 12,az .gtr T.a 14 13 24] (aE 14 (J [ah 4 (ai 0),ah 5 (ai 5)] .ret) .skip)) (.seq (J [I 15 0,bL 16 15,az .eql T.a 17 16 0] (aE 17 (J [ah 4 (ai 0),ah 5 (ai 4)] .ret) .skip)) (J [ah 6 (.const aQ)] (.seq (J [ah 7 (ai 0)] (.aW 0 (.loop (.seq (J [I 18 7,I 19 0,bL 20 19,bm .lss T.a 21 18 20] (aE 21 .skip (.exit 0))) (.seq (.aW 1 (J [I 24 0,I 25 7,bo 26 2 24 25,af 27 0 26,ae 28 27,aY 29 F.zd [28],I 8 29] (J [I 30 6,bL 31 30,I 9 31] (.seq (J [I 32 8,az .lss T.a 33 32 0] (aE 33 (J [ah 4 (ai 0),ah 5 (ai 3)] .ret) .skip)) (.seq (J [I 34 9,I 35 8,bm .lss T.a 36 34 35] (aE 36 (J [ah 4 (ai 0),ah 5 (ai 4)] .ret) .skip)) (J [ah 10 (ai 0)] (J [ah 11 (ai 0)] (.seq (J [I 37 8,az .eql T.a 38 37 0] (aE 38 (.dR [I 40 0,I 41 7,bo 42 2 40 41,bn 43 2 42,bn 44 5 3,aY 45 F.Ck [43,44],I 39 45,bx 46 39 0,bx 47 39 1,I 10 46,I 11 47]) .skip)) (.seq (J [I 48 8,az .eql T.a 49 48 1] (aE 49 (.dR [I 51 0,I 52 7,bo 53 2 51 52,bn 54 2 53,I 55 6,I 56 9,az .sub T.a 57 56 1,bo 58 1 55 57,ae 59 58,bn 60 5 3,aY 61 F.Cg [54,59,60],I 50 61,bx 62 50 0,bx 63 50 1,I 10 62,I 11 63]) .skip)) (.seq (J [I 64 8,az .eql T.a 65 64 2] (aE 65 (.dR [I 67 0,I 68 7,bo 69 2 67 68,af 70 0 69,ae 71 70,I 72 6,I 73 9,az .sub T.a 74 73 2,bo 75 1 72 74,ae 76 75,I 77 6,I 78 9,az .sub T.a 79 78 1,bo 80 1 77 79,ae 81 80,aY 82 F.Cf [71,76,81],I 66 82,bx 83 66 0,bx 84 66 1,I 10 83,I 11 84]) .skip)) (.seq (J [I 85 11,az .neq T.e 86 85 0] (aE 86 (J [I 87 11,ah 4 (ai 0),I 5 87] .ret) .skip)) (J [aG 88 (.cV T.a 0 1 [] []),I 89 6,I 90 9,I 91 8,bm .sub T.a 92 90 91,a7 93 (.iW 1 (ab 89) none (some (ab 92)) none),aG 94 (.app T.b T.a 1 8 (ab 88) (ab 93)),I 95 10,aG 96 (.cV T.a 1 1 [an] [(0,(ab 95))]),aG 97 (.app T.b T.a 1 8 (ab 94) (ab 96)),I 6 97] (J [I 98 6,bL 99 98,az .gtr T.a 100 99 12] (aE 100 (J [ah 4 (ai 0),ah 5 (ai 12)] .ret) .skip)))))))))))))) (.bJ [I 22 7,az .add T.a 23 22 1,I 7 23])))))) (.seq (J [I 101 6,bL 102 101,az .gtr T.a 103 102 1] (aE 103 (J [ah 4 (ai 0),ah 5 (ai 5)] .ret) .skip)) (J [I 104 6,a7 105 (.hE 1 (ab 104) (ai 0)),ae 106 105,I 4 106,ah 5 (ai 0)] .ret)))))))⟩:=bG (by kernel_rfl)
theorem E.zk:bE F.zk ⟨129,[.hN 5 8], (J [aG 4 (.box T.c (ab 0)),aG 5 (.box T.i (ab 1)),aG 8 (.new T.v (.agg #[aQ,aQ,aQ,aQ,an]))] (J [bn 17 5 4,aY 18 F.tj [17],I 9 18] (J [a7 19 (.cF [aQ,aQ,aQ,aQ,an] [(0,1),(1,1),(2,1),(3,1),(4,1)] []),aG 10 (.new T.v (.agg #[aQ,aQ,aQ,aQ,an])),cf 5 10 19] (.seq (J [ah 11 (ai 0)] (.aW 0 (.loop (.seq (J [I 20 11,af 21 1 4,ae 22 21,bL 23 22,bm .lss T.a 24 20 23] (aE 24 .skip (.exit 0))) (.seq (.aW 1 (.seq (.dR [af 27 1 4,ae 28 27,I 29 11,bo 30 6 28 29,bn 31 6 30,af 32 0 4,ae 33 32,aY 34 F.w7 [31,33],I 12 34]) (.dS (ak (af 35 0 10) (ak (ae 36 35) (ak (I 38 2) (ak (af 39 0 5) (ak (ae 40 39) (ak (I 41 11) (ak (bo 42 1 40 41) (ak (ae 43 42) (ak (af 44 0 5) (ak (ae 45 44) (ak (I 46 11) (ak (bo 47 1 45 46) (ak (ae 48 47) (ak (I 49 12) (ak (bm .add T.a 50 48 49) (ak (a7 51 (.iW 1 (ab 38) (some (ab 43)) (some (ab 50)) none)) (.alt (aG 37 (.cV T.a 0 1 [] [])) (.alt (aG 52 (.app T.b T.a 1 8 (ab 37) (ab 51))) (.alt (aG 53 (.cV T.b 1 1 [aQ] [(0,(ab 52))])) (.b0 (aG 54 (.app T.x4 T.b 1 24 (ab 36) (ab 53))) (ak (af 55 0 10) (.b0 (ys 55 54) .done .nil)) .nil) .nil) .nil) .nil)))))))))))))))))))) (.bJ [I 25 11,az .add T.a 26 25 1,I 11 26])))))) (.seq (J [ah 13 (ai 0)] (.aW 2 (.loop (.seq (J [I 56 13,af 57 2 4,ae 58 57,bL 59 58,bm .lss T.a 60 56 59] (aE 60 .skip (.exit 2))) (.seq (.aW 3 (.dS (ak (af 63 1 10) (ak (ae 64 63) (ak (I 65 2) (ak (af 66 1 5) (ak (ae 67 66) (ak (I 68 13) (ak (bo 69 1 67 68) (ak (ae 70 69) (ak (bo 71 1 65 70) (ak (ae 72 71) (.alt (aG 73 (.cV T.a 1 1 [an] [(0,(ab 72))])) (.b0 (aG 74 (.app T.b T.a 1 8 (ab 64) (ab 73))) (ak (af 75 1 10) (.b0 (ys 75 74) .done .nil)) .nil) .nil))))))))))))) (.bJ [I 61 13,az .add T.a 62 61 1,I 13 62])))))) (.seq (J [ah 14 (ai 0)] (.aW 4 (.loop (.seq (J [I 76 14,af 77 3 4,ae 78 77,bL 79 78,bm .lss T.a 80 76 79] (aE 80 .skip (.exit 4))) (.seq (.aW 5 (.dS (ak (af 83 3 10) (ak (ae 84 83) (ak (bn 85 5 4) (ak (bn 86 6 5) (ak (I 87 2) (ak (I 88 14) (.alt (aY 89 F.CE [85,86,87,88]) (.alt (aG 90 (.cV T.b 1 1 [aQ] [(0,(ab 89))])) (.b0 (aG 91 (.app T.x4 T.b 1 24 (ab 84) (ab 90))) (ak (af 92 3 10) (.b0 (ys 92 91) .done .nil)) .nil) .nil) .nil))))))))) (.bJ [I 81 14,az .add T.a 82 81 1,I 14 82])))))) (.seq (J [I 93 3,az .geq T.a 94 93 0] (aE 94 (J [af 95 2 5,ae 96 95,I 97 3,bo 98 1 96 97,ae 99 98,az .add T.a 100 99 1,I 15 100] (.seq (.dR [af 101 3 4,ae 102 101,I 103 9,I 104 3,bo 105 2 103 104,af 106 0 105,ae 107 106,bo 108 5 102 107,af 109 3 108,ae 110 109,bL 111 110,I 16 111]) (.seq (.dS (ak (af 112 2 10) (ak (ae 113 112) (ak (I 114 2) (ak (I 115 15) (ak (I 116 15) (ak (I 117 16) (ak (bm .add T.a 118 116 117) (ak (a7 119 (.iW 1 (ab 114) (some (ab 115)) (some (ab 118)) none)) (.b0 (aG 120 (.app T.b T.a 1 8 (ab 113) (ab 119))) (ak (af 121 2 10) (.b0 (ys 121 120) .done .nil)) .nil)))))))))) (.bJ [I 122 9,I 123 3,bo 124 2 122 123,af 125 1 124,ae 126 125,af 127 4 10,ys 127 126])))) .skip)) (J [bn 128 5 10,cf 5 8 128] .ret))))))))⟩:=bG (by kernel_rfl)
theorem E.CM:bE F.CM ⟨201,[.tmp 8,.tmp 9], (J [aG 4 (.box T.rQ (ab 0)),aG 7 (.box T.n (ab 3)),ah 8 (.const aQ),ah 9 (bV false)] (.seq (J [af 23 0 7,ae 24 23,az .eql T.a 25 24 5] (aE 25 (J [bn 27 13 4,I 28 1,af 29 1 7,ae 30 29,aY 31 F.xd [27,28,30],aY 32 F.CI [31],I 26 32,bx 33 26 0,bx 34 26 1,bx 35 26 2,I 10 33,I 11 34,I 12 35] (.seq (J [I 36 12,a7 37 (.un .not (ab 36))] (aE 37 (J [ah 8 (.const aQ),ah 9 (bV false)] .ret) .skip)) (.seq (.dS (ak (bn 38 13 4) (ak (bn 39 13 4) (ak (I 40 1) (ak (af 41 1 7) (ak (ae 42 41) (ak (I 43 10) (ak (af 45 5 4) (ak (af 46 2 45) (ak (ae 47 46) (ak (I 48 2) (ak (bo 49 1 47 48) (ak (ae 50 49) (ak (az .add T.a 51 50 1) (ak (af 52 2 7) (ak (ae 53 52) (ak (bm .add T.a 54 51 53) (ak (I 55 11) (.alt (aY 44 F.xe [39,40,42,43]) (.b0 (aY 56 F.u4 [38,44,54,55]) (ak (bx 57 56 0) (ak (bx 58 56 1) (ak (I 8 57) (ak (I 9 58) .done)))) .nil) .nil))))))))))))))))))) .ret))) .skip)) (J [af 59 0 4,bn 60 5 59,af 61 5 4,bn 62 6 61,I 63 1,I 64 2,aY 65 F.zk [60,62,63,64],aG 13 (.new T.v (.agg #[aQ,aQ,aQ,aQ,an])),cf 5 13 65] (J [af 67 4 7,ae 68 67,bn 69 5 13,aY 70 F.w4 [68,69],I 66 70,bx 71 66 0,bx 72 66 1,I 14 71,I 15 72] (.seq (J [I 73 15,az .neq T.e 74 73 0] (aE 74 (J [ah 8 (.const aQ),ah 9 (bV false)] .ret) .skip)) (.seq (J [af 75 0 7,ae 76 75] (.aW 0 (J [az .eql T.a 78 76 1,I 77 78] (aE 77 (.seq (.dS (ak (bn 79 13 4) (ak (I 80 1) (ak (af 81 5 4) (ak (af 82 0 81) (ak (ae 83 82) (ak (af 84 1 7) (ak (ae 85 84) (ak (bo 86 1 83 85) (ak (ae 87 86) (ak (I 88 14) (.b0 (aY 89 F.u4 [79,80,87,88]) (ak (bx 90 89 0) (ak (bx 91 89 1) (ak (I 8 90) (ak (I 9 91) .done)))) .nil)))))))))))) .ret) (J [az .eql T.a 93 76 2,I 92 93] (aE 92 (J [af 95 3 7,ae 96 95,bn 97 5 13,aY 98 F.w4 [96,97],I 94 98,bx 99 94 0,bx 100 94 1,I 16 99,I 17 100] (.seq (J [I 101 17,az .neq T.e 102 101 0,I 103 102,ao 103 (I 104 16),ao 103 (az .lss T.a 105 104 1),cb 106 103 105,I 107 106,ao 107 (I 108 16),ao 107 (af 109 0 13),ao 107 (ae 110 109),ao 107 (af 111 1 7),ao 107 (ae 112 111),ao 107 (bo 113 1 110 112),ao 107 (ae 114 113),ao 107 (bL 115 114),ao 107 (bm .gtr T.a 116 108 115),cb 117 107 116] (aE 117 (J [ah 8 (.const aQ),ah 9 (bV false)] .ret) .skip)) (.seq (.dS (ak (bn 118 13 4) (ak (I 119 1) (ak (af 120 5 4) (ak (af 121 0 120) (ak (ae 122 121) (ak (af 123 1 7) (ak (ae 124 123) (ak (bo 125 1 122 124) (ak (ae 126 125) (ak (I 127 16) (ak (bm .add T.a 128 126 127) (ak (az .sub T.a 129 128 1) (ak (I 130 14) (.b0 (aY 131 F.u4 [118,119,129,130]) (ak (bx 132 131 0) (ak (bx 133 131 1) (ak (I 8 132) (ak (I 9 133) .done)))) .nil))))))))))))))) .ret))) (J [az .eql T.a 135 76 3,I 134 135] (aE 134 (.seq (.dS (ak (bn 136 13 4) (ak (I 137 1) (ak (af 138 5 4) (ak (af 139 2 138) (ak (ae 140 139) (ak (I 141 2) (ak (bo 142 1 140 141) (ak (ae 143 142) (ak (az .add T.a 144 143 1) (ak (af 145 1 7) (ak (ae 146 145) (ak (bm .add T.a 147 144 146) (ak (I 148 14) (.b0 (aY 149 F.u4 [136,137,147,148]) (ak (bx 150 149 0) (ak (bx 151 149 1) (ak (I 8 150) (ak (I 9 151) .done)))) .nil))))))))))))))) .ret) .skip)))))))) (J [af 152 0 4,af 153 2 152,ae 154 153,af 155 1 7,ae 156 155,bo 157 6 154 156,bn 158 6 157,aG 18 (.new T.q (.agg #[cH,an,an,an,an,(.bool false)])),cf 6 18 158] (.seq (.dR [af 159 3 18,ae 160 159,af 161 4 18,ae 162 161,I 19 160,I 20 162]) (.seq (J [af 163 1 18,ae 164 163,az .gtr T.a 165 164 0] (aE 165 (.dR [af 166 0 4,af 167 0 166,ae 168 167,af 169 1 18,ae 170 169,az .sub T.a 171 170 1,bo 172 2 168 171,af 173 1 172,ae 174 173,ah 19 (ai 0),I 20 174]) .skip)) (.seq (J [I 175 14,I 176 19,bm .lss T.a 177 175 176,I 178 177,ao 178 (I 179 14),ao 178 (I 180 20),ao 178 (bm .gtr T.a 181 179 180),cb 182 178 181] (aE 182 (J [ah 8 (.const aQ),ah 9 (bV false)] .ret) .skip)) (J [bn 184 13 4,I 185 1,af 186 1 7,ae 187 186,aY 188 F.xd [184,185,187],I 189 14,aY 190 F.CH [188,189],I 183 190,bx 191 183 0,bx 192 183 1,I 21 191,I 22 192] (.seq (J [I 193 22,a7 194 (.un .not (ab 193))] (aE 194 (J [ah 8 (.const aQ),ah 9 (bV false)] .ret) .skip)) (J [bn 195 13 4,I 196 1,af 197 1 7,ae 198 197,I 199 21,aY 200 F.xe [195,196,198,199],I 8 200,ah 9 (bV true)] .ret)))))))))))))⟩:=bG (by kernel_rfl)
theorem E.zp:bE F.zp ⟨16,[.tmp 6], (J [ah 6 (.const aQ)] (J [aG 8 (.cV T.a 0 1 [] []),I 9 0,aG 10 (.app T.b T.a 1 8 (ab 8) (ab 9)),I 7 10] (J [I 11 7,I 12 1,I 13 2,bo 14 1 11 12,ys 14 13] (J [I 15 7,I 6 15] .ret))))⟩:=bG (by kernel_rfl)
theorem E.AI:bE F.AI ⟨52,[.tmp 8,.tmp 9], (J [ah 8 (ai 0),ah 9 (ai 0)] (.seq (.aW 0 (J [I 14 1,bL 15 14,az .gtr T.a 16 15 24,I 13 16] (aE 13 (J [ah 8 (ai 0),ah 9 (ai 5)] .ret) (J [I 18 1,bL 19 18,az .eql T.a 20 19 0,I 17 20] (aE 17 (J [ah 8 (ai 0),ah 9 (ai 4)] .ret) .skip))))) (J [I 21 0,aY 22 F.AP [],gY 23 21,af 24 1 23,ys 24 22] (.seq (J [I 25 1,bL 26 25,ah 27 (ai 0)] (.aW 1 (.loop (J [bm .lss T.a 28 27 26] (fy 28 1
 (.seq (.aW 2 (J [bo 29 2 25 27,bn 30 2 29,aG 11 (.new T.k (.agg #[an,an])),cf 2 11 30] (J [I 31 0,bn 32 2 11,I 33 2,I 34 3,aY 35 F.AQ [31,32,33,34],I 12 35] (J [I 36 12,az .neq T.e 37 36 0] (aE 37 (J [I 38 12,ah 8 (ai 0),I 9 38] .ret) .skip))))) (fM T.a 39 27))))))) (.seq (J [I 40 0,gY 41 40,af 42 0 41,ae 43 42,bL 44 43,az .gtr T.a 45 44 1] (aE 45 (J [ah 8 (ai 0),ah 9 (ai 5)] .ret) .skip)) (J [I 46 0,gY 47 46,af 48 0 47,ae 49 48,a7 50 (.hE 1 (ab 49) (ai 0)),ae 51 50,I 8 51,ah 9 (ai 0)] .ret))))))⟩:=bG (by kernel_rfl)
theorem E.AJ:bE F.AJ ⟨7,[.tmp 2], (J [aG 1 (.box T.c (ab 0)),ah 2 (bV false)] (J [bn 3 5 1,aY 4 F.z [3],a7 5 (.kx 0 (ab 4)),az .eql T.e 6 5 0,I 2 6] .ret))⟩:=bG (by kernel_rfl)
theorem E.AK:bE F.AK ⟨142,[.hN 6 2,.tmp 3], (J [aG 1 (.box T.c (ab 0)),aG 2 (.new T.i (.agg #[aQ,aQ,aQ,an,aQ,aQ])),ah 3 (.const aQ)] (J [aG 4 (.new T.i (.agg #[aQ,aQ,aQ,an,aQ,aQ]))] (J [aG 5 (.new T.sh aQ)] (J [a7 20 (.kc F.am [] [(ab 4),(ab 5)]),I 6 20] (.seq (J [af 21 1 1,ae 22 21,bL 23 22,ah 24 (ai 0)] (.aW 0 (.loop (J [bm .lss T.a 25 24 23] (fy 25 0
 (.seq (.aW 1 (J [I 26 24,bo 27 6 22 24,bn 28 6 27,aG 8 (.new T.f (.agg #[cH,an,an,an,an,an])),I 7 26,cf 6 8 28] (J [ah 9 (.const aQ)] (.seq (J [bn 29 6 8,af 30 0 1,ae 31 30,aY 32 F.r [29,31],ah 33 (ai 0)] (.aW 2 (.loop (J [bm .lss T.a 34 33 32] (fy 34 2
 (.seq (.aW 3 (.bJ [I 35 9,bn 36 6 8,af 37 0 1,ae 38 37,aY 39 F.qk [36,38],aG 40 (.cV T.j 1 3 [an,an,an] [(0,(ab 39))]),aG 41 (.app T.as T.j 3 24 (ab 35) (ab 40)),I 9 41])) (fM T.a 42 33))))))) (.dS (.wide (ak (af 43 0 4) (ak (ae 44 43) (ak (I 45 6) (ak (I 46 7) (ak (I 47 9) (.alt (de 48 (.val (ab 45) [(ai 1),(ab 46),(ab 47)])) (.alt (aG 49 (.cV T.a 1 1 [an] [(0,(ab 48))])) (.b0 (aG 50 (.app T.b T.a 1 8 (ab 44) (ab 49))) (ak (af 51 0 4) (.b0 (ys 51 50) .done .nil)) .nil) .nil) .nil)))))))))))) (fM T.a 52 24))))))) (.seq (J [af 53 2 1,ae 54 53,bL 55 54,ah 56 (ai 0)] (.aW 4 (.loop (J [bm .lss T.a 57 56 55] (fy 57 4
 (.seq (.aW 5 (J [I 58 56,bo 59 6 54 56,bn 60 6 59,aG 11 (.new T.q (.agg #[cH,an,an,an,an,(.bool false)])),I 10 58,cf 6 11 60] (J [af 61 2 11,ae 62 61,a7 63 (.cF [an,an,an] [(0,1),(1,1),(2,1)] [(1,(ab 62))]),aG 64 (.cV T.j 1 3 [an,an,an] [(0,(ab 63))]),I 12 64] (J [af 65 1 11,ae 66 65,af 67 3 11,ae 68 67,a7 69 (.tn (ab 68) (ai 0)),af 70 4 11,ae 71 70,a7 72 (.rR (ab 71) (ai 0)),a7 73 (.cF [cH,an,an,an,an,an] [(0,1),(1,1),(2,1),(3,1),(4,1),(5,1)] [(1,(ab 66)),(3,(ab 69)),(4,(ab 72))]),af 74 0 1,ae 75 74,aY 76 F.qk [73,75],aG 13 (.new T.j (.agg #[an,an,an])),cf 3 13 76] (.seq (J [af 77 2 11,ae 78 77,ah 79 (ai 0)] (.aW 6 (.loop (J [bm .lss T.a 80 79 78] (fy 80 6
 (.seq (.aW 7 (.bJ [I 81 12,bn 82 3 13,aG 83 (.cV T.j 1 3 [an,an,an] [(0,(ab 82))]),aG 84 (.app T.as T.j 3 24 (ab 81) (ab 83)),I 12 84])) (fM T.a 85 79))))))) (.dS (.wide (ak (af 86 1 4) (ak (ae 87 86) (ak (I 88 6) (ak (I 89 10) (ak (I 90 12) (.alt (de 91 (.val (ab 88) [(ai 2),(ab 89),(ab 90)])) (.alt (aG 92 (.cV T.a 1 1 [an] [(0,(ab 91))])) (.b0 (aG 93 (.app T.b T.a 1 8 (ab 87) (ab 92))) (ak (af 94 1 4) (.b0 (ys 94 93) .done .nil)) .nil) .nil) .nil))))))))))))) (fM T.a 95 56))))))) (.seq (J [bn 96 5 1,aY 97 F.oP [96],bL 98 97,ah 99 (ai 0)] (.aW 8 (.loop (J [bm .lss T.a 100 99 98] (fy 100 8
 (.seq (.aW 9 (J [I 101 99,bo 102 2 97 99,bn 103 2 102,aG 15 (.new T.l (.agg #[an,an])),I 14 101,cf 2 15 103] (J [af 104 3 1,ae 105 104,af 106 0 15,ae 107 106,bo 108 5 105 107,bn 109 5 108,aG 16 (.new T.g (.agg #[cH,an,an,aQ,aQ])),cf 5 16 109] (J [af 110 2 16,ae 111 110,az .sub T.a 112 111 1,a7 113 (.cF [an,an,an] [(0,1),(1,1),(2,1)] [(1,(ab 112))]),aG 114 (.cV T.j 1 3 [an,an,an] [(0,(ab 113))]),I 17 114] (.seq (J [af 115 3 16,ae 116 115,bL 117 116,ah 118 (ai 0)] (.aW 10 (.loop (J [bm .lss T.a 119 118 117] (fy 119 10
 (.seq (.aW 11 (J [bo 120 6 116 118,bn 121 6 120,aG 19 (.new T.f (.agg #[cH,an,an,an,an,an])),cf 6 19 121] (.bJ [I 122 17,bn 123 6 19,af 124 0 1,ae 125 124,aY 126 F.qk [123,125],aG 127 (.cV T.j 1 3 [an,an,an] [(0,(ab 126))]),aG 128 (.app T.as T.j 3 24 (ab 122) (ab 127)),I 17 128]))) (fM T.a 129 118))))))) (.dS (.wide (ak (af 130 2 4) (ak (ae 131 130) (ak (I 132 6) (ak (I 133 14) (ak (I 134 17) (.alt (de 135 (.val (ab 132) [(ai 3),(ab 133),(ab 134)])) (.alt (aG 136 (.cV T.a 1 1 [an] [(0,(ab 135))])) (.b0 (aG 137 (.app T.b T.a 1 8 (ab 131) (ab 136))) (ak (af 138 2 4) (.b0 (ys 138 137) .done .nil)) .nil) .nil) .nil))))))))))))) (fM T.a 139 99))))))) (.seq (.dS (.b0 (bn 140 6 4) (.b0 (ae 141 5) (.b0 (cf 6 2 140) (ak (I 3 141) .done) .nil) (.b0 (cf 6 2 140) (.b0 (ae 141 5) (ak (I 3 141) .done) .nil) .nil)) (.b0 (ae 141 5) (.b0 (bn 140 6 4) (.b0 (cf 6 2 140) (ak (I 3 141) .done) .nil) .nil) .nil))) .ret))))))))⟩:=bG (by kernel_rfl)
theorem E.x6:bE F.x6 ⟨4,[.tmp 2], (J [aG 1 (.box T.c (ab 0)),ah 2 (.const .nilFunc)] (J [a7 3 (.kc F.ql [] [(ab 1)]),I 2 3] .ret))⟩:=bG (by kernel_rfl)
theorem E.w7:bE F.w7 ⟨12,[.tmp 4], (J [aG 2 (.box T.f (ab 0)),ah 4 (ai 0)] (.seq (J [af 5 2 2,ae 6 5,az .eql T.a 7 6 0] (aE 7 (J [ah 4 (ai 1)] .ret) .skip)) (J [I 8 1,af 9 2 2,ae 10 9,aY 11 F.pR [8,10],I 4 11] .ret)))⟩:=bG (by kernel_rfl)
end Go.Proofs.R
end