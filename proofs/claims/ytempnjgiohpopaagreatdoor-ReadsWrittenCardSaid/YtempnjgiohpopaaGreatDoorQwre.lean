/- Texts joined: LayQ LayR Code0 CodeP1 CodeP2 CodeP3 CodeP4 CodeP5. -/
import Derived.Test.YtempnjgiohpopaaGreatDoorQwrc
import Derived.Test.YtempnjgiohpopaaGreatDoorQwrd
import Derived.Test.YtempnjgiohpopaaGreatDoorChecked
set_option linter.all false
set_option maxRecDepth 100000
section
namespace o
open Go
structure Al(v:Var)(s:List Scalar):Prop where
 ja:v.scalar=0∨size v.scalar s≠0
 eP:v.over=0∨size v.over s≠0
 FU:v.scalar=0→narrow v.aZ v.ad=true
 aZ:(bounds v s).1≤v.init
 ad:v.init≤(bounds v s).2
structure zT(c:c4)(s:List Scalar):Prop where
 ja:c.scalar=0∨size c.scalar s≠0
 cap:1≤c.cap∧c.cap≤4
 FU:c.scalar=0→narrow c.aZ c.ad=true
structure Vk(p:dj)(s:List Scalar):Prop where
 over:0≤p.over∧p.over≤s.length
 cz:1≤p.cz∧p.cz≤12
 gT:p.vars.length≤4∧p.cJ.length≤12
 var:∀v∈p.vars,Al v s
structure eI(m:Model):Prop where
 gT:m.scalars.length≤2∧m.vars.length≤12∧m.aH.length≤4
 procs:m.procs.length≤6
 var:∀v∈m.vars,Al v m.scalars
 chan:∀c∈m.aH,zT c m.scalars
 proc:∀p∈m.procs,Vk p m.scalars
 insts:(pieces m).1≤12
 cells:(pieces m).2.2≤64
theorem K1{k:Int}{s:List Scalar}(h:¬there k s=false):k=0∨size k s≠0:=by
 unfold there at h;by_cases aj:k=0
 ·exact .inl aj
 ·exact .inr (by simpa[aj] using h)
theorem UF{l:List Var}{s:List Scalar}{i:Nat}(ad:i<l.length)(h:nk l s i=0):Al l[i] s:=by
 unfold nk at h;rw[List.getElem?_eq_getElem ad] at h;simp only at h;by_cases h1:there l[i].scalar s=false∨there l[i].over s=false
 ·rw[if_pos h1] at h;cases h
 rw[if_neg h1] at h;by_cases U:(l[i].scalar=0∧narrow l[i].aZ l[i].ad=false)∨l[i].init<(bounds l[i] s).1∨l[i].init > (bounds l[i] s).2
 ·rw[if_pos U] at h;cases h
 refine⟨K1 fun e=>h1 (.inl e),K1 fun e=>h1 (.inr e),fun aj=>?_,?_,?_⟩
 ·cases aN:narrow l[i].aZ l[i].ad with
  | true=>rfl
  | false=>exact absurd (.inl ⟨aj,aN⟩) U
 ·exact Int.not_lt.1 fun e=>U (.inr (.inl e))
 ·exact Int.not_lt.1 fun e=>U (.inr (.inr e))
theorem WY{l:List c4}{s:List Scalar}{i:Nat}(ad:i<l.length)(h:mT l s i=0):zT l[i] s:=by
 unfold mT at h;rw[List.getElem?_eq_getElem ad] at h;simp only at h;by_cases h1:there l[i].scalar s=false
 ·rw[if_pos h1] at h;cases h
 rw[if_neg h1] at h;by_cases U:l[i].cap<1∨l[i].cap > 4∨(l[i].scalar=0∧narrow l[i].aZ l[i].ad=false)
 ·rw[if_pos U] at h;cases h
 refine⟨K1 h1,by omega,fun aj=>?_⟩;cases aN:narrow l[i].aZ l[i].ad with
 | true=>rfl
 | false=>exact absurd (.inr (.inr ⟨aj,aN⟩)) U
theorem HT{eW:Int}{e8:Nat→ByteArray}{mo:Nat→Int}{i:Nat}(h:err eW e8 mo i=0):mo i=0:=by
 unfold err at h;split at h
 ·cases h
 ·split at h
  ·cases h
  ·split at h
   ·cases h
   ·exact h
theorem pE{m:Model}(h:(check m).dh=0):eI m:=by
 unfold check at h;by_cases bs:(data m).dh≠0
 ·rw[if_pos bs] at h;exact absurd h bs
 rw[if_neg bs] at h;have bs:(data m).dh=0:=by simpa using bs
 by_cases aO:(lv m).dh≠0
 ·rw[if_pos aO] at h;exact absurd h aO
 have aO:(lv m).dh=0:=by simpa using aO
 obtain⟨h1,U,ai⟩:=O5 bs;obtain⟨fk,gp,gL⟩:=Tf aO;refine⟨EA bs,?_,fun v aU=>?_,fun c av=>?_,fun p aaM=>?_,gp,gL⟩
 ·apply Classical.byContradiction;intro aN
  have:=EG (i:=6) (by omega) (fk 6 (by omega))
  omega
 ·obtain⟨i,ad,rfl⟩:=List.mem_iff_getElem.1 aU;exact UF ad (HT (Gw (U i ad)))
 ·obtain⟨i,ad,rfl⟩:=List.mem_iff_getElem.1 av;exact WY ad (HT (Ep (ai i ad)))
 ·obtain⟨i,ad,rfl⟩:=List.mem_iff_getElem.1 aaM;obtain⟨_,eO,_,_⟩:=EH ad (fk i ad);have ay:(gq m i).scalars=m.scalars:=by
   unfold gq;split<;>rfl
  obtain⟨f1,f2,f3,f4,_⟩:=Ki eO;have f5:(vars m.procs[i].vars m.scalars 4).2=0:=by
   apply Classical.byContradiction;intro aN;unfold jE at f4;rw[ay,if_pos aN] at f4;exact aN f4
  unfold whole at f3;rw[ay] at f3;split at f3
  ·cases f3
  ·split at f3
   ·cases f3
   ·split at f3
    ·cases f3
    ·exact⟨by omega,by omega,⟨f1,f2⟩,fun v aU=>by
      obtain⟨j,aT,rfl⟩:=List.mem_iff_getElem.1 aU;exact UF aT (HT (sh f5 j aT))⟩
theorem SN{aZ ad:Int}(h:narrow aZ ad=true) : -1048576≤aZ∧aZ≤ad∧ad≤1048576∧ad - aZ<256:=by
 unfold narrow at h;exact of_decide_eq_true h
theorem WU{v:Var}{s:List Scalar}(h:Al v s):1≤cells v s:=by
 have:=size_le v.over s
 have:=h.eP
 unfold cells;split<;>omega
theorem zL(s:List Scalar)(v:Var):(xo s v).length=(cells v s).toNat:=by simp[xo]
theorem r7(s:List Scalar)(c:c4):(k3 s c).length=1+c.cap.toNat:=by simp[k3];omega
theorem BU{m:Model}{x:cW}(h:x.of m):∃(i:Nat) (ad:i<m.procs.length),x.proc=i∧jY m x=rG m.scalars m.procs[i]:=by
 refine⟨x.proc.toNat,by have:=h.ad;have:=h.aZ;omega,by have:=h.aZ;omega,?_⟩;unfold jY;rw[h0 h.aZ (by exact_mod_cast h.ad)]
theorem agd{m:Model}(h:eI m):∀l∈cF m,l≠[]:=fun l aQ=>by
 obtain⟨v,aU,rfl⟩:=List.mem_map.1 aQ
 have:=WU (h.var v aU)
 intro e
 have:=congrArg List.length e
 rw[zL] at this;simp at this;omega
theorem Ww(m:Model):∀l∈c7 m,l≠[]:=fun l aQ=>by
 obtain⟨v,aU,rfl⟩:=List.mem_map.1 aQ;simp[k3]
theorem abv(m:Model):∀l∈eN m,l≠[]:=fun l aQ=>by
 obtain⟨v,aU,rfl⟩:=List.mem_map.1 aQ;obtain⟨i,ad,_,e⟩:=BU (qw v aU);rw[e];simp[rG]
theorem Yr{m:Model}(h:eI m):hn 1 (b1 m) 0=gD 0 (cF m)∧hn 2 (b1 m) 0=gD (total (cF m)) (c7 m)∧hn 3 (b1 m) 0=gD (total (cF m)+total (c7 m)) (eN m):=by
 unfold b1;simp only[AY,jk,List.length_append,Nat.zero_add];refine⟨?_,?_,?_⟩
 ·rw[EN 1 _ 0 0 (agd h),vT 1 2 (by decide),vT 1 3 (by decide)];simp
 ·rw[EN 2 _ 0 _ (Ww m),vT 2 1 (by decide),vT 2 3 (by decide)];simp
 ·rw[EN 3 _ 0 _ (abv m),vT 3 1 (by decide),vT 3 2 (by decide)];simp
theorem KU(x:Int)(l:List Int):hd (x :: l)=x+hd l:=by
 have key:∀(l:List Int) (a:Int),l.foldl (· + ·) a=a+l.foldl (· + ·) 0:=by
  intro l
  induction l with
  | nil=>intro a;simp
  | cons y r gf =>
   intro a;simp only[List.foldl_cons];rw[gf (a+y),gf (0+y)];omega
 unfold hd;rw[List.foldl_cons,key];omega
theorem Dp(l:List di)(r:List (List di)):total (l :: r)=l.length+total r:=by simp[total]
theorem Dn(a b:List (List di)):total (a++b)=total a+total b:=by simp[total]
theorem Uz(s:List Scalar):∀l:List Var,(total (l.map (xo s)):Int)=hd (l.map fun v=>cells v s)
 | []=>rfl
 | v :: r=>by
  rw[List.map_cons,Dp,List.map_cons,KU,←Uz s r,zL]
  have:=(r6 v s).1
  omega
theorem Uw(s:List Scalar):∀l:List c4,(∀c∈l,zT c s)→(total (l.map (k3 s)):Int)=hd (l.map oB)
 | [],_=>rfl
 | c :: r,h=>by
  rw[List.map_cons,Dp,List.map_cons,KU,←Uw s r (fun x aw=>h x (by simp[aw])),r7]
  have:=(h c (by simp)).cap
  unfold oB;omega
theorem xc(s:List Scalar)(p:dj):(rG s p).length=1+p.vars.length:=by simp[rG];omega
theorem XN(m:Model)(i:Nat)(p:dj)(h:0≤p.over):(((hN i p).length+elems m p:Nat):Int)=jx m p:=by
 unfold hN jx elems;by_cases aj:p.over=0
 ·rw[if_pos aj,if_pos aj,gK (.inl (by omega))];rfl
 ·rw[if_neg aj,if_neg aj];unfold size;by_cases h1:p.over - 1<m.scalars.length
  ·rw[h0 (by omega) h1,List.getElem?_eq_getElem (by omega)];simp only;by_cases U:(m.scalars[(p.over - 1).toNat]'(by omega)).size<1∨4<(m.scalars[(p.over - 1).toNat]'(by omega)).size
   ·rw[if_pos U,if_neg (by omega)];rfl
   ·rw[if_neg U,if_pos (by omega)];simp only[List.length_nil];omega
  ·rw[gK (.inr (by omega)),List.getElem?_eq_none (by omega)];rfl
theorem Ux(m:Model):∀(l:List dj) (i:Nat),m.procs.drop i=l→(∀p∈l,0≤p.over)→(total ((iY m l i).map (jY m)):Int)=hd (l.map fun p=>jx m p*(1+p.vars.length))
 | [],_,_,_=>rfl
 | p :: r,i,bs,h=>by
  have ad:i<m.procs.length:=by
   apply Classical.byContradiction;intro aN;rw[List.drop_eq_nil_of_le (by omega)] at bs;cases bs
  rw[List.drop_eq_getElem_cons ad] at bs;injection bs with aO bk
  have aD:∀x:cW,x.proc=i→(jY m x).length=1+p.vars.length:=fun x aw=>by
   unfold jY;rw[aw,h0 (by omega) (by omega)];simp only[Int.toNat_natCast];rw[aO,xc]
  have c8:∀l:List cW,(∀x∈l,x.proc=i)→total (l.map (jY m))=l.length*(1+p.vars.length):=by
   intro l
   induction l with
   | nil=>intro _;simp[total]
   | cons x r gf =>
    intro h;rw[List.map_cons,Dp,gf (fun y cB=>h y (by simp[cB])),aD x (h x (by simp)),List.length_cons,Nat.add_mul];omega
  have h1:∀x∈hN i p++ir i (elems m p),x.proc=i:=fun x aw=>by
   rcases List.mem_append.1 aw with aw | aw
   ·unfold hN at aw;split at aw
    ·rw[List.mem_singleton] at aw;rw[aw]
    ·cases aw
   ·unfold ir at aw;obtain⟨k,_,rfl⟩:=List.mem_map.1 aw;rfl
  rw[iY,List.map_append,Dn,c8 _ h1,List.map_cons,KU,←Ux m r (i+1) bk (fun x aw=>h x (by simp[aw])),←XN m i p (h p (by simp))];rw[List.length_append,show(ir i (elems m p)).length=elems m p from by simp[ir]];simp only[Int.natCast_add,Int.natCast_mul];rfl
theorem FM{m:Model}(h:eI m):((b1 m).length:Int)=(pieces m).2.2:=by
 rw[BZ];have bT:=Uz m.scalars m.vars;have bg:=Uw m.scalars m.aH h.chan;have bO:=Ux m m.procs 0 (by simp) (fun p aO=>(h.proc p aO).over.1);unfold pieces;simp only;rw[←bT,←bg,←bO];simp only[cF,c7,eN,insts];omega
def PN(l:tA)(s:Int):List Int:=if s=3 then l.insts else if s=2 then l.aH else l.vars
structure agH(m:Model)(c:Nat)(x:Cell):Prop where
 sort:1≤x.sort∧x.sort≤3
 tq:0≤x.tq∧x.tq<(PN (layout m) x.sort).length
 at_:(PN (layout m) x.sort)[x.tq.toNat]? = some ((c:Int) - x.place)
 place:0≤x.place∧x.place≤c
 le:x.aZ≤x.ad
 chan:x.sort=2→x.aZ≤0∧0≤x.ad
theorem acf{m:Model}{c:Nat}(h1:total (cF m)≤c)(h:c<total (cF m)+total (c7 m)):(b1 m)[c]? = (cellsOf 2 (c7 m) 0)[c - total (cF m)]? := by
 unfold b1;rw[List.getElem?_append_left (by rw[List.length_append,jk,jk];omega),List.getElem?_append_right (by rw[jk];exact h1),jk]
theorem ach{m:Model}{c:Nat}(h1:total (cF m)+total (c7 m)≤c):(b1 m)[c]? = (cellsOf 3 (eN m) 0)[c - (total (cF m)+total (c7 m))]? := by
 unfold b1;rw[List.getElem?_append_right (by rw[List.length_append,jk,jk];exact h1),List.length_append,jk,jk]
theorem Dq{ls:List (List di)}{i:Nat}(h:i<ls.length):total (ls.take (i+1))=total (ls.take i)+ls[i].length:=by
 rw[List.take_succ_eq_append_getElem h,af0]
theorem af1(ls:List (List di))(i:Nat):total (ls.take i)≤total ls:=by
 have e:total ls=total (ls.take i)+total (ls.drop i):=by rw[←Dn,List.take_append_drop]
 omega
theorem KZ{ls:List (List di)}{i:Nat}(h:i<ls.length):total (ls.take i)+ls[i].length≤total ls:=by
 rw[←Dq h];exact af1 _ _
end o
end
section
namespace Go.Proofs.R
open Go bt Go.Proofs
abbrev T.p7:TypeId:=0
abbrev T.a:TypeId:=3
abbrev T.vC:TypeId:=4
abbrev T.x:TypeId:=5
abbrev T.h:TypeId:=9
abbrev T.nw:TypeId:=20
abbrev T.y:TypeId:=21
abbrev T.z:TypeId:=22
abbrev T.Am:TypeId:=23
abbrev T.ow:TypeId:=24
abbrev T.ap:TypeId:=25
abbrev T.q0:TypeId:=26
abbrev T.b:TypeId:=28
abbrev T.c:TypeId:=34
abbrev T.qX:TypeId:=37
abbrev T.e:TypeId:=42
abbrev T.Ha:TypeId:=46
abbrev T.w:TypeId:=49
abbrev T.OG:TypeId:=51
abbrev T.xQ:TypeId:=70
abbrev T.nv:TypeId:=71
abbrev T.m:TypeId:=73
abbrev T.as:TypeId:=74
abbrev T.g:TypeId:=76
abbrev T.l:TypeId:=78
abbrev T.pd:TypeId:=79
abbrev T.p:TypeId:=82
abbrev T.ox:TypeId:=85
abbrev T.f:TypeId:=88
abbrev T.t:TypeId:=92
abbrev T.n:TypeId:=95
abbrev T.tL:TypeId:=97
abbrev T.q:TypeId:=99
abbrev T.k:TypeId:=101
abbrev T.i:TypeId:=117
abbrev T.a0:TypeId:=121
abbrev T.u:TypeId:=125
abbrev T.qz:TypeId:=132
abbrev T.v:TypeId:=147
abbrev T.am:TypeId:=176
abbrev T.a2:TypeId:=177
abbrev T.a3:TypeId:=178
abbrev T.p8:TypeId:=188
abbrev T.a4:TypeId:=202
abbrev T.dy:TypeId:=204
abbrev T.nu:TypeId:=207
abbrev T.pe:TypeId:=213
abbrev T.ac:TypeId:=216
abbrev T.d:TypeId:=240
abbrev T.Dc:TypeId:=248
abbrev T.jZ:TypeId:=251
abbrev T.xT:TypeId:=264
abbrev T.j:TypeId:=266
abbrev T.s:TypeId:=268
abbrev T.vz:TypeId:=281
abbrev T.k1:TypeId:=290
abbrev T.ic:TypeId:=295
abbrev T.a5:TypeId:=307
abbrev F.CL:FuncId:=5
abbrev F.CK:FuncId:=20
abbrev F.Cv:FuncId:=21
abbrev F.w3:FuncId:=22
abbrev F.Cj:FuncId:=23
abbrev F.a2:FuncId:=24
abbrev F.CC:FuncId:=27
abbrev F.bg:FuncId:=28
abbrev F.sX:FuncId:=44
abbrev F.jQ:FuncId:=47
abbrev F.y:FuncId:=48
abbrev F.du:FuncId:=50
abbrev F.a3:FuncId:=51
abbrev F.bT:FuncId:=52
abbrev F.Cn:FuncId:=61
abbrev F.zd:FuncId:=62
abbrev F.Ct:FuncId:=63
abbrev F.uW:FuncId:=64
abbrev F.z:FuncId:=65
abbrev F.sb:FuncId:=66
abbrev F.a5:FuncId:=67
abbrev F.k1:FuncId:=68
abbrev F.a:FuncId:=69
abbrev F.f:FuncId:=70
abbrev F.p:FuncId:=71
abbrev F.ff:FuncId:=72
abbrev F.yh:FuncId:=73
abbrev F.q:FuncId:=74
abbrev F.CD:FuncId:=75
abbrev F.CF:FuncId:=76
abbrev F.Cf:FuncId:=77
abbrev F.wY:FuncId:=78
abbrev F.CH:FuncId:=79
abbrev F.za:FuncId:=80
abbrev F.w2:FuncId:=81
abbrev F.wZ:FuncId:=82
abbrev F.CE:FuncId:=83
abbrev F.bO:FuncId:=84
abbrev F.p4:FuncId:=89
abbrev F.nu:FuncId:=90
abbrev F.c2:FuncId:=100
abbrev F.Cl:FuncId:=108
abbrev F.r:FuncId:=109
abbrev F.bQ:FuncId:=111
abbrev F.ny:FuncId:=112
abbrev F.pf:FuncId:=113
abbrev F.a9:FuncId:=121
abbrev F.wW:FuncId:=123
abbrev F.Cx:FuncId:=124
abbrev F.Cy:FuncId:=125
abbrev F.Cu:FuncId:=126
abbrev F.zc:FuncId:=127
abbrev F.ph:FuncId:=128
abbrev F.fN:FuncId:=129
abbrev F.g:FuncId:=130
abbrev F.ow:FuncId:=131
abbrev F.vR:FuncId:=132
abbrev F.AX:FuncId:=133
abbrev F.CB:FuncId:=134
abbrev F.wR:FuncId:=135
abbrev F.ze:FuncId:=136
abbrev F.CG:FuncId:=137
abbrev F.zi:FuncId:=138
abbrev F.AA:FuncId:=142
abbrev F.AB:FuncId:=146
abbrev F.AD:FuncId:=147
abbrev F.AE:FuncId:=148
abbrev F.be:FuncId:=149
abbrev F.wU:FuncId:=153
abbrev F.ic:FuncId:=163
abbrev F.AF:FuncId:=164
abbrev F.b:FuncId:=165
abbrev F.xV:FuncId:=166
abbrev F.s:FuncId:=167
abbrev F.AG:FuncId:=168
abbrev F.AH:FuncId:=169
abbrev F.xW:FuncId:=170
abbrev F.t:FuncId:=171
abbrev F.xX:FuncId:=172
abbrev F.Cp:FuncId:=176
abbrev F.Cq:FuncId:=177
abbrev F.Co:FuncId:=178
abbrev F.Cr:FuncId:=179
abbrev F.wT:FuncId:=180
abbrev F.Cs:FuncId:=181
abbrev F.lT:FuncId:=184
abbrev F.y8:FuncId:=185
abbrev F.Ca:FuncId:=186
abbrev F.B6:FuncId:=187
abbrev F.B5:FuncId:=188
abbrev F.Cw:FuncId:=189
abbrev F.CA:FuncId:=190
abbrev F.uV:FuncId:=191
abbrev F.Cz:FuncId:=192
abbrev F.AI:FuncId:=194
abbrev F.AJ:FuncId:=195
abbrev F.pd:FuncId:=196
abbrev F.AK:FuncId:=198
abbrev F.ox:FuncId:=199
abbrev F.am:FuncId:=200
abbrev F.b8:FuncId:=201
abbrev F.pe:FuncId:=202
abbrev F.AL:FuncId:=203
abbrev F.pD:FuncId:=206
abbrev F.p7:FuncId:=208
abbrev F.xY:FuncId:=209
abbrev F.xZ:FuncId:=210
abbrev F.x0:FuncId:=211
abbrev F.cM:FuncId:=212
abbrev F.ap:FuncId:=213
abbrev F.x2:FuncId:=214
abbrev F.x4:FuncId:=215
abbrev F.x5:FuncId:=216
abbrev F.x6:FuncId:=217
abbrev F.d0:FuncId:=218
abbrev F.d1:FuncId:=219
abbrev F.ji:FuncId:=220
abbrev F.d2:FuncId:=221
abbrev F.ca:FuncId:=222
abbrev F.cR:FuncId:=223
abbrev F.d3:FuncId:=224
abbrev F.dv:FuncId:=225
abbrev F.d4:FuncId:=226
abbrev F.x7:FuncId:=227
abbrev F.d5:FuncId:=228
abbrev F.d6:FuncId:=229
abbrev F.d7:FuncId:=230
abbrev F.Cc:FuncId:=233
abbrev F.y9:FuncId:=234
abbrev F.sZ:FuncId:=235
abbrev F.sY:FuncId:=236
abbrev F.Cb:FuncId:=237
abbrev F.Ci:FuncId:=238
abbrev F.Ck:FuncId:=239
abbrev F.Cm:FuncId:=240
abbrev F.rC:FuncId:=241
abbrev F.y7:FuncId:=242
abbrev F.wX:FuncId:=243
abbrev F.uU:FuncId:=246
abbrev F.qy:FuncId:=247
abbrev F.y4:FuncId:=248
abbrev F.B1:FuncId:=249
abbrev F.B2:FuncId:=250
abbrev F.zf:FuncId:=251
abbrev F.zg:FuncId:=252
abbrev F.zh:FuncId:=253
abbrev F.b4:FuncId:=254
abbrev F.AO:FuncId:=255
abbrev F.bZ:FuncId:=256
abbrev F.nv:FuncId:=257
abbrev F.cE:FuncId:=258
abbrev F.i:FuncId:=259
abbrev F.dz:FuncId:=260
abbrev F.ie:FuncId:=261
abbrev F.lQ:FuncId:=262
abbrev F.mj:FuncId:=263
abbrev F.iM:FuncId:=264
abbrev F.iN:FuncId:=265
abbrev F.AP:FuncId:=266
abbrev F.qb:FuncId:=267
abbrev F.as:FuncId:=268
abbrev F.AQ:FuncId:=269
abbrev F.c0:FuncId:=280
abbrev F.jO:FuncId:=281
abbrev F.AR:FuncId:=282
abbrev F.p8:FuncId:=283
abbrev F.vI:FuncId:=284
abbrev F.vO:FuncId:=285
abbrev F.ee:FuncId:=286
abbrev F.mU:FuncId:=287
abbrev F.el:FuncId:=288
abbrev F.em:FuncId:=289
abbrev F.hU:FuncId:=290
abbrev F.Cd:FuncId:=291
abbrev F.wV:FuncId:=292
abbrev F.Ce:FuncId:=293
abbrev F.B3:FuncId:=294
abbrev F.B7:FuncId:=295
abbrev F.B8:FuncId:=296
abbrev F.B9:FuncId:=297
abbrev F.wO:FuncId:=307
abbrev F.ce:FuncId:=308
abbrev F.yd:FuncId:=309
abbrev F.hF:FuncId:=310
abbrev F.kE:FuncId:=311
abbrev F.fq:FuncId:=317
abbrev F.AV:FuncId:=318
abbrev F.a7:FuncId:=319
abbrev F.nw:FuncId:=320
abbrev F.q2:FuncId:=321
abbrev F.AW:FuncId:=322
abbrev F.q0:FuncId:=323
abbrev F.sW:FuncId:=324
abbrev F.Cg:FuncId:=325
abbrev F.y5:FuncId:=326
abbrev F.wQ:FuncId:=327
abbrev F.B4:FuncId:=328
abbrev F.uT:FuncId:=329
abbrev F.qx:FuncId:=330
abbrev F.y6:FuncId:=331
abbrev F.wP:FuncId:=336
abbrev F.ye:FuncId:=338
abbrev F.Ch:FuncId:=339
abbrev F.zb:FuncId:=340
abbrev F.wS:FuncId:=341
abbrev G.Sx:Nat:=0
theorem kN:Tryz.prog.follows .mixedOrders=true:=by kernel_rfl
theorem bI{f:FuncId}{L:kY}{args:List Value}{R:Value→World→Prop}{w:World}(av:jm Tryz.prog f=some L)(h:dQ Tryz.prog L.code (sd L.res R ⟨⟩) (gU args 0) w ⟨⟩)(br:args.length≤L.n:=by exact Nat.le_of_ble_eq_true rfl):bq Tryz.prog f args.toArray w R:=K.start kN av br h
abbrev bD(f:FuncId)(c:kY):Prop:=jm Tryz.prog f=some c
theorem bE{f:FuncId}{c:kY}(h:jm Tryz.prog f=some c):bD f c:=h
theorem E.CL:bD F.CL ⟨76,[.tmp 4], (J [aC 2 (.box T.b (ab 0)),ag 4 (bS false)] (.seq (J [bl 10 5 2,aX 11 F.CK [10],ax .eql T.a 12 11 1,I 13 12,ar 13 (I 14 1),ar 13 (bH 15 14),ar 13 (ax .gtr T.a 16 15 200),cg 17 13 16,I 18 17,ar 18 (bl 19 5 2),ar 18 (I 20 1),ar 18 (aX 21 F.Cv [19,20]),ar 18 (aY 22 (.un .not (ab 21))),cg 23 18 22] (aB 23 (J [aX 24 F.w3 [],I 4 24] .ret) .skip)) (J [bl 25 5 2,I 26 1,aX 27 F.CC [25,26],I 5 27] (.seq (J [ag 6 (ah 0)] (.aV 0 (.loop (.seq (J [I 28 6,I 29 5,bH 30 29,bj .lss T.a 31 28 30] (aB 31 .skip (.exit 0))) (.seq (.aV 1 (.seq (J [I 34 5,I 35 6,bm 36 3 34 35,af 37 0 36,ae 38 37,ax .lss T.a 39 38 0] (aB 39 (.exit 1) .skip)) (.seq (.dU (ao (bl 41 5 2) (ao (I 42 5) (ao (I 43 6) (ao (bm 44 3 42 43) (ao (af 45 0 44) (ao (ae 46 45) (.b0 (aX 47 F.a2 [41,46]) (ao (I 40 47) (ao (bx 48 40 0) (ao (bx 49 40 1) (ao (I 7 48) (ao (I 8 49) .done))))) .nil)))))))) (J [ag 9 (ah 0)] (.aV 2 (.loop (.seq (J [I 50 9,I 51 1,bH 52 51,bj .lss T.a 53 50 52] (aB 53 .skip (.exit 2))) (.seq (.aV 3 (.seq (.dO [I 56 5,I 57 6,bm 58 3 56 57,af 59 2 58,ae 60 59,I 61 9,bm 62 1 60 61,ae 63 62,I 64 1,I 65 9,bm 66 1 64 65,ae 67 66,bj .neq T.a 68 63 67,I 69 68,aW 69 (I 70 8),aW 69 (I 71 9),aW 69 (aX 72 F.bg [70,71]),aW 69 (aY 73 (.un .not (ab 72))),dp 74 69 73]) (aB 74 (J [ag 4 (bS false)] .ret) .skip))) (.bC [I 54 9,ax .add T.a 55 54 1,I 9 55]))))))))) (.bC [I 32 6,ax .add T.a 33 32 1,I 6 33])))))) (J [aX 75 F.w3 [],I 4 75] .ret)))))⟩:=bE (by kernel_rfl)
theorem E.CK:bD F.CK ⟨81,[.tmp 2], (J [aC 1 (.box T.b (ab 0)),ag 2 (ah 0)] (.seq (J [af 6 0 1,ae 7 6,bH 8 7,ax .gtr T.a 9 8 10,I 10 9,ar 10 (af 11 1 1),ar 10 (ae 12 11),ar 10 (bH 13 12),ar 10 (ax .gtr T.a 14 13 30),cg 15 10 14,I 16 15,ar 16 (af 17 2 1),ar 16 (ae 18 17),ar 16 (bH 19 18),ar 16 (ax .gtr T.a 20 19 20),cg 21 16 20,I 22 21,ar 22 (af 23 3 1),ar 22 (ae 24 23),ar 22 (bH 25 24),ar 22 (ax .gtr T.a 26 25 20),cg 27 22 26,I 28 27,ar 28 (af 29 4 1),ar 28 (ae 30 29),ar 28 (bH 31 30),ar 28 (ax .gtr T.a 32 31 20),cg 33 28 32] (aB 33 (J [ag 2 (ah 1)] .ret) .skip)) (.seq (J [ag 3 (ah 0)] (.aV 0 (.loop (.seq (J [I 34 3,af 35 3 1,ae 36 35,bH 37 36,bj .lss T.a 38 34 37] (aB 38 .skip (.exit 0))) (.seq (.aV 1 (J [af 41 3 1,ae 42 41,I 43 3,bm 44 5 42 43,bl 45 5 44,aC 4 (.new T.g (.agg #[cG,ak,ak,aM,aM])),cc 5 4 45] (.seq (J [af 46 3 4,ae 47 46,bH 48 47,ax .gtr T.a 49 48 20,I 50 49,ar 50 (af 51 4 4),ar 50 (ae 52 51),ar 50 (bH 53 52),ar 50 (ax .gtr T.a 54 53 30),cg 55 50 54] (aB 55 (J [ag 2 (ah 1)] .ret) .skip)) (J [ag 5 (ah 0)] (.aV 2 (.loop (.seq (J [I 56 5,af 57 4 4,ae 58 57,bH 59 58,bj .lss T.a 60 56 59] (aB 60 .skip (.exit 2))) (.seq (.aV 3 (J [af 63 4 4,ae 64 63,I 65 5,bm 66 6 64 65,af 67 4 66,ae 68 67,bH 69 68,ax .gtr T.a 70 69 20,I 71 70,ar 71 (af 72 4 4),ar 71 (ae 73 72),ar 71 (I 74 5),ar 71 (bm 75 6 73 74),ar 71 (af 76 3 75),ar 71 (ae 77 76),ar 71 (bH 78 77),ar 71 (ax .gtr T.a 79 78 60),cg 80 71 79] (aB 80 (J [ag 2 (ah 1)] .ret) .skip))) (.bC [I 61 5,ax .add T.a 62 61 1,I 5 62]))))))))) (.bC [I 39 3,ax .add T.a 40 39 1,I 3 40])))))) (J [ag 2 (ah 0)] .ret))))⟩:=bE (by kernel_rfl)
theorem E.Cv:bD F.Cv ⟨14,[.tmp 4], (J [aC 2 (.box T.b (ab 0)),ag 4 (bS false)] (.seq (.dU (ao (bl 5 5 2) (.alt (aX 6 F.Cn [5]) (ao (I 7 6) (ao (aW 7 (bl 8 5 2)) (ao (aW 7 (bl 9 5 2)) (ao (aW 7 (I 11 1)) (.alt (aW 7 (aX 10 F.Ct [9])) (.b0 (aW 7 (aX 12 F.zd [8,10,11])) (ao (dp 13 7 12) (ao (I 4 13) .done)) .nil) .nil))))) .nil))) .ret))⟩:=bE (by kernel_rfl)
theorem E.w3:bD F.w3 ⟨34,[.tmp 0], (J [ag 0 (bS false)] (J [aX 4 F.uW [],db 5 (.fn F.a2 [(ab 4),(ah 1)]),I 3 5,bx 6 3 0,bx 7 3 1,I 1 6,I 2 7] (J [I 8 1,aC 9 (.cQ T.a 2 1 [ak,ak] [(0,(ah 1)),(1,(ah 3))]),aX 10 F.z [8,9],I 11 10,aW 11 (I 12 2),aW 11 (aC 13 (.cQ T.a 2 1 [ak,ak] [(0,(ah 1)),(1,(ah 3))])),aW 11 (aX 14 F.z [12,13]),dp 15 11 14,I 16 15,aW 16 (aX 17 F.uW []),aW 16 (db 18 (.fn F.sb [(ab 17),(ah 0)])),aW 16 (aC 19 (.cQ T.a 1 1 [ak] [(0,(ah 2))])),aW 16 (aX 20 F.z [18,19]),dp 21 16 20,I 22 21,aW 22 (aX 23 F.uW []),aW 22 (db 24 (.fn F.a5 [(ab 23),(ah 1)])),aW 22 (aC 25 (.cQ T.a 1 1 [ak] [(0,(ah 3))])),aW 22 (aX 26 F.z [24,25]),dp 27 22 26,I 28 27,aW 28 (aX 29 F.uW []),aW 28 (db 30 (.fn F.a5 [(ab 29),(ah 2)])),aW 28 (bH 31 30),aW 28 (ax .eql T.a 32 31 0),dp 33 28 32,I 0 33] .ret)))⟩:=bE (by kernel_rfl)
theorem E.Cj:bD F.Cj ⟨37,[.tmp 2], (J [aC 1 (.box T.b (ab 0)),ag 2 (.const aM)] (J [bl 7 5 1,aX 8 F.sX [7],I 3 8] (J [ag 4 (.const aM)] (.seq (J [ag 5 (ah 0)] (.aV 0 (.loop (.seq (J [I 9 5,I 10 3,bH 11 10,bj .lss T.a 12 9 11] (aB 12 .skip (.exit 0))) (.seq (.aV 1 (J [ag 6 (ah 0)] (.aV 2 (.loop (.seq (.seq (.dO [I 15 6,af 16 3 1,ae 17 16,I 18 3,I 19 5,bm 20 2 18 19,af 21 0 20,ae 22 21,bm 23 5 17 22,af 24 4 23,ae 25 24,bH 26 25,bj .lss T.a 27 15 26]) (aB 27 .skip (.exit 2))) (.seq (.aV 3 (.bC [I 30 4,I 31 5,I 32 6,aY 33 (.cA [ak,ak] [(0,1),(1,1)] [(0,(ab 31)),(1,(ab 32))]),aC 34 (.cQ T.p 1 2 [ak,ak] [(0,(ab 33))]),aC 35 (.app T.qX T.p 2 16 (ab 30) (ab 34)),I 4 35])) (.bC [I 28 6,ax .add T.a 29 28 1,I 6 29]))))))) (.bC [I 13 5,ax .add T.a 14 13 1,I 5 14])))))) (J [I 36 4,I 2 36] .ret)))))⟩:=bE (by kernel_rfl)
theorem E.a2:bD F.a2 ⟨57,[.tmp 4,.tmp 5], (J [aC 2 (.box T.b (ab 0)),ag 4 (.const aM),ag 5 (.const aM)] (J [bl 14 5 2,I 15 1,aX 16 F.k1 [14,15],I 13 16,bx 17 13 0,bx 18 13 1,bx 19 13 2,aC 7 (.new T.m (.agg #[cG,ak,ak,aM,aM,(.bool false)])),I 6 17,cc 6 7 18,I 8 19] (.seq (J [I 20 8,aY 21 (.un .not (ab 20))] (aB 21 (J [ag 4 (.const aM),ag 5 (.const aM)] .ret) .skip)) (J [aC 22 .oR,aC 23 .oR,I 9 22,I 10 23] (J [I 24 9,I 25 6,aX 26 F.f [25],db 27 (.fn F.a [(ab 24),(ab 26),(ah 1)])] (J [I 28 10,I 29 6,aX 30 F.f [29],db 31 (.fn F.a [(ab 28),(ab 30),(ah 1)])] (J [I 32 6,I 33 9,af 34 3 7,ae 35 34,aX 36 F.p [32,33,35]] (.seq (J [af 37 4 7,ae 38 37,bH 39 38,ag 40 (ah 0)] (.aV 0 (.loop (J [bj .lss T.a 41 40 39] (fm 41 0
 (.seq (.aV 1 (J [bm 42 5 38 40,bl 43 5 42,aC 12 (.new T.n (.agg #[ak,ak,ak,aM,aM])),cc 5 12 43] (J [I 44 6,I 45 9,bl 46 5 12,aX 47 F.ff [44,45,46]] (.bC [I 48 6,I 49 10,bl 50 5 12,aX 51 F.yh [48,49,50]])))) (fx T.a 52 40))))))) (J [I 53 9,aX 54 F.q [53],I 55 10,aX 56 F.q [55],I 4 54,I 5 56] .ret)))))))))⟩:=bE (by kernel_rfl)
theorem E.CC:bD F.CC ⟨23,[.tmp 4], (J [aC 2 (.box T.b (ab 0)),ag 4 (.const aM)] (J [bl 8 5 2,aX 9 F.CD [8],I 7 9,bx 10 7 0,bx 11 7 1,aC 5 (.new T.qz (.agg #[aM,aM,aM,aM,aM,aM,aM,aM,ak,aM,aM,aM,aM])),cc 13 5 10,I 6 11] (.seq (J [I 12 6,aY 13 (.un .not (ab 12)),I 14 13,ar 14 (bl 15 13 5),ar 14 (I 16 1),ar 14 (aX 17 F.CF [15,16]),ar 14 (aY 18 (.un .not (ab 17))),cg 19 14 18] (aB 19 (J [ag 4 (.const aM)] .ret) .skip)) (J [bl 20 13 5,I 21 1,aX 22 F.CE [20,21],I 4 22] .ret))))⟩:=bE (by kernel_rfl)
theorem E.sX:bD F.sX ⟨43,[.tmp 2], (J [aC 1 (.box T.b (ab 0)),ag 2 (.const aM)] (J [ag 3 (.const aM)] (.seq (J [ag 4 (ah 0)] (.aV 0 (.loop (.seq (J [I 6 4,af 7 3 1,ae 8 7,bH 9 8,bj .lss T.a 10 6 9] (aB 10 .skip (.exit 0))) (.seq (.aV 1 (.seq (J [af 13 3 1,ae 14 13,I 15 4,bm 16 5 14 15,af 17 1 16,ae 18 17,ax .eql T.a 19 18 0] (aB 19 (.bC [I 20 3,I 21 4,aY 22 (.cA [ak,ak] [(0,1),(1,1)] [(0,(ab 21))]),aC 23 (.cQ T.l 1 2 [ak,ak] [(0,(ab 22))]),aC 24 (.app T.pd T.l 2 16 (ab 20) (ab 23)),I 3 24]) .skip)) (J [ag 5 (ah 1)] (.aV 2 (.loop (.seq (.seq (.dO [I 25 5,bl 26 5 1,af 27 3 1,ae 28 27,I 29 4,bm 30 5 28 29,bl 31 5 30,aX 32 F.Cl [26,31],bj .leq T.a 33 25 32]) (aB 33 .skip (.exit 2))) (.seq (.aV 3 (.bC [I 36 3,I 37 4,I 38 5,aY 39 (.cA [ak,ak] [(0,1),(1,1)] [(0,(ab 37)),(1,(ab 38))]),aC 40 (.cQ T.l 1 2 [ak,ak] [(0,(ab 39))]),aC 41 (.app T.pd T.l 2 16 (ab 36) (ab 40)),I 3 41])) (.bC [I 34 5,ax .add T.a 35 34 1,I 5 35])))))))) (.bC [I 11 4,ax .add T.a 12 11 1,I 4 12])))))) (J [I 42 3,I 2 42] .ret))))⟩:=bE (by kernel_rfl)
theorem E.jQ:bD F.jQ ⟨79,[.tmp 2,.tmp 3,.tmp 4], (J [aC 1 (.box T.b (ab 0)),ag 2 (ah 0),ag 3 (ah 0),ag 4 (ah 0)] (J [ag 5 (ah 0),ag 6 (ah 0),ag 7 (ah 0)] (.seq (J [af 15 1 1,ae 16 15,bH 17 16,ag 18 (ah 0)] (.aV 0 (.loop (J [bj .lss T.a 19 18 17] (fm 19 0
 (.seq (.aV 1 (J [bm 20 6 16 18,bl 21 6 20,aC 9 (.new T.f (.agg #[cG,ak,ak,ak,ak,ak])),cc 6 9 21] (.bC [I 22 7,bl 23 6 9,af 24 0 1,ae 25 24,aX 26 F.r [23,25],bj .add T.a 27 22 26,I 7 27]))) (fx T.a 28 18))))))) (.seq (J [af 29 2 1,ae 30 29,bH 31 30,ag 32 (ah 0)] (.aV 2 (.loop (J [bj .lss T.a 33 32 31] (fm 33 2
 (.seq (.aV 3 (J [bm 34 6 30 32,bl 35 6 34,aC 11 (.new T.q (.agg #[cG,ak,ak,ak,ak,(.bool false)])),cc 6 11 35] (.bC [I 36 7,af 37 2 11,ae 38 37,aY 39 (.rD (ab 38) (ah 0)),aY 40 (.s0 (ab 39) (ah 4)),aY 41 (.bin .add T.a (ah 1) (ab 40)),bj .add T.a 42 36 41,I 7 42]))) (fx T.a 43 32))))))) (.seq (J [af 44 3 1,ae 45 44,bH 46 45,ag 47 (ah 0)] (.aV 4 (.loop (J [bj .lss T.a 48 47 46] (fm 48 4
 (.seq (.aV 5 (J [bm 49 5 45 47,bl 50 5 49,aC 13 (.new T.g (.agg #[cG,ak,ak,aM,aM])),cc 5 13 50] (J [af 51 1 13,ae 52 51,aY 53 (.cA [cG,ak,ak,ak,ak,ak] [(0,1),(1,1),(2,1),(3,1),(4,1),(5,1)] [(2,(ab 52))]),af 54 0 1,ae 55 54,aX 56 F.r [53,55],I 14 56] (J [I 57 5,I 58 14,bj .add T.a 59 57 58,I 5 59] (J [I 60 6,I 61 14,af 62 4 13,ae 63 62,bH 64 63,bj .mul T.a 65 61 64,bj .add T.a 66 60 65,I 6 66] (.bC [I 67 7,I 68 14,af 69 3 13,ae 70 69,bH 71 70,aY 72 (.bin .add T.a (ah 1) (ab 71)),bj .mul T.a 73 68 72,bj .add T.a 74 67 73,I 7 74])))))) (fx T.a 75 47))))))) (J [I 76 5,I 77 6,I 78 7,I 2 76,I 3 77,I 4 78] .ret))))))⟩:=bE (by kernel_rfl)
theorem E.Cn:bD F.Cn ⟨7,[.tmp 2], (J [aC 1 (.box T.b (ab 0)),ag 2 (bS false)] (J [bl 3 5 1,aX 4 F.wW [3],aY 5 (.ki 0 (ab 4)),ax .eql T.e 6 5 0,I 2 6] .ret))⟩:=bE (by kernel_rfl)
theorem E.zd:bD F.zd ⟨45,[.tmp 6], (J [aC 3 (.box T.b (ab 0)),aC 4 (.box T.i (ab 1)),ag 6 (bS false)] (.seq (J [I 9 2,bH 10 9,af 11 3 4,ae 12 11,bj .neq T.a 13 10 12] (aB 13 (J [ag 6 (bS false)] .ret) .skip)) (.seq (J [ag 7 (ah 0)] (.aV 0 (.loop (.seq (J [I 14 7,af 15 2 3,ae 16 15,bH 17 16,bj .lss T.a 18 14 17] (aB 18 .skip (.exit 0))) (.seq (.aV 1 (J [af 21 1 4,ae 22 21,I 23 7,bm 24 1 22 23,ae 25 24,I 8 25] (.seq (.dO [bl 26 5 3,I 27 2,I 28 8,I 29 8,af 30 2 3,ae 31 30,I 32 7,bm 33 6 31 32,af 34 2 33,ae 35 34,bj .add T.a 36 29 35,ax .add T.a 37 36 1,aY 38 (.iH 1 (ab 27) (some (ab 28)) (some (ab 37)) none),I 39 7,aX 40 F.Cx [26,38,39],aY 41 (.un .not (ab 40))]) (aB 41 (J [ag 6 (bS false)] .ret) .skip)))) (.bC [I 19 7,ax .add T.a 20 19 1,I 7 20])))))) (J [bl 42 6 4,I 43 2,aX 44 F.Cy [42,43],I 6 44] .ret))))⟩:=bE (by kernel_rfl)
theorem E.Ct:bD F.Ct ⟨9,[.hC 6 2], (J [aC 1 (.box T.b (ab 0)),aC 2 (.new T.i (.agg #[aM,aM,aM,ak,aM,aM]))] (.seq (J [bl 3 5 1,aX 4 F.Cu [3],aY 5 (.un .not (ab 4))] (aB 5 (J [aY 6 (.cA [aM,aM,aM,ak,aM,aM] [(0,1),(1,1),(2,1),(3,1),(4,1),(5,1)] []),cc 6 2 6] .ret) .skip)) (J [bl 7 5 1,aX 8 F.zc [7],cc 6 2 8] .ret)))⟩:=bE (by kernel_rfl)
theorem E.uW:bD F.uW ⟨23,[.hC 5 0], (J [aC 0 (.new T.b (.agg #[aM,aM,aM,aM,aM]))] (J [aY 3 (.cA [ak,ak] [(0,1),(1,1)] [(0,(ah 5))]),aY 4 (.cA [ak,ak] [(0,1),(1,1)] [(0,(ah 3))]),aY 5 (.cA [ak,ak] [(0,1),(1,1)] [(0,(ah 1)),(1,(ah 1))]),aY 6 (.cA [ak,ak] [(0,1),(1,1)] [(0,(ah 11))]),aC 7 (.cQ T.k 4 2 [ak,ak,ak,ak,ak,ak,ak,ak] [(0,(ab 3)),(1,(ab 4)),(2,(ab 5)),(3,(ab 6))]),I 1 7] (J [aY 8 (.cA [ak,ak] [(0,1),(1,1)] [(0,(ah 5))]),aC 9 (.cQ T.k 1 2 [ak,ak] [(0,(ab 8))]),I 10 1,aY 11 (.cA [ak,ak,ak,aM,aM] [(0,1),(1,1),(2,1),(3,1),(4,1)] [(0,(ah 2)),(3,(ab 9)),(4,(ab 10))]),aC 2 (.new T.n (.agg #[ak,ak,ak,aM,aM])),cc 5 2 11] (J [aY 12 (.cA [cG,ak] [(0,1),(1,1)] [(0,(.const (.string ⟨#[83]⟩))),(1,(ah 2))]),aC 13 (.cQ T.tL 1 2 [cG,ak] [(0,(ab 12))]),aY 14 (.cA [cG,ak,ak,ak,ak,ak] [(0,1),(1,1),(2,1),(3,1),(4,1),(5,1)] [(0,(.const (.string ⟨#[120]⟩))),(2,(ah 1)),(4,(ah 3))]),aC 15 (.cQ T.f 1 6 [cG,ak,ak,ak,ak,ak] [(0,(ab 14))]),bl 16 5 2,aC 17 (.cQ T.n 1 5 [ak,ak,ak,aM,aM] [(0,(ab 16))]),aY 18 (.cA [cG,ak,ak,aM,aM,(.bool false)] [(0,1),(1,1),(2,1),(3,1),(4,1),(5,1)] [(0,(.const (.string ⟨#[103,111]⟩))),(4,(ab 17))]),aC 19 (.cQ T.m 1 6 [cG,ak,ak,aM,aM,(.bool false)] [(0,(ab 18))]),aY 20 (.cA [cG,ak,ak,aM,aM] [(0,1),(1,1),(2,1),(3,1),(4,1)] [(0,(.const (.string ⟨#[97]⟩))),(1,(ah 1)),(2,(ah 1)),(4,(ab 19))]),aC 21 (.cQ T.g 1 5 [cG,ak,ak,aM,aM] [(0,(ab 20))]),aY 22 (.cA [aM,aM,aM,aM,aM] [(0,1),(1,1),(2,1),(3,1),(4,1)] [(0,(ab 13)),(1,(ab 15)),(3,(ab 21))]),cc 5 0 22] .ret))))⟩:=bE (by kernel_rfl)
theorem E.sb:bD F.sb ⟨30,[.tmp 4], (J [aC 2 (.box T.b (ab 0)),ag 4 (.const aM)] (J [bl 10 5 2,I 11 1,aX 12 F.k1 [10,11],I 9 12,bx 13 9 0,bx 14 9 1,bx 15 9 2,aC 6 (.new T.m (.agg #[cG,ak,ak,aM,aM,(.bool false)])),I 5 13,cc 6 6 14,I 7 15] (.seq (J [I 16 7,aY 17 (.un .not (ab 16))] (aB 17 (J [ag 4 (.const aM)] .ret) .skip)) (J [aC 18 .oR,I 8 18] (J [I 19 8,I 20 5,aX 21 F.f [20],db 22 (.fn F.a [(ab 19),(ab 21),(ah 1)])] (J [I 23 5,I 24 8,af 25 3 6,ae 26 25,aX 27 F.p [23,24,26]] (J [I 28 8,aX 29 F.q [28],I 4 29] .ret)))))))⟩:=bE (by kernel_rfl)
theorem E.a5:bD F.a5 ⟨44,[.tmp 4], (J [aC 2 (.box T.b (ab 0)),ag 4 (.const aM)] (.seq (J [bl 7 5 2,aX 8 F.y [7],aY 9 (.ki 0 (ab 8)),ax .neq T.e 10 9 0] (aB 10 (J [ag 4 (.const aM)] .ret) .skip)) (J [bl 11 5 2,aX 12 F.nu [11],I 5 12] (.seq (J [I 13 1,ax .lss T.a 14 13 0,I 15 14,ar 15 (I 16 1),ar 15 (I 17 5),ar 15 (bH 18 17),ar 15 (bj .geq T.a 19 16 18),cg 20 15 19] (aB 20 (J [ag 4 (.const aM)] .ret) .skip)) (J [aC 21 .oR,I 6 21] (.seq (.dU (ao (I 22 6) (ao (bl 23 5 2) (ao (I 26 1) (ao (af 29 3 2) (ao (ae 30 29) (ao (I 31 5) (ao (I 32 1) (ao (bm 33 2 31 32) (ao (af 34 0 33) (ao (ae 35 34) (ao (bm 36 5 30 35) (ao (af 37 3 36) (ao (ae 38 37) (ao (bH 39 38) (ao (aY 40 (.bin .add T.a (ah 1) (ab 39))) (.alt (aX 24 F.p4 [23]) (ao (aY 25 (.ki 2 (ab 24))) (ao (bm 27 1 25 26) (.alt (ae 28 27) (.b0 (aX 41 F.a [22,28,40]) .done .nil) .nil))) .nil))))))))))))))))) (J [I 42 6,aX 43 F.q [42],I 4 43] .ret)))))))⟩:=bE (by kernel_rfl)
theorem E.k1:bD F.k1 ⟨61,[.tmp 4,.hC 6 5,.tmp 6], (J [aC 2 (.box T.b (ab 0)),ag 4 (.const (.pointer none)),aC 5 (.new T.m (.agg #[cG,ak,ak,aM,aM,(.bool false)])),ag 6 (bS false)] (.seq (J [bl 9 5 2,aX 10 F.y [9],aY 11 (.ki 0 (ab 10)),ax .neq T.e 12 11 0] (aB 12 (J [aY 13 (.cA [cG,ak,ak,aM,aM,(.bool false)] [(0,1),(1,1),(2,1),(3,1),(4,1),(5,1)] []),ag 4 (.const (.pointer none)),cc 6 5 13,ag 6 (bS false)] .ret) .skip)) (J [bl 14 5 2,aX 15 F.c2 [14],I 7 15] (.seq (J [I 16 1,ax .lss T.a 17 16 0,I 18 17,ar 18 (I 19 1),ar 18 (I 20 7),ar 18 (bH 21 20),ar 18 (bj .geq T.a 22 19 21),cg 23 18 22] (aB 23 (J [aY 24 (.cA [cG,ak,ak,aM,aM,(.bool false)] [(0,1),(1,1),(2,1),(3,1),(4,1),(5,1)] []),ag 4 (.const (.pointer none)),cc 6 5 24,ag 6 (bS false)] .ret) .skip)) (.seq (.dU (ao (bl 25 5 2) (ao (bl 26 5 2) (ao (bl 28 5 2) (ao (I 30 7) (ao (I 31 1) (ao (bm 32 2 30 31) (ao (af 33 0 32) (ao (ae 34 33) (.alt (aX 27 F.p4 [26]) (.alt (aX 29 F.nu [28]) (ao (aY 35 (.cA [aM,aM,aM,aM,aM,aM,aM,aM,ak,aM,aM,aM,ak] [(0,5),(5,6),(11,1),(12,1)] [(0,(ab 25)),(1,(ab 27)),(2,(ab 29)),(3,(ab 34))])) (.b0 (aC 36 (.box T.p8 (ab 35))) (ao (I 8 36) .done) .nil)) .nil) .nil)))))))))) (.seq (.dU (ao (I 37 8) (ao (af 38 3 2) (ao (ae 39 38) (ao (I 40 8) (ao (gO 41 40) (ao (af 42 11 41) (ao (ae 43 42) (ao (I 44 8) (ao (gO 45 44) (ao (af 46 12 45) (ao (ae 47 46) (ao (bm 48 2 43 47) (ao (af 49 0 48) (ao (ae 50 49) (ao (bm 51 5 39 50) (ao (af 52 4 51) (ao (ae 53 52) (ao (I 54 7) (ao (I 55 1) (ao (bm 56 2 54 55) (ao (af 57 1 56) (ao (ae 58 57) (ao (bm 59 6 53 58) (ao (bl 60 6 59) (ao (I 4 37) (.b0 (cc 6 5 60) (ao (ag 6 (bS true)) .done) .nil))))))))))))))))))))))))))) .ret))))))⟩:=bE (by kernel_rfl)
theorem E.a:bD F.a ⟨18,[], (J [I 7 2,ag 8 (ah 0)] (.aV 0 (.loop (J [bj .lss T.a 9 8 7] (fm 9 0
 (.seq (.aV 1 (J [I 10 8,I 6 10] (.bC [I 11 0,I 12 1,I 13 6,bj .add T.a 14 12 13,lF 15 (.lp (.int .i64) ak false (ab 11) (ab 14)),ax .add T.a 16 15 1,hS (.hZ (.int .i64) (ab 11) (ab 14) (ab 16))]))) (fx T.a 17 8)))))))⟩:=bE (by kernel_rfl)
theorem E.f:bD F.f ⟨14,[.tmp 2], (J [ag 2 (ah 0)] (.seq (.dO [I 3 0,gO 4 3,af 5 5 4,af 6 2 5,ae 7 6,I 8 0,gO 9 8,af 10 12 9,ae 11 10,bm 12 1 7 11,ae 13 12,I 2 13]) .ret))⟩:=bE (by kernel_rfl)
theorem E.p:bD F.p ⟨9,[], (J [aC 3 (.box T.a0 (ab 0)),aC 4 (.box T.u (ab 1))] (.bC [I 6 2,aY 7 (.j0 F.fN [] [(ab 3),(ab 4)]),aX 8 F.ph [6,7]]))⟩:=bE (by kernel_rfl)
theorem E.ff:bD F.ff ⟨40,[], (J [aC 5 (.box T.n (ab 2))] (.seq (J [af 6 0 5,ae 7 6] (.aV 0 (J [ax .eql T.a 9 7 2,I 8 9] (aB 8 (.bC [I 10 0,I 11 1,af 12 3 5,ae 13 12,aX 14 F.p [10,11,13]]) (J [ax .eql T.a 16 7 4,I 15 16] (aB 15 (.dU (ao (I 17 1) (ao (I 18 0) (ao (gO 19 18) (ao (af 20 5 19) (ao (af 21 1 20) (ao (ae 22 21) (ao (af 23 1 5) (ao (ae 24 23) (ao (bm 25 1 22 24) (ao (ae 26 25) (.b0 (db 27 (.fn F.a [(ab 17),(ab 26),(ah 1)])) .done .nil)))))))))))) (J [ax .eql T.a 29 7 5,I 28 29] (aB 28 (J [I 30 0,I 31 1,af 32 1 5,ae 33 32,aX 34 F.ow [30,31,33]] .ret) .skip)))))))) (.bC [I 35 0,I 36 1,af 37 4 5,ae 38 37,aX 39 F.p [35,36,38]])))⟩:=bE (by kernel_rfl)
theorem E.yh:bD F.yh ⟨66,[], (J [aC 5 (.box T.n (ab 2))] (J [af 6 0 5,ae 7 6] (.aV 0 (J [ax .eql T.a 9 7 1,I 8 9] (aB 8 (.bC [I 10 0,I 11 1,af 12 1 5,ae 13 12,db 14 (.fn F.g [(ab 10),(ab 11),(ab 13),(bS false),(bS false)])]) (J [ax .eql T.a 16 7 2,I 15 16] (aB 15 (.dU (ao (I 17 0) (ao (I 18 1) (ao (af 19 1 5) (ao (ae 20 19) (ao (af 21 3 5) (ao (ae 22 21) (ao (bH 23 22) (ao (ax .eql T.a 24 23 1) (ao (I 25 24) (ao (aW 25 (af 26 3 5)) (ao (aW 25 (ae 27 26)) (ao (aW 25 (aY 28 (.hv 2 (ab 27) (ah 0)))) (ao (aW 25 (af 29 0 28)) (ao (aW 25 (ae 30 29)) (ao (aW 25 (ax .eql T.a 31 30 5)) (ao (dp 32 25 31) (.b0 (db 33 (.fn F.g [(ab 17),(ab 18),(ab 20),(bS true),(ab 32)])) .done .nil)))))))))))))))))) (J [ax .eql T.a 35 7 3,I 34 35] (aB 34 (.dU (ao (I 36 1) (ao (I 37 0) (ao (af 40 1 5) (ao (ae 41 40) (.alt (aX 38 F.f [37]) (ao (ax .add T.a 39 38 1) (ao (bj .add T.a 42 39 41) (.b0 (db 43 (.fn F.a [(ab 36),(ab 42),(ah 1)])) .done .nil))) .nil)))))) (J [ax .eql T.a 45 7 4,I 44 45] (aB 44 (.bC [I 46 0,I 47 1,af 48 1 5,ae 49 48,aX 50 F.ow [46,47,49]]) (J [ax .eql T.a 52 7 5,I 51 52] (aB 51 (J [I 53 0,I 54 1,af 55 1 5,ae 56 55,aX 57 F.ow [53,54,56]] (.dU (ao (I 58 1) (ao (I 59 0) (ao (af 62 2 5) (ao (ae 63 62) (.alt (aX 60 F.f [59]) (ao (ax .add T.a 61 60 1) (ao (bj .add T.a 64 61 63) (.b0 (db 65 (.fn F.a [(ab 58),(ab 64),(ah 1)])) .done .nil))) .nil))))))) .skip)))))))))))))⟩:=bE (by kernel_rfl)
theorem E.q:bD F.q ⟨6,[.tmp 2], (J [ag 2 (.const aM)] (J [I 3 0,aX 4 F.AX [3],aX 5 F.vR [4],I 2 5] .ret))⟩:=bE (by kernel_rfl)
theorem E.CD:bD F.CD ⟨13,[.hC 13 2,.tmp 3], (J [aC 1 (.box T.b (ab 0)),aC 2 (.new T.qz (.agg #[aM,aM,aM,aM,aM,aM,aM,aM,ak,aM,aM,aM,aM])),ag 3 (bS false)] (.seq (J [bl 4 5 1,aX 5 F.wW [4],aY 6 (.ki 0 (ab 5)),ax .neq T.e 7 6 0] (aB 7 (J [aY 8 (.cA [aM,aM,aM,aM,aM,aM,aM,aM,ak,aM,aM,aM,aM] [(0,5),(5,6),(11,1),(12,1)] []),cc 13 2 8,ag 3 (bS false)] .ret) .skip)) (.seq (.dU (ao (bl 9 5 1) (ao (bl 10 5 1) (.alt (aX 11 F.zc [10]) (.b0 (aX 12 F.CB [9,11]) (.b0 (cc 13 2 12) (ao (ag 3 (bS true)) .done) .nil) .nil) .nil)))) .ret)))⟩:=bE (by kernel_rfl)
theorem E.CF:bD F.CF ⟨11,[.tmp 4], (J [aC 2 (.box T.qz (ab 0)),ag 4 (bS false)] (J [af 5 0 2,bl 6 5 5,af 7 5 2,bl 8 6 7,I 9 1,aX 10 F.zd [6,8,9],I 4 10] .ret))⟩:=bE (by kernel_rfl)
theorem E.Cf:bD F.Cf ⟨31,[.tmp 4], (J [aC 2 (.box T.m (ab 0)),ag 4 (ah 0)] (J [bl 8 6 2,aX 9 F.za [8],I 7 9,bx 10 7 0,bx 11 7 1,I 5 10,I 6 11] (.seq (J [I 12 5,ax .eql T.a 13 12 4,I 14 13,aW 14 (I 15 6),aW 14 (ax .geq T.a 16 15 0),dp 17 14 16,I 18 17,aW 18 (I 19 6),aW 18 (I 20 1),aW 18 (bH 21 20),aW 18 (bj .lss T.a 22 19 21),dp 23 18 22,I 24 23,aW 24 (I 25 1),aW 24 (I 26 6),aW 24 (bm 27 6 25 26),aW 24 (af 28 5 27),aW 24 (ae 29 28),dp 30 24 29] (aB 30 (J [ag 4 (ah 2)] .ret) .skip)) (J [ag 4 (ah 1)] .ret))))⟩:=bE (by kernel_rfl)
theorem E.wY:bD F.wY ⟨28,[.hC 6 4], (J [aC 2 (.box T.qz (ab 0)),aC 4 (.new T.m (.agg #[cG,ak,ak,aM,aM,(.bool false)]))] (J [af 6 12 2,ae 7 6,I 8 1,bm 9 2 7 8,bl 10 2 9,aC 5 (.new T.p (.agg #[ak,ak])),cc 2 5 10] (.seq (.dU (ao (af 11 0 2) (ao (af 12 3 11) (ao (ae 13 12) (ao (af 14 11 2) (ao (ae 15 14) (ao (af 16 0 5) (ao (ae 17 16) (ao (bm 18 2 15 17) (ao (af 19 0 18) (ao (ae 20 19) (ao (bm 21 5 13 20) (ao (af 22 4 21) (ao (ae 23 22) (ao (af 24 1 5) (ao (ae 25 24) (ao (bm 26 6 23 25) (ao (bl 27 6 26) (.b0 (cc 6 4 27) .done .nil))))))))))))))))))) .ret)))⟩:=bE (by kernel_rfl)
theorem E.CH:bD F.CH ⟨96,[.tmp 6,.tmp 7], (J [aC 3 (.box T.qz (ab 0)),ag 6 (.const aM),ag 7 (bS false)] (J [af 16 12 3,ae 17 16,I 18 2,bm 19 2 17 18,bl 20 2 19,aC 8 (.new T.p (.agg #[ak,ak])),cc 2 8 20] (J [bl 21 13 3,I 22 2,aX 23 F.wY [21,22],aC 9 (.new T.m (.agg #[cG,ak,ak,aM,aM,(.bool false)])),cc 6 9 23] (.seq (.seq (.dO [I 24 1,af 25 5 3,af 26 2 25,ae 27 26,af 28 0 8,ae 29 28,bm 30 1 27 29,ae 31 30,bm 32 1 24 31,ae 33 32,af 34 1 9,ae 35 34,bj .neq T.a 36 33 35]) (aB 36 (J [ag 6 (.const aM),ag 7 (bS false)] .ret) .skip)) (.seq (J [af 37 3 9,ae 38 37,bH 39 38,ax .gtr T.a 40 39 0] (aB 40 (.seq (.dU (ao (af 42 3 9) (ao (ae 43 42) (ao (af 44 0 3) (ao (bl 45 5 44) (ao (af 46 5 3) (ao (bl 47 6 46) (ao (I 48 1) (ao (af 49 0 8) (ao (ae 50 49) (.alt (aX 51 F.ze [45,47,48,50]) (.b0 (aX 52 F.wR [43,51]) (ao (I 41 52) (ao (bx 53 41 0) (ao (bx 54 41 1) (ao (I 10 53) (ao (I 11 54) .done))))) .nil) .nil))))))))))) (J [I 55 11,ax .neq T.e 56 55 0,I 57 56,ar 57 (I 58 10),ar 57 (ax .eql T.a 59 58 0),cg 60 57 59] (aB 60 (J [ag 6 (.const aM),ag 7 (bS false)] .ret) .skip))) .skip)) (J [I 61 1,I 12 61] (.seq (J [ag 13 (ah 0)] (.aV 0 (.loop (.seq (J [I 62 13,af 63 4 9,ae 64 63,bH 65 64,bj .lss T.a 66 62 65] (aB 66 .skip (.exit 0))) (.seq (.aV 1 (.seq (.dU (ao (bl 70 13 3) (ao (I 71 12) (ao (af 72 0 8) (ao (ae 73 72) (ao (af 74 4 9) (ao (ae 75 74) (ao (I 76 13) (ao (bm 77 5 75 76) (ao (bl 78 5 77) (.b0 (aX 79 F.CG [70,71,73,78]) (ao (I 69 79) (ao (bx 80 69 0) (ao (bx 81 69 1) (ao (I 14 80) (ao (I 15 81) .done))))) .nil))))))))))) (.seq (J [I 82 15,aY 83 (.un .not (ab 82))] (aB 83 (J [ag 6 (.const aM),ag 7 (bS false)] .ret) .skip)) (.bC [I 84 14,I 12 84])))) (.bC [I 67 13,ax .add T.a 68 67 1,I 13 68])))))) (.seq (.dU (ao (I 85 12) (ao (af 86 5 3) (ao (af 87 2 86) (ao (ae 88 87) (ao (af 89 0 8) (ao (ae 90 89) (ao (bm 91 1 88 90) (ao (ae 92 91) (ao (af 93 2 9) (ao (ae 94 93) (.b0 (aX 95 F.zi [85,92,94]) (ao (I 6 95) (ao (ag 7 (bS true)) .done)) .nil)))))))))))) .ret))))))))⟩:=bE (by kernel_rfl)
theorem E.za:bD F.za ⟨40,[.tmp 2,.tmp 3], (J [aC 1 (.box T.m (ab 0)),ag 2 (ah 0),ag 3 (ah 0)] (.seq (J [ag 4 (ah 0)] (.aV 0 (.loop (.seq (J [I 5 4,af 6 4 1,ae 7 6,bH 8 7,bj .lss T.a 9 5 8] (aB 9 .skip (.exit 0))) (.seq (.aV 1 (J [af 12 4 1,ae 13 12,I 14 4,bm 15 5 13 14,af 16 0 15,ae 17 16,ax .eql T.a 18 17 4,I 19 18,ar 19 (af 20 4 1),ar 19 (ae 21 20),ar 19 (I 22 4),ar 19 (bm 23 5 21 22),ar 19 (af 24 0 23),ar 19 (ae 25 24),ar 19 (ax .eql T.a 26 25 5),cg 27 19 26] (aB 27 (.seq (.dO [af 28 4 1,ae 29 28,I 30 4,bm 31 5 29 30,af 32 0 31,ae 33 32,af 34 4 1,ae 35 34,I 36 4,bm 37 5 35 36,af 38 1 37,ae 39 38,I 2 33,I 3 39]) .ret) .skip))) (.bC [I 10 4,ax .add T.a 11 10 1,I 4 11])))))) (J [ag 2 (ah 0),ag 3 (ah 0)] .ret)))⟩:=bE (by kernel_rfl)
theorem E.w2:bD F.w2 ⟨30,[.tmp 8], (J [aC 4 (.box T.qz (ab 0)),ag 8 (.const aM)] (J [af 10 5 4,af 11 1 10,ae 12 11,I 13 2,bm 14 1 12 13,ae 15 14,I 9 15] (.seq (.dU (ao (I 17 1) (ao (I 18 9) (ao (aY 19 (.iH 1 (ab 17) none (some (ab 18)) none)) (ao (I 21 3) (ao (I 23 1) (ao (I 24 9) (ao (I 25 3) (ao (bH 26 25) (ao (bj .add T.a 27 24 26) (ao (aY 28 (.iH 1 (ab 23) (some (ab 27)) none none)) (.b0 (aC 16 (.cQ T.a 0 1 [] [])) (.b0 (aC 20 (.app T.c T.a 1 8 (ab 16) (ab 19))) (.b0 (aC 22 (.app T.c T.a 1 8 (ab 20) (ab 21))) (.b0 (aC 29 (.app T.c T.a 1 8 (ab 22) (ab 28))) (ao (I 8 29) .done) .nil) .nil) .nil) .nil)))))))))))) .ret)))⟩:=bE (by kernel_rfl)
theorem E.wZ:bD F.wZ ⟨27,[.tmp 6], (J [aC 3 (.box T.qz (ab 0)),ag 6 (.const aM)] (J [af 8 5 3,af 9 1 8,ae 10 9,I 11 2,bm 12 1 10 11,ae 13 12,I 7 13] (J [I 14 1,I 15 7,I 16 7,ax .add T.a 17 16 1,af 18 0 3,af 19 2 18,ae 20 19,I 21 2,bm 22 6 20 21,af 23 2 22,ae 24 23,bj .add T.a 25 17 24,aY 26 (.iH 1 (ab 14) (some (ab 15)) (some (ab 25)) none),I 6 26] .ret)))⟩:=bE (by kernel_rfl)
theorem E.CE:bD F.CE ⟨72,[.tmp 4], (J [aC 2 (.box T.qz (ab 0)),ag 4 (.const aM)] (J [ag 5 (.const aM)] (.seq (J [ag 6 (ah 0)] (.aV 0 (.loop (.seq (J [I 11 6,af 12 12 2,ae 13 12,bH 14 13,bj .lss T.a 15 11 14] (aB 15 .skip (.exit 0))) (.seq (.aV 1 (J [bl 19 13 2,I 20 1,I 21 6,aX 22 F.CH [19,20,21],I 18 22,bx 23 18 0,bx 24 18 1,I 7 23,I 8 24] (.seq (J [I 25 8,aY 26 (.un .not (ab 25))] (aB 26 (.exit 1) .skip)) (J [I 27 5,I 28 6,I 29 7,aY 30 (.cA [ak,ak,aM] [(0,1),(1,1),(2,1)] [(0,(ab 28)),(2,(ab 29))]),aC 31 (.cQ T.w 1 3 [ak,ak,aM] [(0,(ab 30))]),aC 32 (.app T.Ha T.w 3 40 (ab 27) (ab 31)),I 5 32] (.seq (.dU (ao (bl 33 13 2) (ao (I 34 6) (ao (af 36 0 2) (ao (af 37 2 36) (ao (ae 38 37) (.alt (aX 35 F.wY [33,34]) (.b0 (aX 39 F.Cf [35,38]) (ao (ax .eql T.a 40 39 2) .done) .nil) .nil))))))) (aB 40 (J [bl 42 13 2,I 43 6,aX 44 F.wY [42,43],aX 45 F.za [44],I 41 45,bx 46 41 0,bx 47 41 1,I 9 46,I 10 47] (.dU (ao (I 48 5) (ao (I 49 6) (ao (bl 50 13 2) (ao (I 51 7) (ao (I 52 10) (ao (bl 53 13 2) (ao (I 54 1) (ao (I 55 10) (.alt (aX 56 F.wZ [53,54,55]) (.b0 (aX 57 F.w2 [50,51,52,56]) (ao (aY 58 (.cA [ak,ak,aM] [(0,1),(1,1),(2,1)] [(0,(ab 49)),(1,(ah 1)),(2,(ab 57))])) (.b0 (aC 59 (.cQ T.w 1 3 [ak,ak,aM] [(0,(ab 58))])) (.b0 (aC 60 (.app T.Ha T.w 3 40 (ab 48) (ab 59))) (ao (I 5 60) .done) .nil) .nil)) .nil) .nil))))))))))) .skip)))))) (.bC [I 16 6,ax .add T.a 17 16 1,I 6 17])))))) (.seq (J [I 61 5,bH 62 61,ax .eql T.a 63 62 0] (aB 63 (.bC [I 64 5,aC 65 (.cQ T.a 0 1 [] []),I 66 1,aC 67 (.app T.c T.a 1 8 (ab 65) (ab 66)),aY 68 (.cA [ak,ak,aM] [(0,1),(1,1),(2,1)] [(0,(ah (-1))),(2,(ab 67))]),aC 69 (.cQ T.w 1 3 [ak,ak,aM] [(0,(ab 68))]),aC 70 (.app T.Ha T.w 3 40 (ab 64) (ab 69)),I 5 70]) .skip)) (J [I 71 5,I 4 71] .ret)))))⟩:=bE (by kernel_rfl)
theorem E.p4:bD F.p4 ⟨15,[.hC 6 2], (J [aC 1 (.box T.b (ab 0)),aC 2 (.new T.i (.agg #[aM,aM,aM,ak,aM,aM]))] (.seq (J [bl 5 5 1,aX 6 F.AB [5],aY 7 (.un .not (ab 6))] (aB 7 (J [aY 8 (.cA [aM,aM,aM,ak,aM,aM] [(0,1),(1,1),(2,1),(3,1),(4,1),(5,1)] []),cc 6 2 8] .ret) .skip)) (J [bl 10 5 1,aX 11 F.AD [10],I 9 11,bx 12 9 0,bx 13 9 1,aC 3 (.new T.i (.agg #[aM,aM,aM,ak,aM,aM])),cc 6 3 12,I 4 13] (J [bl 14 6 3,cc 6 2 14] .ret))))⟩:=bE (by kernel_rfl)
theorem E.nu:bD F.nu ⟨6,[.tmp 2], (J [aC 1 (.box T.b (ab 0)),ag 2 (.const aM)] (J [bl 3 5 1,aX 4 F.be [3],aX 5 F.AE [4],I 2 5] .ret))⟩:=bE (by kernel_rfl)
theorem E.Cl:bD F.Cl ⟨32,[.tmp 4], (J [aC 2 (.box T.b (ab 0)),aC 3 (.box T.g (ab 1)),ag 4 (ah 0)] (.seq (J [af 6 1 3,ae 7 6,ax .lss T.a 8 7 1,I 9 8,ar 9 (af 10 1 3),ar 9 (ae 11 10),ar 9 (af 12 0 2),ar 9 (ae 13 12),ar 9 (bH 14 13),ar 9 (bj .gtr T.a 15 11 14),cg 16 9 15] (aB 16 (J [ag 4 (ah 0)] .ret) .skip)) (J [af 17 0 2,ae 18 17,af 19 1 3,ae 20 19,ax .sub T.a 21 20 1,bm 22 2 18 21,af 23 1 22,ae 24 23,I 5 24] (.seq (J [I 25 5,ax .lss T.a 26 25 1,I 27 26,ar 27 (I 28 5),ar 27 (ax .gtr T.a 29 28 4),cg 30 27 29] (aB 30 (J [ag 4 (ah 0)] .ret) .skip)) (J [I 31 5,I 4 31] .ret)))))⟩:=bE (by kernel_rfl)
theorem E.r:bD F.r ⟨18,[.tmp 4], (J [aC 2 (.box T.f (ab 0)),ag 4 (ah 0)] (.seq (J [af 7 2 2,ae 8 7,ax .eql T.a 9 8 0] (aB 9 (J [ag 4 (ah 1)] .ret) .skip)) (J [af 11 2 2,ae 12 11,I 13 1,aX 14 F.ic [12,13],I 10 14,bx 15 10 0,bx 16 10 1,I 5 15,I 6 16] (J [I 17 5,I 4 17] .ret))))⟩:=bE (by kernel_rfl)
def C.bQ:kY:=⟨88,[], (J [aC 2 (.box T.b (ab 0))] (J [af 13 0 2,ae 14 13,aX 15 F.AF [14],I 12 15,bx 16 12 0,bx 17 12 1,I 4 16,I 5 17] (.seq (.eQ [I 18 5,I 19 4] (some 20) F.b [(ab 18),(ah 1),(ab 19),(ah 0)]) (.seq (J [af 21 0 2,ae 22 21,bH 23 22,ag 24 (ah 0)] (.aV 0 (.loop (J [bj .lss T.a 25 24 23] (fm 25 0
 (.seq (.aV 1 (J [bm 26 2 22 24,bl 27 2 26,aC 7 (.new T.tL (.agg #[cG,ak])),cc 2 7 27] (.bC [I 28 1,af 29 0 7,ae 30 29,hS (.hZ .string (ab 28) (ab 30) (bS true))]))) (fx T.a 31 24))))))) (J [af 33 1 2,ae 34 33,af 35 0 2,ae 36 35,db 37 (.fn F.xV [(ab 34),(ab 36),(ah 12)]),I 32 37,bx 38 32 0,bx 39 32 1,I 4 38,I 5 39] (.seq (J [af 40 1 2,ae 41 40,bH 42 41,ag 43 (ah 0)] (.aV 2 (.loop (J [bj .lss T.a 44 43 42] (fm 44 2
 (.seq (.aV 3 (J [I 45 43,bm 46 6 41 43,bl 47 6 46,aC 9 (.new T.f (.agg #[cG,ak,ak,ak,ak,ak])),I 8 45,cc 6 9 47] (.seq (J [I 48 8,I 49 4,bj .eql T.a 50 48 49] (aB 50 (.eQ [I 51 5,I 52 8] (some 53) F.b [(ab 51),(ah 2),(ab 52),(ah 0)]) .skip)) (.eQ [I 54 1,af 55 0 9,ae 56 55,I 57 8] (some 58) F.s [(ab 54),(ab 56),(ah 2),(ab 57)])))) (fx T.a 59 43))))))) (J [af 61 2 2,ae 62 61,af 63 0 2,ae 64 63,aX 65 F.AG [62,64],I 60 65,bx 66 60 0,bx 67 60 1,I 4 66,I 5 67] (J [af 68 2 2,ae 69 68,bH 70 69,ag 71 (ah 0)] (.aV 4 (.loop (J [bj .lss T.a 72 71 70] (fm 72 4
 (.seq (.aV 5 (J [I 73 71,bm 74 6 69 71,bl 75 6 74,aC 11 (.new T.q (.agg #[cG,ak,ak,ak,ak,(.bool false)])),I 10 73,cc 6 11 75] (.seq (J [I 76 10,I 77 4,bj .eql T.a 78 76 77] (aB 78 (.eQ [I 79 5,I 80 10] (some 81) F.b [(ab 79),(ah 3),(ab 80),(ah 0)]) .skip)) (.eQ [I 82 1,af 83 0 11,ae 84 83,I 85 10] (some 86) F.s [(ab 82),(ab 84),(ah 3),(ab 85)])))) (fx T.a 87 71))))))))))))))⟩
theorem E.bQ:jm Tryz.prog F.bQ=some C.bQ:=by kernel_rfl
def C.ny:kY:=⟨105,[], (J [aC 2 (.box T.b (ab 0))] (J [aC 18 .oR,I 4 18] (.seq (J [I 19 1,aC 20 (.raw (.range T.a3 (ab 19)) T.p7)] (.aV 0 (.loop (J [aC 21 (.raw (.next (ab 20) false) T.p7),bx 22 21 0] (fm 22 0
 (.aV 1 (J [aC 23 (.raw (.entry (ab 20)) T.p7),bx 24 23 0,I 5 24] (.bC [I 25 4,I 26 5,hS (.hZ .string (ab 25) (ab 26) (bS true))])))))))) (.seq (J [af 27 3 2,ae 28 27,bH 29 28,ag 30 (ah 0)] (.aV 2 (.loop (J [bj .lss T.a 31 30 29] (fm 31 2
 (.seq (.aV 3 (J [bm 32 5 28 30,bl 33 5 32,aC 7 (.new T.g (.agg #[cG,ak,ak,aM,aM])),cc 5 7 33] (.bC [I 34 4,af 35 0 7,ae 36 35,hS (.hZ .string (ab 34) (ab 36) (bS true))]))) (fx T.a 37 30))))))) (.seq (J [af 38 3 2,ae 39 38,bH 40 39,ag 41 (ah 0)] (.aV 4 (.loop (J [bj .lss T.a 42 41 40] (fm 42 4
 (.seq (.aV 5 (J [I 43 41,bm 44 5 39 41,bl 45 5 44,aC 9 (.new T.g (.agg #[cG,ak,ak,aM,aM])),I 8 43,cc 5 9 45] (.seq (J [I 46 8,ax .geq T.a 47 46 6] (aB 47 (.eQ [I 48 8] (some 49) F.b [(ah 11),(ah 4),(ab 48),(ah 0)]) .skip)) (.seq (.dU (ao (bl 51 5 9) (ao (bl 52 5 2) (ao (I 53 8) (.alt (aX 54 F.xW [52,53]) (.b0 (aX 55 F.AH [51,54]) (ao (I 50 55) (ao (bx 56 50 0) (ao (bx 57 50 1) (ao (bx 58 50 2) (ao (I 10 56) (ao (I 11 57) (ao (I 12 58) .done))))))) .nil) .nil))))) (.seq (.eQ [I 59 12,I 60 8,I 61 10,aY 62 (.bin .mul T.a (ah 16) (ab 61)),I 63 11,bj .add T.a 64 62 63] (some 65) F.b [(ab 59),(ah 4),(ab 60),(ab 64)]) (.seq (.eQ [I 66 1,af 67 0 9,ae 68 67,I 69 8] (some 70) F.s [(ab 66),(ab 68),(ah 4),(ab 69)]) (J [af 71 3 9,ae 72 71,bH 73 72,ag 74 (ah 0)] (.aV 6 (.loop (J [bj .lss T.a 75 74 73] (fm 75 6
 (.seq (.aV 7 (J [I 76 74,bm 77 6 72 74,bl 78 6 77,aC 14 (.new T.f (.agg #[cG,ak,ak,ak,ak,ak])),I 13 76,cc 6 14 78] (J [I 79 4,af 80 0 14,ae 81 80,lF 82 (.lp .string (.bool false) false (ab 79) (ab 81))] (aB 82 (.eQ [I 83 8,I 84 13,aY 85 (.bin .add T.a (ah 16) (ab 84))] (some 86) F.b [(ah 7),(ah 4),(ab 83),(ab 85)]) .skip)))) (fx T.a 87 74))))))))))))) (fx T.a 88 41))))))) (J [bl 90 5 2,aX 91 F.jQ [90],I 89 91,bx 92 89 0,bx 93 89 1,bx 94 89 2,I 15 92,I 16 93,I 17 94] (J [I 95 15,ax .gtr T.a 96 95 12,I 97 96,ar 97 (I 98 17),ar 97 (ax .gtr T.a 99 98 64),cg 100 97 99] (aB 100 (.eQ [af 101 3 2,ae 102 101,bH 103 102] (some 104) F.b [(ah 11),(ah 4),(ab 103),(ah 0)]) .skip))))))))⟩
theorem E.ny:jm Tryz.prog F.ny=some C.ny:=by kernel_rfl
def C.pf:kY:=⟨51,[], (J [aC 2 (.box T.b (ab 0))] (J [bl 9 5 2,db 10 (.fn F.xW [(ab 9),(ah (-1))]),aC 4 (.new T.d (.agg #[aM,aM,aM,aM,aM,ak])),cc 6 4 10] (J [af 11 4 2,ae 12 11,bH 13 12,ag 14 (ah 0)] (.aV 0 (.loop (J [bj .lss T.a 15 14 13] (fm 15 0
 (.seq (.aV 1 (J [I 16 14,bm 17 2 12 14,bl 18 2 17,aC 6 (.new T.ox (.agg #[cG,aM])),I 5 16,cc 2 6 18] (.seq (.aV 2 (J [I 20 5,ax .geq T.a 21 20 8,I 19 21] (aB 19 (.eQ [I 22 5] (some 23) F.b [(ah 11),(ah 5),(ab 22),(ah 0)]) (J [af 25 0 6,ae 26 25,aX 27 F.t [26],aY 28 (.un .not (ab 27)),I 24 28] (aB 24 (.eQ [I 29 5] (some 30) F.b [(ah 6),(ah 5),(ab 29),(ah 0)]) .skip))))) (.seq (.eQ [I 31 1,af 32 0 6,ae 33 32,I 34 5] (some 35) F.s [(ab 31),(ab 33),(ah 5),(ab 34)]) (J [af 37 1 6,ae 38 37,bl 39 6 4,aX 40 F.xX [38,39],I 36 40,bx 41 36 0,bx 42 36 1,I 7 41,I 8 42] (.seq (.eQ [I 43 8,I 44 5] (some 45) F.b [(ab 43),(ah 5),(ab 44),(ah 0)]) (J [I 46 7,ax .neq T.a 47 46 1] (aB 47 (.eQ [I 48 5] (some 49) F.b [(ah 9),(ah 5),(ab 48),(ah 0)]) .skip)))))))) (fx T.a 50 14)))))))))⟩
theorem E.pf:jm Tryz.prog F.pf=some C.pf:=by kernel_rfl
theorem E.wW:bD F.wW ⟨63,[.hC 4 2], (J [aC 1 (.box T.b (ab 0)),aC 2 (.new T.t (.agg #[ak,ak,ak,ak]))] (J [bl 10 5 1,aX 11 F.Cp [10],aC 3 (.new T.t (.agg #[ak,ak,ak,ak])),cc 4 3 11] (.seq (J [ag 4 (ah 0)] (.aV 0 (.loop (.seq (J [I 12 4,af 13 3 1,ae 14 13,bH 15 14,bj .lss T.a 16 12 15,I 17 16,aW 17 (af 18 0 3),aW 17 (ae 19 18),aW 17 (ax .eql T.e 20 19 0),dp 21 17 20] (aB 21 .skip (.exit 0))) (.seq (.aV 1 (.bC [bl 24 5 1,I 25 4,aX 26 F.Cq [24,25],cc 4 3 26])) (.bC [I 22 4,ax .add T.a 23 22 1,I 4 23])))))) (.seq (J [af 27 0 3,ae 28 27,ax .neq T.e 29 28 0] (aB 29 (J [bl 30 4 3,cc 4 2 30] .ret) .skip)) (J [bl 32 5 1,aX 33 F.Co [32],I 31 33,bx 34 31 0,bx 35 31 1,bx 36 31 2,I 5 34,I 6 35,I 7 36] (.seq (J [I 37 5,ax .gtr T.a 38 37 12,I 39 38,ar 39 (I 40 7),ar 39 (ax .gtr T.a 41 40 64),cg 42 39 41] (aB 42 (J [af 43 3 1,ae 44 43,bH 45 44,aY 46 (.cA [ak,ak,ak,ak] [(0,1),(1,1),(2,1),(3,1)] [(0,(ah 11)),(1,(ah 4)),(2,(ab 45))]),cc 4 2 46] .ret) .skip)) (.seq (J [ag 8 (ah 0)] (.aV 2 (.loop (.seq (J [I 47 8,af 48 4 1,ae 49 48,bH 50 49,bj .lss T.a 51 47 50] (aB 51 .skip (.exit 2))) (.seq (.aV 3 (J [bl 54 5 1,I 55 8,aX 56 F.Cr [54,55],I 9 56] (J [I 57 9,ax .neq T.e 58 57 0] (aB 58 (J [I 59 9,I 60 8,aY 61 (.cA [ak,ak,ak,ak] [(0,1),(1,1),(2,1),(3,1)] [(0,(ab 59)),(1,(ah 5)),(2,(ab 60))]),cc 4 2 61] .ret) .skip)))) (.bC [I 52 8,ax .add T.a 53 52 1,I 8 53])))))) (J [aY 62 (.cA [ak,ak,ak,ak] [(0,1),(1,1),(2,1),(3,1)] []),cc 4 2 62] .ret))))))))⟩:=bE (by kernel_rfl)
theorem E.Cx:bD F.Cx ⟨82,[.tmp 6], (J [aC 3 (.box T.b (ab 0)),ag 6 (bS false)] (J [af 11 2 3,ae 12 11,I 13 2,bm 14 6 12 13,bl 15 6 14,aC 7 (.new T.q (.agg #[cG,ak,ak,ak,ak,(.bool false)])),cc 6 7 15] (.seq (.seq (.dO [I 16 1,aY 17 (.hv 1 (ab 16) (ah 0)),ae 18 17,ax .lss T.a 19 18 0,I 20 19,ar 20 (I 21 1),ar 20 (aY 22 (.hv 1 (ab 21) (ah 0))),ar 20 (ae 23 22),ar 20 (af 24 2 7),ar 20 (ae 25 24),ar 20 (bj .gtr T.a 26 23 25),cg 27 20 26]) (aB 27 (J [ag 6 (bS false)] .ret) .skip)) (J [af 29 1 7,ae 30 29,af 31 3 7,ae 32 31,af 33 4 7,ae 34 33,aY 35 (.cA [cG,ak,ak,ak,ak,ak] [(0,1),(1,1),(2,1),(3,1),(4,1),(5,1)] [(1,(ab 30)),(3,(ab 32)),(4,(ab 34))]),af 36 0 3,ae 37 36,aX 38 F.wT [35,37],I 28 38,bx 39 28 0,bx 40 28 1,I 8 39,I 9 40] (.seq (J [ag 10 (ah 1)] (.aV 0 (.loop (.seq (J [I 41 10,af 42 2 7,ae 43 42,bj .leq T.a 44 41 43] (aB 44 .skip (.exit 0))) (.seq (.aV 1 (J [I 47 10,I 48 1,aY 49 (.hv 1 (ab 48) (ah 0)),ae 50 49,bj .leq T.a 51 47 50,I 52 51,aW 52 (I 53 1),aW 52 (I 54 10),aW 52 (bm 55 1 53 54),aW 52 (ae 56 55),aW 52 (I 57 8),aW 52 (bj .lss T.a 58 56 57),aW 52 (I 59 58),ar 59 (I 60 1),ar 59 (I 61 10),ar 59 (bm 62 1 60 61),ar 59 (ae 63 62),ar 59 (I 64 9),ar 59 (bj .gtr T.a 65 63 64),aW 52 (cg 66 59 65),dp 67 52 66,I 68 67,ar 68 (I 69 10),ar 68 (I 70 1),ar 68 (aY 71 (.hv 1 (ab 70) (ah 0))),ar 68 (ae 72 71),ar 68 (bj .gtr T.a 73 69 72),ar 68 (I 74 73),aW 74 (I 75 1),aW 74 (I 76 10),aW 74 (bm 77 1 75 76),aW 74 (ae 78 77),aW 74 (ax .neq T.a 79 78 0),ar 68 (dp 80 74 79),cg 81 68 80] (aB 81 (J [ag 6 (bS false)] .ret) .skip))) (.bC [I 45 10,ax .add T.a 46 45 1,I 10 46])))))) (J [ag 6 (bS true)] .ret))))))⟩:=bE (by kernel_rfl)
theorem E.Cy:bD F.Cy ⟨34,[.tmp 4], (J [aC 2 (.box T.i (ab 0)),ag 4 (bS false)] (.seq (J [ag 5 (ah 0)] (.aV 0 (.loop (.seq (J [I 6 5,af 7 3 2,ae 8 7,bj .lss T.a 9 6 8] (aB 9 .skip (.exit 0))) (.seq (.aV 1 (.seq (.dO [I 12 1,I 13 5,bm 14 1 12 13,ae 15 14,af 16 4 2,ae 17 16,I 18 5,bm 19 1 17 18,ae 20 19,bj .lss T.a 21 15 20,I 22 21,ar 22 (I 23 1),ar 22 (I 24 5),ar 22 (bm 25 1 23 24),ar 22 (ae 26 25),ar 22 (af 27 5 2),ar 22 (ae 28 27),ar 22 (I 29 5),ar 22 (bm 30 1 28 29),ar 22 (ae 31 30),ar 22 (bj .gtr T.a 32 26 31),cg 33 22 32]) (aB 33 (J [ag 4 (bS false)] .ret) .skip))) (.bC [I 10 5,ax .add T.a 11 10 1,I 5 11])))))) (J [ag 4 (bS true)] .ret)))⟩:=bE (by kernel_rfl)
theorem E.Cu:bD F.Cu ⟨7,[.tmp 2], (J [aC 1 (.box T.b (ab 0)),ag 2 (bS false)] (J [bl 3 5 1,aX 4 F.wW [3],aY 5 (.ki 0 (ab 4)),ax .eql T.e 6 5 0,I 2 6] .ret))⟩:=bE (by kernel_rfl)
theorem E.zc:bD F.zc ⟨99,[.hC 6 2], (J [aC 1 (.box T.b (ab 0)),aC 2 (.new T.i (.agg #[aM,aM,aM,ak,aM,aM]))] (J [aY 6 (.cA [aM,aM,aM,ak,aM,aM] [(0,1),(1,1),(2,1),(3,1),(4,1),(5,1)] []),aC 3 (.new T.i (.agg #[aM,aM,aM,ak,aM,aM])),cc 6 3 6] (J [bl 7 5 1,aX 8 F.Cs [7],I 4 8] (.seq (J [ag 5 (ah 0)] (.aV 0 (.loop (.seq (J [I 9 5,I 10 4,bH 11 10,bj .lss T.a 12 9 11] (aB 12 .skip (.exit 0))) (.seq (.aV 1 (.seq (J [I 15 4,I 16 5,bm 17 6 15 16,af 18 2 17,ae 19 18,ax .eql T.a 20 19 0,I 21 20,aW 21 (I 22 4),aW 21 (I 23 5),aW 21 (bm 24 6 22 23),aW 21 (af 25 0 24),aW 21 (ae 26 25),aW 21 (ax .eql T.a 27 26 1),dp 28 21 27] (aB 28 (.bC [af 29 0 3,ae 30 29,I 31 5,aC 32 (.cQ T.a 1 1 [ak] [(0,(ab 31))]),aC 33 (.app T.c T.a 1 8 (ab 30) (ab 32)),af 34 0 3,ys 34 33]) .skip)) (.seq (J [I 35 4,I 36 5,bm 37 6 35 36,af 38 2 37,ae 39 38,ax .eql T.a 40 39 0,I 41 40,aW 41 (I 42 4),aW 41 (I 43 5),aW 41 (bm 44 6 42 43),aW 41 (af 45 0 44),aW 41 (ae 46 45),aW 41 (ax .eql T.a 47 46 2),dp 48 41 47] (aB 48 (.bC [af 49 1 3,ae 50 49,I 51 5,aC 52 (.cQ T.a 1 1 [ak] [(0,(ab 51))]),aC 53 (.app T.c T.a 1 8 (ab 50) (ab 52)),af 54 1 3,ys 54 53]) .skip)) (.seq (J [I 55 4,I 56 5,bm 57 6 55 56,af 58 2 57,ae 59 58,ax .eql T.a 60 59 0,I 61 60,aW 61 (I 62 4),aW 61 (I 63 5),aW 61 (bm 64 6 62 63),aW 61 (af 65 0 64),aW 61 (ae 66 65),aW 61 (ax .eql T.a 67 66 3),dp 68 61 67] (aB 68 (.bC [af 69 2 3,ae 70 69,I 71 5,aC 72 (.cQ T.a 1 1 [ak] [(0,(ab 71))]),aC 73 (.app T.c T.a 1 8 (ab 70) (ab 72)),af 74 2 3,ys 74 73]) .skip)) (.seq (.dU (ao (af 75 4 3) (ao (ae 76 75) (ao (I 77 4) (ao (I 78 5) (ao (bm 79 6 77 78) (ao (af 80 3 79) (ao (ae 81 80) (.alt (aC 82 (.cQ T.a 1 1 [ak] [(0,(ab 81))])) (.b0 (aC 83 (.app T.c T.a 1 8 (ab 76) (ab 82))) (ao (af 84 4 3) (.b0 (ys 84 83) .done .nil)) .nil) .nil))))))))) (.dU (ao (af 85 5 3) (ao (ae 86 85) (ao (I 87 4) (ao (I 88 5) (ao (bm 89 6 87 88) (ao (af 90 4 89) (ao (ae 91 90) (.alt (aC 92 (.cQ T.a 1 1 [ak] [(0,(ab 91))])) (.b0 (aC 93 (.app T.c T.a 1 8 (ab 86) (ab 92))) (ao (af 94 5 3) (.b0 (ys 94 93) .done .nil)) .nil) .nil)))))))))))))) (.bC [I 13 5,ax .add T.a 14 13 1,I 5 14])))))) (J [I 95 4,bH 96 95,af 97 3 3,ys 97 96] (J [bl 98 6 3,cc 6 2 98] .ret))))))⟩:=bE (by kernel_rfl)
theorem E.ph:bD F.ph ⟨21,[], (J [ag 4 (bS false)] (J [I 7 0,bH 8 7,ag 9 (ah 0)] (.aV 0 (.loop (J [bj .lss T.a 10 9 8] (fm 10 0
 (.seq (.aV 1 (J [bm 11 2 7 9,bl 12 2 11,aC 6 (.new T.k (.agg #[ak,ak])),cc 2 6 12] (J [I 13 1,bl 14 2 6,I 15 4,db 16 (.val (ab 13) [(ab 14),(ab 15)])] (.bC [af 17 0 6,ae 18 17,ax .eql T.a 19 18 5,I 4 19])))) (fx T.a 20 9))))))))⟩:=bE (by kernel_rfl)
theorem E.fN:bD F.fN ⟨77,[], (J [aC 4 (.box T.k (ab 0))] (J [af 8 0 4,ae 9 8] (.aV 0 (J [ax .eql T.a 11 9 2,I 10 11] (aB 10 (.bC [ae 12 2,ae 13 3,af 14 1 4,ae 15 14,db 16 (.fn F.g [(ab 12),(ab 13),(ab 15),(bS false),(bS false)])]) (J [ax .eql T.a 18 9 3,I 17 18] (aB 17 (.bC [ae 19 2,ae 20 3,af 21 1 4,ae 22 21,I 23 1,db 24 (.fn F.g [(ab 19),(ab 20),(ab 22),(bS true),(ab 23)])]) (J [ax .eql T.a 26 9 4,I 25 26] (aB 25 (.dU (ao (ae 27 3) (ao (ae 28 2) (ao (af 31 1 4) (ao (ae 32 31) (.alt (aX 29 F.f [28]) (ao (ax .add T.a 30 29 1) (ao (bj .add T.a 33 30 32) (.b0 (db 34 (.fn F.a [(ab 27),(ab 33),(ah 1)])) .done .nil))) .nil)))))) (J [ax .eql T.a 36 9 6,I 35 36] (aB 35 (.dU (ao (ae 37 3) (ao (ae 38 2) (ao (gO 39 38) (ao (af 40 5 39) (ao (af 41 1 40) (ao (ae 42 41) (ao (af 43 1 4) (ao (ae 44 43) (ao (bm 45 1 42 44) (ao (ae 46 45) (.b0 (db 47 (.fn F.a [(ab 37),(ab 46),(ah 1)])) .done .nil)))))))))))) (J [ax .eql T.a 49 9 7,I 48 49] (aB 48 (J [ae 50 2,gO 51 50,af 52 11 51,ae 53 52,bH 54 53,ag 55 (ah 0)] (.aV 1 (.loop (J [bj .lss T.a 56 55 54] (fm 56 1
 (.seq (.aV 2 (J [I 57 55,bm 58 2 53 55,bl 59 2 58,aC 7 (.new T.l (.agg #[ak,ak])),I 6 57,cc 2 7 59] (J [af 60 0 7,ae 61 60,af 62 1 4,ae 63 62,ax .quo T.a 64 63 16,bj .eql T.a 65 61 64] (aB 65 (.dU (ao (ae 66 3) (ao (ae 67 2) (ao (gO 68 67) (ao (af 69 5 68) (ao (af 70 2 69) (ao (ae 71 70) (ao (I 72 6) (ao (bm 73 1 71 72) (ao (ae 74 73) (.b0 (db 75 (.fn F.a [(ab 66),(ab 74),(ah 1)])) .done .nil))))))))))) .skip)))) (fx T.a 76 55))))))) .skip)))))))))))))⟩:=bE (by kernel_rfl)
theorem E.g:bD F.g ⟨56,[], (J [I 11 0,gO 12 11,af 13 5 12,af 14 0 13,ae 15 14,I 16 2,bm 17 1 15 16,ae 18 17,I 10 18] (.seq (J [I 19 3,I 20 19,aW 20 (I 21 4),dp 22 20 21] (aB 22 (.seq (.dU (ao (I 23 1) (ao (I 24 10) (ao (I 25 0) (ao (gO 26 25) (ao (af 27 11 26) (ao (ae 28 27) (ao (I 29 0) (ao (gO 30 29) (ao (af 31 12 30) (ao (ae 32 31) (ao (bm 33 2 28 32) (ao (af 34 1 33) (ao (ae 35 34) (ao (bj .add T.a 36 24 35) (ao (ax .sub T.a 37 36 1) (.b0 (db 38 (.fn F.a [(ab 23),(ab 37),(ah 1)])) .done .nil))))))))))))))))) .ret) .skip)) (.dU (ao (I 39 1) (ao (I 40 10) (ao (I 41 0) (ao (gO 42 41) (ao (af 43 0 42) (ao (af 44 1 43) (ao (ae 45 44) (ao (I 46 2) (ao (bm 47 6 45 46) (ao (bl 48 6 47) (ao (I 49 0) (ao (gO 50 49) (ao (af 51 0 50) (ao (af 52 0 51) (ao (ae 53 52) (.b0 (aX 54 F.r [48,53]) (.b0 (aX 55 F.a [39,40,54]) .done .nil) .nil)))))))))))))))))))⟩:=bE (by kernel_rfl)
theorem E.ow:bD F.ow ⟨26,[], (.dU (ao (I 6 1) (ao (I 7 0) (ao (gO 8 7) (ao (af 9 5 8) (ao (af 10 1 9) (ao (ae 11 10) (ao (I 12 2) (ao (bm 13 1 11 12) (ao (ae 14 13) (ao (I 15 0) (ao (gO 16 15) (ao (af 17 0 16) (ao (af 18 2 17) (ao (ae 19 18) (ao (I 20 2) (ao (bm 21 6 19 20) (ao (af 22 2 21) (ao (ae 23 22) (ao (aY 24 (.bin .add T.a (ah 1) (ab 23))) (.b0 (aX 25 F.a [6,14,24]) .done .nil)))))))))))))))))))))⟩:=bE (by kernel_rfl)
theorem E.CB:bD F.CB ⟨12,[.hC 13 4], (J [aC 2 (.box T.b (ab 0)),aC 3 (.box T.i (ab 1)),aC 4 (.new T.qz (.agg #[aM,aM,aM,aM,aM,aM,aM,aM,ak,aM,aM,aM,aM]))] (.seq (.dU (ao (bl 5 5 2) (ao (bl 6 6 3) (ao (bl 7 5 2) (ao (bl 9 5 2) (.alt (aX 8 F.sX [7]) (.alt (aX 10 F.Cj [9]) (ao (aY 11 (.cA [aM,aM,aM,aM,aM,aM,aM,aM,ak,aM,aM,aM,aM] [(0,5),(5,6),(11,1),(12,1)] [(0,(ab 5)),(1,(ab 6)),(2,(ab 8)),(3,(ab 10))])) (.b0 (cc 13 4 11) .done .nil)) .nil) .nil)))))) .ret))⟩:=bE (by kernel_rfl)
theorem E.wR:bD F.wR ⟨107,[.tmp 4,.tmp 5], (J [aC 3 (.box T.v (ab 1)),ag 4 (ah 0),ag 5 (ah 0)] (.seq (J [I 12 0,bH 13 12,ax .gtr T.a 14 13 24] (aB 14 (J [ag 4 (ah 0),ag 5 (ah 5)] .ret) .skip)) (.seq (J [I 15 0,bH 16 15,ax .eql T.a 17 16 0] (aB 17 (J [ag 4 (ah 0),ag 5 (ah 4)] .ret) .skip)) (J [ag 6 (.const aM)] (.seq (J [ag 7 (ah 0)] (.aV 0 (.loop (.seq (J [I 18 7,I 19 0,bH 20 19,bj .lss T.a 21 18 20] (aB 21 .skip (.exit 0))) (.seq (.aV 1 (J [I 24 0,I 25 7,bm 26 2 24 25,af 27 0 26,ae 28 27,aX 29 F.y8 [28],I 8 29] (J [I 30 6,bH 31 30,I 9 31] (.seq (J [I 32 8,ax .lss T.a 33 32 0] (aB 33 (J [ag 4 (ah 0),ag 5 (ah 3)] .ret) .skip)) (.seq (J [I 34 9,I 35 8,bj .lss T.a 36 34 35] (aB 36 (J [ag 4 (ah 0),ag 5 (ah 4)] .ret) .skip)) (J [ag 10 (ah 0)] (J [ag 11 (ah 0)] (.seq (J [I 37 8,ax .eql T.a 38 37 0] (aB 38 (.dO [I 40 0,I 41 7,bm 42 2 40 41,bl 43 2 42,bl 44 5 3,aX 45 F.Ca [43,44],I 39 45,bx 46 39 0,bx 47 39 1,I 10 46,I 11 47]) .skip)) (.seq (J [I 48 8,ax .eql T.a 49 48 1] (aB 49 (.dO [I 51 0,I 52 7,bm 53 2 51 52,bl 54 2 53,I 55 6,I 56 9,ax .sub T.a 57 56 1,bm 58 1 55 57,ae 59 58,bl 60 5 3,aX 61 F.B6 [54,59,60],I 50 61,bx 62 50 0,bx 63 50 1,I 10 62,I 11 63]) .skip)) (.seq (J [I 64 8,ax .eql T.a 65 64 2] (aB 65 (.dO [I 67 0,I 68 7,bm 69 2 67 68,af 70 0 69,ae 71 70,I 72 6,I 73 9,ax .sub T.a 74 73 2,bm 75 1 72 74,ae 76 75,I 77 6,I 78 9,ax .sub T.a 79 78 1,bm 80 1 77 79,ae 81 80,aX 82 F.B5 [71,76,81],I 66 82,bx 83 66 0,bx 84 66 1,I 10 83,I 11 84]) .skip)) (.seq (J [I 85 11,ax .neq T.e 86 85 0] (aB 86 (J [I 87 11,ag 4 (ah 0),I 5 87] .ret) .skip)) (J [aC 88 (.cQ T.a 0 1 [] []),I 89 6,I 90 9,I 91 8,bj .sub T.a 92 90 91,aY 93 (.iH 1 (ab 89) none (some (ab 92)) none),aC 94 (.app T.c T.a 1 8 (ab 88) (ab 93)),I 95 10,aC 96 (.cQ T.a 1 1 [ak] [(0,(ab 95))]),aC 97 (.app T.c T.a 1 8 (ab 94) (ab 96)),I 6 97] (J [I 98 6,bH 99 98,ax .gtr T.a 100 99 12] (aB 100 (J [ag 4 (ah 0),ag 5 (ah 12)] .ret) .skip)))))))))))))) (.bC [I 22 7,ax .add T.a 23 22 1,I 7 23])))))) (.seq (J [I 101 6,bH 102 101,ax .gtr T.a 103 102 1] (aB 103 (J [ag 4 (ah 0),ag 5 (ah 5)] .ret) .skip)) (J [I 104 6,aY 105 (.hv 1 (ab 104) (ah 0)),ae 106 105,I 4 106,ag 5 (ah 0)] .ret)))))))⟩:=bE (by kernel_rfl)
theorem E.ze:bD F.ze ⟨129,[.hC 5 8], (J [aC 4 (.box T.b (ab 0)),aC 5 (.box T.i (ab 1)),aC 8 (.new T.v (.agg #[aM,aM,aM,aM,ak]))] (J [bl 17 5 4,aX 18 F.sX [17],I 9 18] (J [aY 19 (.cA [aM,aM,aM,aM,ak] [(0,1),(1,1),(2,1),(3,1),(4,1)] []),aC 10 (.new T.v (.agg #[aM,aM,aM,aM,ak])),cc 5 10 19] (.seq (J [ag 11 (ah 0)] (.aV 0 (.loop (.seq (J [I 20 11,af 21 1 4,ae 22 21,bH 23 22,bj .lss T.a 24 20 23] (aB 24 .skip (.exit 0))) (.seq (.aV 1 (.seq (.dO [af 27 1 4,ae 28 27,I 29 11,bm 30 6 28 29,bl 31 6 30,af 32 0 4,ae 33 32,aX 34 F.wU [31,33],I 12 34]) (.dU (ao (af 35 0 10) (ao (ae 36 35) (ao (I 38 2) (ao (af 39 0 5) (ao (ae 40 39) (ao (I 41 11) (ao (bm 42 1 40 41) (ao (ae 43 42) (ao (af 44 0 5) (ao (ae 45 44) (ao (I 46 11) (ao (bm 47 1 45 46) (ao (ae 48 47) (ao (I 49 12) (ao (bj .add T.a 50 48 49) (ao (aY 51 (.iH 1 (ab 38) (some (ab 43)) (some (ab 50)) none)) (.alt (aC 37 (.cQ T.a 0 1 [] [])) (.alt (aC 52 (.app T.c T.a 1 8 (ab 37) (ab 51))) (.alt (aC 53 (.cQ T.c 1 1 [aM] [(0,(ab 52))])) (.b0 (aC 54 (.app T.OG T.c 1 24 (ab 36) (ab 53))) (ao (af 55 0 10) (.b0 (ys 55 54) .done .nil)) .nil) .nil) .nil) .nil)))))))))))))))))))) (.bC [I 25 11,ax .add T.a 26 25 1,I 11 26])))))) (.seq (J [ag 13 (ah 0)] (.aV 2 (.loop (.seq (J [I 56 13,af 57 2 4,ae 58 57,bH 59 58,bj .lss T.a 60 56 59] (aB 60 .skip (.exit 2))) (.seq (.aV 3 (.dU (ao (af 63 1 10) (ao (ae 64 63) (ao (I 65 2) (ao (af 66 1 5) (ao (ae 67 66) (ao (I 68 13) (ao (bm 69 1 67 68) (ao (ae 70 69) (ao (bm 71 1 65 70) (ao (ae 72 71) (.alt (aC 73 (.cQ T.a 1 1 [ak] [(0,(ab 72))])) (.b0 (aC 74 (.app T.c T.a 1 8 (ab 64) (ab 73))) (ao (af 75 1 10) (.b0 (ys 75 74) .done .nil)) .nil) .nil))))))))))))) (.bC [I 61 13,ax .add T.a 62 61 1,I 13 62])))))) (.seq (J [ag 14 (ah 0)] (.aV 4 (.loop (.seq (J [I 76 14,af 77 3 4,ae 78 77,bH 79 78,bj .lss T.a 80 76 79] (aB 80 .skip (.exit 4))) (.seq (.aV 5 (.dU (ao (af 83 3 10) (ao (ae 84 83) (ao (bl 85 5 4) (ao (bl 86 6 5) (ao (I 87 2) (ao (I 88 14) (.alt (aX 89 F.Cw [85,86,87,88]) (.alt (aC 90 (.cQ T.c 1 1 [aM] [(0,(ab 89))])) (.b0 (aC 91 (.app T.OG T.c 1 24 (ab 84) (ab 90))) (ao (af 92 3 10) (.b0 (ys 92 91) .done .nil)) .nil) .nil) .nil))))))))) (.bC [I 81 14,ax .add T.a 82 81 1,I 14 82])))))) (.seq (J [I 93 3,ax .geq T.a 94 93 0] (aB 94 (J [af 95 2 5,ae 96 95,I 97 3,bm 98 1 96 97,ae 99 98,ax .add T.a 100 99 1,I 15 100] (.seq (.dO [af 101 3 4,ae 102 101,I 103 9,I 104 3,bm 105 2 103 104,af 106 0 105,ae 107 106,bm 108 5 102 107,af 109 3 108,ae 110 109,bH 111 110,I 16 111]) (.seq (.dU (ao (af 112 2 10) (ao (ae 113 112) (ao (I 114 2) (ao (I 115 15) (ao (I 116 15) (ao (I 117 16) (ao (bj .add T.a 118 116 117) (ao (aY 119 (.iH 1 (ab 114) (some (ab 115)) (some (ab 118)) none)) (.b0 (aC 120 (.app T.c T.a 1 8 (ab 113) (ab 119))) (ao (af 121 2 10) (.b0 (ys 121 120) .done .nil)) .nil)))))))))) (.bC [I 122 9,I 123 3,bm 124 2 122 123,af 125 1 124,ae 126 125,af 127 4 10,ys 127 126])))) .skip)) (J [bl 128 5 10,cc 5 8 128] .ret))))))))⟩:=bE (by kernel_rfl)
theorem E.CG:bD F.CG ⟨201,[.tmp 8,.tmp 9], (J [aC 4 (.box T.qz (ab 0)),aC 7 (.box T.n (ab 3)),ag 8 (.const aM),ag 9 (bS false)] (.seq (J [af 23 0 7,ae 24 23,ax .eql T.a 25 24 5] (aB 25 (J [bl 27 13 4,I 28 1,af 29 1 7,ae 30 29,aX 31 F.wZ [27,28,30],aX 32 F.CA [31],I 26 32,bx 33 26 0,bx 34 26 1,bx 35 26 2,I 10 33,I 11 34,I 12 35] (.seq (J [I 36 12,aY 37 (.un .not (ab 36))] (aB 37 (J [ag 8 (.const aM),ag 9 (bS false)] .ret) .skip)) (.seq (.dU (ao (bl 38 13 4) (ao (bl 39 13 4) (ao (I 40 1) (ao (af 41 1 7) (ao (ae 42 41) (ao (I 43 10) (ao (af 45 5 4) (ao (af 46 2 45) (ao (ae 47 46) (ao (I 48 2) (ao (bm 49 1 47 48) (ao (ae 50 49) (ao (ax .add T.a 51 50 1) (ao (af 52 2 7) (ao (ae 53 52) (ao (bj .add T.a 54 51 53) (ao (I 55 11) (.alt (aX 44 F.w2 [39,40,42,43]) (.b0 (aX 56 F.uV [38,44,54,55]) (ao (bx 57 56 0) (ao (bx 58 56 1) (ao (I 8 57) (ao (I 9 58) .done)))) .nil) .nil))))))))))))))))))) .ret))) .skip)) (J [af 59 0 4,bl 60 5 59,af 61 5 4,bl 62 6 61,I 63 1,I 64 2,aX 65 F.ze [60,62,63,64],aC 13 (.new T.v (.agg #[aM,aM,aM,aM,ak])),cc 5 13 65] (J [af 67 4 7,ae 68 67,bl 69 5 13,aX 70 F.wR [68,69],I 66 70,bx 71 66 0,bx 72 66 1,I 14 71,I 15 72] (.seq (J [I 73 15,ax .neq T.e 74 73 0] (aB 74 (J [ag 8 (.const aM),ag 9 (bS false)] .ret) .skip)) (.seq (J [af 75 0 7,ae 76 75] (.aV 0 (J [ax .eql T.a 78 76 1,I 77 78] (aB 77 (.seq (.dU (ao (bl 79 13 4) (ao (I 80 1) (ao (af 81 5 4) (ao (af 82 0 81) (ao (ae 83 82) (ao (af 84 1 7) (ao (ae 85 84) (ao (bm 86 1 83 85) (ao (ae 87 86) (ao (I 88 14) (.b0 (aX 89 F.uV [79,80,87,88]) (ao (bx 90 89 0) (ao (bx 91 89 1) (ao (I 8 90) (ao (I 9 91) .done)))) .nil)))))))))))) .ret) (J [ax .eql T.a 93 76 2,I 92 93] (aB 92 (J [af 95 3 7,ae 96 95,bl 97 5 13,aX 98 F.wR [96,97],I 94 98,bx 99 94 0,bx 100 94 1,I 16 99,I 17 100] (.seq (J [I 101 17,ax .neq T.e 102 101 0,I 103 102,ar 103 (I 104 16),ar 103 (ax .lss T.a 105 104 1),cg 106 103 105,I 107 106,ar 107 (I 108 16),ar 107 (af 109 0 13),ar 107 (ae 110 109),ar 107 (af 111 1 7),ar 107 (ae 112 111),ar 107 (bm 113 1 110 112),ar 107 (ae 114 113),ar 107 (bH 115 114),ar 107 (bj .gtr T.a 116 108 115),cg 117 107 116] (aB 117 (J [ag 8 (.const aM),ag 9 (bS false)] .ret) .skip)) (.seq (.dU (ao (bl 118 13 4) (ao (I 119 1) (ao (af 120 5 4) (ao (af 121 0 120) (ao (ae 122 121) (ao (af 123 1 7) (ao (ae 124 123) (ao (bm 125 1 122 124) (ao (ae 126 125) (ao (I 127 16) (ao (bj .add T.a 128 126 127) (ao (ax .sub T.a 129 128 1) (ao (I 130 14) (.b0 (aX 131 F.uV [118,119,129,130]) (ao (bx 132 131 0) (ao (bx 133 131 1) (ao (I 8 132) (ao (I 9 133) .done)))) .nil))))))))))))))) .ret))) (J [ax .eql T.a 135 76 3,I 134 135] (aB 134 (.seq (.dU (ao (bl 136 13 4) (ao (I 137 1) (ao (af 138 5 4) (ao (af 139 2 138) (ao (ae 140 139) (ao (I 141 2) (ao (bm 142 1 140 141) (ao (ae 143 142) (ao (ax .add T.a 144 143 1) (ao (af 145 1 7) (ao (ae 146 145) (ao (bj .add T.a 147 144 146) (ao (I 148 14) (.b0 (aX 149 F.uV [136,137,147,148]) (ao (bx 150 149 0) (ao (bx 151 149 1) (ao (I 8 150) (ao (I 9 151) .done)))) .nil))))))))))))))) .ret) .skip)))))))) (J [af 152 0 4,af 153 2 152,ae 154 153,af 155 1 7,ae 156 155,bm 157 6 154 156,bl 158 6 157,aC 18 (.new T.q (.agg #[cG,ak,ak,ak,ak,(.bool false)])),cc 6 18 158] (.seq (.dO [af 159 3 18,ae 160 159,af 161 4 18,ae 162 161,I 19 160,I 20 162]) (.seq (J [af 163 1 18,ae 164 163,ax .gtr T.a 165 164 0] (aB 165 (.dO [af 166 0 4,af 167 0 166,ae 168 167,af 169 1 18,ae 170 169,ax .sub T.a 171 170 1,bm 172 2 168 171,af 173 1 172,ae 174 173,ag 19 (ah 0),I 20 174]) .skip)) (.seq (J [I 175 14,I 176 19,bj .lss T.a 177 175 176,I 178 177,ar 178 (I 179 14),ar 178 (I 180 20),ar 178 (bj .gtr T.a 181 179 180),cg 182 178 181] (aB 182 (J [ag 8 (.const aM),ag 9 (bS false)] .ret) .skip)) (J [bl 184 13 4,I 185 1,af 186 1 7,ae 187 186,aX 188 F.wZ [184,185,187],I 189 14,aX 190 F.Cz [188,189],I 183 190,bx 191 183 0,bx 192 183 1,I 21 191,I 22 192] (.seq (J [I 193 22,aY 194 (.un .not (ab 193))] (aB 194 (J [ag 8 (.const aM),ag 9 (bS false)] .ret) .skip)) (J [bl 195 13 4,I 196 1,af 197 1 7,ae 198 197,I 199 21,aX 200 F.w2 [195,196,198,199],I 8 200,ag 9 (bS true)] .ret)))))))))))))⟩:=bE (by kernel_rfl)
theorem E.zi:bD F.zi ⟨16,[.tmp 6], (J [ag 6 (.const aM)] (J [aC 8 (.cQ T.a 0 1 [] []),I 9 0,aC 10 (.app T.c T.a 1 8 (ab 8) (ab 9)),I 7 10] (J [I 11 7,I 12 1,I 13 2,bm 14 1 11 12,ys 14 13] (J [I 15 7,I 6 15] .ret))))⟩:=bE (by kernel_rfl)
theorem E.AA:bD F.AA ⟨52,[.tmp 8,.tmp 9], (J [ag 8 (ah 0),ag 9 (ah 0)] (.seq (.aV 0 (J [I 14 1,bH 15 14,ax .gtr T.a 16 15 24,I 13 16] (aB 13 (J [ag 8 (ah 0),ag 9 (ah 5)] .ret) (J [I 18 1,bH 19 18,ax .eql T.a 20 19 0,I 17 20] (aB 17 (J [ag 8 (ah 0),ag 9 (ah 4)] .ret) .skip))))) (J [I 21 0,aX 22 F.AI [],gO 23 21,af 24 1 23,ys 24 22] (.seq (J [I 25 1,bH 26 25,ag 27 (ah 0)] (.aV 1 (.loop (J [bj .lss T.a 28 27 26] (fm 28 1
 (.seq (.aV 2 (J [bm 29 2 25 27,bl 30 2 29,aC 11 (.new T.k (.agg #[ak,ak])),cc 2 11 30] (J [I 31 0,bl 32 2 11,I 33 2,I 34 3,aX 35 F.AJ [31,32,33,34],I 12 35] (J [I 36 12,ax .neq T.e 37 36 0] (aB 37 (J [I 38 12,ag 8 (ah 0),I 9 38] .ret) .skip))))) (fx T.a 39 27))))))) (.seq (J [I 40 0,gO 41 40,af 42 0 41,ae 43 42,bH 44 43,ax .gtr T.a 45 44 1] (aB 45 (J [ag 8 (ah 0),ag 9 (ah 5)] .ret) .skip)) (J [I 46 0,gO 47 46,af 48 0 47,ae 49 48,aY 50 (.hv 1 (ab 49) (ah 0)),ae 51 50,I 8 51,ag 9 (ah 0)] .ret))))))⟩:=bE (by kernel_rfl)
theorem E.AB:bD F.AB ⟨7,[.tmp 2], (J [aC 1 (.box T.b (ab 0)),ag 2 (bS false)] (J [bl 3 5 1,aX 4 F.y [3],aY 5 (.ki 0 (ab 4)),ax .eql T.e 6 5 0,I 2 6] .ret))⟩:=bE (by kernel_rfl)
theorem E.AD:bD F.AD ⟨142,[.hC 6 2,.tmp 3], (J [aC 1 (.box T.b (ab 0)),aC 2 (.new T.i (.agg #[aM,aM,aM,ak,aM,aM])),ag 3 (.const aM)] (J [aC 4 (.new T.i (.agg #[aM,aM,aM,ak,aM,aM]))] (J [aC 5 (.new T.ac aM)] (J [aY 20 (.j0 F.ox [] [(ab 4),(ab 5)]),I 6 20] (.seq (J [af 21 1 1,ae 22 21,bH 23 22,ag 24 (ah 0)] (.aV 0 (.loop (J [bj .lss T.a 25 24 23] (fm 25 0
 (.seq (.aV 1 (J [I 26 24,bm 27 6 22 24,bl 28 6 27,aC 8 (.new T.f (.agg #[cG,ak,ak,ak,ak,ak])),I 7 26,cc 6 8 28] (J [ag 9 (.const aM)] (.seq (J [bl 29 6 8,af 30 0 1,ae 31 30,aX 32 F.r [29,31],ag 33 (ah 0)] (.aV 2 (.loop (J [bj .lss T.a 34 33 32] (fm 34 2
 (.seq (.aV 3 (.bC [I 35 9,bl 36 6 8,af 37 0 1,ae 38 37,aX 39 F.am [36,38],aC 40 (.cQ T.j 1 3 [ak,ak,ak] [(0,(ab 39))]),aC 41 (.app T.xT T.j 3 24 (ab 35) (ab 40)),I 9 41])) (fx T.a 42 33))))))) (.dU (.wide (ao (af 43 0 4) (ao (ae 44 43) (ao (I 45 6) (ao (I 46 7) (ao (I 47 9) (.alt (db 48 (.val (ab 45) [(ah 1),(ab 46),(ab 47)])) (.alt (aC 49 (.cQ T.a 1 1 [ak] [(0,(ab 48))])) (.b0 (aC 50 (.app T.c T.a 1 8 (ab 44) (ab 49))) (ao (af 51 0 4) (.b0 (ys 51 50) .done .nil)) .nil) .nil) .nil)))))))))))) (fx T.a 52 24))))))) (.seq (J [af 53 2 1,ae 54 53,bH 55 54,ag 56 (ah 0)] (.aV 4 (.loop (J [bj .lss T.a 57 56 55] (fm 57 4
 (.seq (.aV 5 (J [I 58 56,bm 59 6 54 56,bl 60 6 59,aC 11 (.new T.q (.agg #[cG,ak,ak,ak,ak,(.bool false)])),I 10 58,cc 6 11 60] (J [af 61 2 11,ae 62 61,aY 63 (.cA [ak,ak,ak] [(0,1),(1,1),(2,1)] [(1,(ab 62))]),aC 64 (.cQ T.j 1 3 [ak,ak,ak] [(0,(ab 63))]),I 12 64] (J [af 65 1 11,ae 66 65,af 67 3 11,ae 68 67,aY 69 (.s0 (ab 68) (ah 0)),af 70 4 11,ae 71 70,aY 72 (.rD (ab 71) (ah 0)),aY 73 (.cA [cG,ak,ak,ak,ak,ak] [(0,1),(1,1),(2,1),(3,1),(4,1),(5,1)] [(1,(ab 66)),(3,(ab 69)),(4,(ab 72))]),af 74 0 1,ae 75 74,aX 76 F.am [73,75],aC 13 (.new T.j (.agg #[ak,ak,ak])),cc 3 13 76] (.seq (J [af 77 2 11,ae 78 77,ag 79 (ah 0)] (.aV 6 (.loop (J [bj .lss T.a 80 79 78] (fm 80 6
 (.seq (.aV 7 (.bC [I 81 12,bl 82 3 13,aC 83 (.cQ T.j 1 3 [ak,ak,ak] [(0,(ab 82))]),aC 84 (.app T.xT T.j 3 24 (ab 81) (ab 83)),I 12 84])) (fx T.a 85 79))))))) (.dU (.wide (ao (af 86 1 4) (ao (ae 87 86) (ao (I 88 6) (ao (I 89 10) (ao (I 90 12) (.alt (db 91 (.val (ab 88) [(ah 2),(ab 89),(ab 90)])) (.alt (aC 92 (.cQ T.a 1 1 [ak] [(0,(ab 91))])) (.b0 (aC 93 (.app T.c T.a 1 8 (ab 87) (ab 92))) (ao (af 94 1 4) (.b0 (ys 94 93) .done .nil)) .nil) .nil) .nil))))))))))))) (fx T.a 95 56))))))) (.seq (J [bl 96 5 1,aX 97 F.nu [96],bH 98 97,ag 99 (ah 0)] (.aV 8 (.loop (J [bj .lss T.a 100 99 98] (fm 100 8
 (.seq (.aV 9 (J [I 101 99,bm 102 2 97 99,bl 103 2 102,aC 15 (.new T.l (.agg #[ak,ak])),I 14 101,cc 2 15 103] (J [af 104 3 1,ae 105 104,af 106 0 15,ae 107 106,bm 108 5 105 107,bl 109 5 108,aC 16 (.new T.g (.agg #[cG,ak,ak,aM,aM])),cc 5 16 109] (J [af 110 2 16,ae 111 110,ax .sub T.a 112 111 1,aY 113 (.cA [ak,ak,ak] [(0,1),(1,1),(2,1)] [(1,(ab 112))]),aC 114 (.cQ T.j 1 3 [ak,ak,ak] [(0,(ab 113))]),I 17 114] (.seq (J [af 115 3 16,ae 116 115,bH 117 116,ag 118 (ah 0)] (.aV 10 (.loop (J [bj .lss T.a 119 118 117] (fm 119 10
 (.seq (.aV 11 (J [bm 120 6 116 118,bl 121 6 120,aC 19 (.new T.f (.agg #[cG,ak,ak,ak,ak,ak])),cc 6 19 121] (.bC [I 122 17,bl 123 6 19,af 124 0 1,ae 125 124,aX 126 F.am [123,125],aC 127 (.cQ T.j 1 3 [ak,ak,ak] [(0,(ab 126))]),aC 128 (.app T.xT T.j 3 24 (ab 122) (ab 127)),I 17 128]))) (fx T.a 129 118))))))) (.dU (.wide (ao (af 130 2 4) (ao (ae 131 130) (ao (I 132 6) (ao (I 133 14) (ao (I 134 17) (.alt (db 135 (.val (ab 132) [(ah 3),(ab 133),(ab 134)])) (.alt (aC 136 (.cQ T.a 1 1 [ak] [(0,(ab 135))])) (.b0 (aC 137 (.app T.c T.a 1 8 (ab 131) (ab 136))) (ao (af 138 2 4) (.b0 (ys 138 137) .done .nil)) .nil) .nil) .nil))))))))))))) (fx T.a 139 99))))))) (.seq (.dU (.b0 (bl 140 6 4) (.b0 (ae 141 5) (.b0 (cc 6 2 140) (ao (I 3 141) .done) .nil) (.b0 (cc 6 2 140) (.b0 (ae 141 5) (ao (I 3 141) .done) .nil) .nil)) (.b0 (ae 141 5) (.b0 (bl 140 6 4) (.b0 (cc 6 2 140) (ao (I 3 141) .done) .nil) .nil) .nil))) .ret))))))))⟩:=bE (by kernel_rfl)
theorem E.be:bD F.be ⟨4,[.tmp 2], (J [aC 1 (.box T.b (ab 0)),ag 2 (.const .nilFunc)] (J [aY 3 (.j0 F.pe [] [(ab 1)]),I 2 3] .ret))⟩:=bE (by kernel_rfl)
theorem E.wU:bD F.wU ⟨12,[.tmp 4], (J [aC 2 (.box T.f (ab 0)),ag 4 (ah 0)] (.seq (J [af 5 2 2,ae 6 5,ax .eql T.a 7 6 0] (aB 7 (J [ag 4 (ah 1)] .ret) .skip)) (J [I 8 1,af 9 2 2,ae 10 9,aX 11 F.pD [8,10],I 4 11] .ret)))⟩:=bE (by kernel_rfl)
end Go.Proofs.R
end