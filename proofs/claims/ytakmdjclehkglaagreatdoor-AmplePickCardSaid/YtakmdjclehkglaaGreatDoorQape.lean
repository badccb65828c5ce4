/- Parts. -/
import Derived.Test.YtakmdjclehkglaaGreatDoorQapd
import Derived.Test.YtakmdjclehkglaaGreatDoorChecked
set_option linter.all false
set_option maxRecDepth 100000
set_option maxHeartbeats 1600000
namespace Go.Proofs.R
open Go a8 Go.Proofs
abbrev T.z:F_:=0
abbrev T.a:F_:=3
abbrev T.j:F_:=4
abbrev T.a4:F_:=5
abbrev T.m:F_:=9
abbrev T.wc:F_:=20
abbrev T.rB:F_:=22
abbrev T.tn:F_:=23
abbrev T.tp:F_:=24
abbrev T.we:F_:=25
abbrev T.am:F_:=26
abbrev T.f:F_:=28
abbrev T.b:F_:=29
abbrev T.rC:F_:=34
abbrev T.g:F_:=36
abbrev T.n:F_:=39
abbrev T.c:F_:=42
abbrev T.a5:F_:=43
abbrev T.h:F_:=47
abbrev T.x:F_:=50
abbrev T.p:F_:=55
abbrev T.t:F_:=57
abbrev T.OL:F_:=58
abbrev T.q:F_:=60
abbrev T.XJ:F_:=61
abbrev T.k:F_:=63
abbrev T.d:F_:=65
abbrev T.e:F_:=72
abbrev T.y:F_:=74
abbrev T.l:F_:=76
abbrev T.nM:F_:=101
abbrev T.nK:F_:=102
abbrev T.sn:F_:=103
abbrev T.tk:F_:=111
abbrev T.sq:F_:=114
abbrev T.ap:F_:=121
abbrev T.gp:F_:=126
abbrev T.u:F_:=140
abbrev T.v:F_:=144
abbrev T.tX:F_:=151
abbrev T.w:F_:=161
abbrev T.tr:F_:=165
abbrev T.pn:F_:=172
abbrev T.l7:F_:=175
abbrev T.i:F_:=181
abbrev T.r:F_:=183
abbrev T.a9:F_:=186
abbrev T.s:F_:=190
abbrev T.gI:F_:=202
abbrev T.acS:F_:=208
abbrev T.ac:F_:=221
abbrev T.gX:F_:=238
abbrev T.ts:F_:=239
abbrev T.nL:F_:=242
abbrev T.nO:F_:=247
abbrev T.yi:F_:=252
abbrev T.pq:F_:=263
abbrev T.yj:F_:=268
abbrev T.yk:F_:=307
abbrev T.a0:F_:=308
abbrev T.db:F_:=309
abbrev T.a2:F_:=310
abbrev T.a3:F_:=311
abbrev F.G0:E_:=3
abbrev F.oJ:E_:=8
abbrev F.My:E_:=9
abbrev F.G1:E_:=10
abbrev F.bs:E_:=12
abbrev F.GY:E_:=15
abbrev F.LU:E_:=18
abbrev F.LI:E_:=19
abbrev F.LY:E_:=20
abbrev F.tr:E_:=22
abbrev F.dh:E_:=23
abbrev F.d:E_:=24
abbrev F.c:E_:=25
abbrev F.l:E_:=26
abbrev F.q:E_:=27
abbrev F.bL:E_:=28
abbrev F.lh:E_:=29
abbrev F.np:E_:=30
abbrev F.Mz:E_:=31
abbrev F.bQ:E_:=32
abbrev F.f:E_:=33
abbrev F.b:E_:=34
abbrev F.Ma:E_:=35
abbrev F.Md:E_:=36
abbrev F.GX:E_:=38
abbrev F.Mb:E_:=40
abbrev F.Mi:E_:=41
abbrev F.Mg:E_:=43
abbrev F.Mf:E_:=44
abbrev F.LV:E_:=45
abbrev F.LS:E_:=46
abbrev F.LN:E_:=47
abbrev F.LP:E_:=48
abbrev F.LL:E_:=49
abbrev F.LQ:E_:=50
abbrev F.LK:E_:=51
abbrev F.LX:E_:=52
abbrev F.as:E_:=55
abbrev F.ts:E_:=56
abbrev F.nO:E_:=57
abbrev F.uR:E_:=58
abbrev F.ci:E_:=59
abbrev F.yi:E_:=60
abbrev F.II:E_:=61
abbrev F.IJ:E_:=62
abbrev F.cl:E_:=63
abbrev F.pq:E_:=64
abbrev F.yj:E_:=65
abbrev F.r:E_:=66
abbrev F.yk:E_:=67
abbrev F.s:E_:=68
abbrev F.a0:E_:=69
abbrev F.pr:E_:=70
abbrev F.h:E_:=71
abbrev F.m:E_:=72
abbrev F.Co:E_:=73
abbrev F.co:E_:=74
abbrev F.IT:E_:=75
abbrev F.Mt:E_:=76
abbrev F.MA:E_:=77
abbrev F.Mu:E_:=78
abbrev F.L9:E_:=79
abbrev F.nU:E_:=80
abbrev F.eW:E_:=81
abbrev F.L8:E_:=82
abbrev F.LH:E_:=83
abbrev F.Lg:E_:=84
abbrev F.LZ:E_:=85
abbrev F.Me:E_:=86
abbrev F.Mj:E_:=87
abbrev F.LR:E_:=88
abbrev F.Lw:E_:=89
abbrev F.Lx:E_:=90
abbrev F.LO:E_:=91
abbrev F.LM:E_:=92
abbrev F.Lv:E_:=93
abbrev F.LF:E_:=94
abbrev F.LG:E_:=95
abbrev F.Lu:E_:=96
abbrev F.LJ:E_:=97
abbrev F.Lc:E_:=98
abbrev F.Lh:E_:=99
abbrev F.L1:E_:=100
abbrev F.L2:E_:=101
abbrev F.IZ:E_:=102
abbrev F.a:E_:=103
abbrev F.I0:E_:=104
abbrev F.i:E_:=105
abbrev F.I1:E_:=106
abbrev F.I3:E_:=107
abbrev F.I4:E_:=108
abbrev F.dl:E_:=109
abbrev F.I5:E_:=110
abbrev F.I6:E_:=111
abbrev F.I7:E_:=112
abbrev F.t:E_:=113
abbrev F.I8:E_:=114
abbrev F.CI:E_:=115
abbrev F.u:E_:=116
abbrev F.I9:E_:=117
abbrev F.db:E_:=118
abbrev F.v:E_:=119
abbrev F.ds:E_:=120
abbrev F.Ja:E_:=121
abbrev F.Jb:E_:=122
abbrev F.Jc:E_:=123
abbrev F.Jd:E_:=124
abbrev F.Je:E_:=125
abbrev F.Jf:E_:=126
abbrev F.Jg:E_:=127
abbrev F.d0:E_:=128
abbrev F.d1:E_:=129
abbrev F.a2:E_:=130
abbrev F.j:E_:=131
abbrev F.d2:E_:=132
abbrev F.d3:E_:=133
abbrev F.d4:E_:=134
abbrev F.n:E_:=135
abbrev F.d5:E_:=136
abbrev F.Mx:E_:=137
abbrev F.Mw:E_:=138
abbrev F.Mk:E_:=139
abbrev F.Mm:E_:=140
abbrev F.Mc:E_:=141
abbrev F.JR:E_:=142
abbrev F.Li:E_:=143
abbrev F.Ls:E_:=144
abbrev F.Ln:E_:=145
abbrev F.Lm:E_:=146
abbrev F.L0:E_:=147
abbrev F.L5:E_:=148
abbrev F.Mh:E_:=149
abbrev F.L4:E_:=150
abbrev F.Lt:E_:=151
abbrev F.LW:E_:=152
abbrev F.Ly:E_:=153
abbrev F.GV:E_:=154
abbrev F.GW:E_:=155
abbrev F.Lz:E_:=156
abbrev F.Ld:E_:=157
abbrev F.Lo:E_:=158
abbrev F.Lp:E_:=159
abbrev F.Lr:E_:=160
abbrev F.a5:E_:=161
abbrev F.nK:E_:=162
abbrev F.sn:E_:=163
abbrev F.w:E_:=164
abbrev F.x:E_:=165
abbrev F.pt:E_:=166
abbrev F.es:E_:=167
abbrev F.mK:E_:=168
abbrev F.sq:E_:=169
abbrev F.a9:E_:=170
abbrev F.Jn:E_:=171
abbrev F.bp:E_:=172
abbrev F.Jo:E_:=173
abbrev F.ex:E_:=174
abbrev F.g6:E_:=175
abbrev F.gI:E_:=176
abbrev F.CA:E_:=177
abbrev F.gX:E_:=178
abbrev F.EL:E_:=179
abbrev F.y:E_:=180
abbrev F.wK:E_:=181
abbrev F.ej:E_:=182
abbrev F.bF:E_:=183
abbrev F.aH:E_:=184
abbrev F.aR:E_:=185
abbrev F.bn:E_:=186
abbrev F.bC:E_:=187
abbrev F.EM:E_:=188
abbrev F.z:E_:=189
abbrev F.b6:E_:=190
abbrev F.ak:E_:=191
abbrev F.an:E_:=192
abbrev F.g9:E_:=193
abbrev F.aY:E_:=194
abbrev F.ae:E_:=195
abbrev F.cM:E_:=196
abbrev F.eN:E_:=197
abbrev F.fW:E_:=198
abbrev F.jn:E_:=199
abbrev F.Mv:E_:=200
abbrev F.Ml:E_:=201
abbrev F.Mo:E_:=202
abbrev F.Mn:E_:=203
abbrev F.Mp:E_:=204
abbrev F.Mr:E_:=205
abbrev F.Ms:E_:=206
abbrev F.Ll:E_:=207
abbrev F.Lj:E_:=208
abbrev F.K9:E_:=209
abbrev F.K7:E_:=210
abbrev F.K8:E_:=211
abbrev F.L3:E_:=212
abbrev F.L6:E_:=213
abbrev F.L7:E_:=214
abbrev F.LB:E_:=215
abbrev F.LA:E_:=216
abbrev F.Dy:E_:=217
abbrev F.Bf:E_:=218
abbrev F.Le:E_:=219
abbrev F.Lk:E_:=220
abbrev F.GU:E_:=221
abbrev F.Lf:E_:=222
abbrev F.g7:E_:=223
abbrev F.EO:E_:=224
abbrev F.Jx:E_:=225
abbrev F.Jy:E_:=226
abbrev F.Jz:E_:=227
abbrev F.JA:E_:=228
abbrev F.g0:E_:=229
abbrev F.g1:E_:=230
abbrev F.g2:E_:=231
abbrev F.g3:E_:=232
abbrev F.JB:E_:=233
abbrev F.f0:E_:=234
abbrev F.f1:E_:=235
abbrev F.f2:E_:=236
abbrev F.pn:E_:=237
abbrev F.f3:E_:=238
abbrev F.f4:E_:=239
abbrev F.f5:E_:=240
abbrev F.g8:E_:=243
abbrev F.f6:E_:=246
abbrev F.f7:E_:=247
abbrev F.Mq:E_:=248
abbrev F.La:E_:=249
abbrev F.LC:E_:=250
abbrev F.LD:E_:=251
abbrev F.Lq:E_:=252
abbrev F.g4:E_:=253
abbrev F.JC:E_:=254
abbrev F.ge:E_:=255
abbrev F.EP:E_:=256
abbrev F.ER:E_:=257
abbrev F.jr:E_:=258
abbrev F.g5:E_:=259
abbrev F.ac:E_:=260
abbrev F.JD:E_:=261
abbrev F.nL:E_:=262
abbrev F.rB:E_:=263
abbrev F.tn:E_:=264
abbrev F.e:E_:=265
abbrev F.tp:E_:=266
abbrev F.nM:E_:=267
abbrev F.gp:E_:=268
abbrev F.rC:E_:=269
abbrev F.wc:E_:=270
abbrev F.we:E_:=271
abbrev F.JE:E_:=272
abbrev F.bi:E_:=273
abbrev F.JF:E_:=274
abbrev F.JG:E_:=275
abbrev F.Fl:E_:=288
abbrev F.JH:E_:=289
abbrev F.JI:E_:=290
abbrev F.Lb:E_:=291
abbrev F.go:E_:=292
abbrev F.ES:E_:=293
abbrev F.ET:E_:=294
abbrev F.k:E_:=295
abbrev F.JK:E_:=296
abbrev F.JL:E_:=311
abbrev F.p0:E_:=335
abbrev F.JM:E_:=336
abbrev F.cT:E_:=337
abbrev F.EU:E_:=338
abbrev F.wo:E_:=339
abbrev F.gs:E_:=340
abbrev F.gt:E_:=341
abbrev F.JN:E_:=342
abbrev F.JO:E_:=343
abbrev F.JP:E_:=344
abbrev F.am:E_:=345
abbrev F.EW:E_:=346
abbrev F.JQ:E_:=347
abbrev G.apb:Nat:=0
def _root_.Ci{A:Prop}(h:A:=by kernel_rfl):A:=h
def lR:Tryz.prog.follows .mixedOrders=true:=Ci
def vW{f:E_}{L:nj}{args:C_ B_}{R:B_->A_->Prop}{w:A_}(an:lK Tryz.prog f=some L)(h:eZ Tryz.prog L.code (tA L.res R ⟨⟩) (iT args 0) w ⟨⟩)(aY:args.length<=L.n:=by exact Nat.le_of_ble_eq_true rfl):aX Tryz.prog f args.toArray w R:=_g lR an aY h
def Cb{c d:e0}(h:∀X:e0->Prop,X d->X c:=by
 intro X q
 conv=>arg 1;whnf
 try simp only[bg,ad9,M3,Sy,X8,PZ,Zx,E2,SR,lZ,xO,Uh,G5,vL,OZ,HS,afN,Pe,KS,wi,Jw,MN,PY,rH,Th,OM,TM,ag0,agZ,Tryz.underlying3,Tryz.underlying4,Tryz.underlying9,Tryz.underlying22,Tryz.underlying23,Tryz.underlying24,Tryz.underlying25,Tryz.underlying26,Tryz.underlying28,Tryz.underlying29,Tryz.underlying34,Tryz.underlying36,Tryz.underlying39,Tryz.underlying42,Tryz.underlying43,Tryz.underlying47,Tryz.underlying50,Tryz.underlying55,Tryz.underlying57,Tryz.underlying58,Tryz.underlying60,Tryz.underlying61,Tryz.underlying63,Tryz.underlying65,Tryz.underlying72,Tryz.underlying74,Tryz.underlying76,Tryz.underlying80,Tryz.underlying101,Tryz.underlying111,Tryz.underlying114,Tryz.underlying121,Tryz.underlying126,Tryz.underlying130,Tryz.underlying133,Tryz.underlying140,Tryz.underlying144,Tryz.underlying148,Tryz.underlying151,Tryz.underlying155,Tryz.underlying161,Tryz.underlying165,Tryz.underlying172,Tryz.underlying175,Tryz.underlying179,Tryz.underlying181,Tryz.underlying183,Tryz.underlying186,Tryz.underlying190,Tryz.underlying202,Tryz.underlying204,Tryz.underlying208,Tryz.underlying221,Tryz.underlying238,Tryz.underlying239,Tryz.underlying240,Tryz.underlying242,Tryz.underlying245,Tryz.underlying247,Tryz.underlying252,Tryz.underlying263,Tryz.underlying265,Tryz.underlying268,Tryz.underlying307,Tryz.underlying308,Tryz.underlying309,Tryz.underlying310,Tryz.underlying311,Tryz.underlying324,Tryz.underlying326,Tryz.type0,Tryz.type3,Tryz.type4,Tryz.type9,Tryz.type22,Tryz.type23,Tryz.type24,Tryz.type25,Tryz.type26,Tryz.type28,Tryz.type29,Tryz.type36,Tryz.type39,Tryz.type42,Tryz.type43,Tryz.type47,Tryz.type50,Tryz.type55,Tryz.type57,Tryz.type58,Tryz.type60,Tryz.type61,Tryz.type63,Tryz.type65,Tryz.type72,Tryz.type74,Tryz.type76,Tryz.type80,Tryz.type101,Tryz.type111,Tryz.type121,Tryz.type126,Tryz.type130,Tryz.type133,Tryz.type140,Tryz.type144,Tryz.type151,Tryz.type161,Tryz.type165,Tryz.type172,Tryz.type175,Tryz.type181,Tryz.type183,Tryz.type186,Tryz.type190,Tryz.type202,Tryz.type208,Tryz.type221,Tryz.type238,Tryz.type239,Tryz.type240,Tryz.type242,Tryz.type245,Tryz.type247,Tryz.type252,Tryz.type263,Tryz.type268,Tryz.type307,Tryz.type308,Tryz.type309,Tryz.type310,Tryz.type311,Tryz.type324,Tryz.type326,Tryz.t0,Tryz.t3,Tryz.t4,Tryz.t9,Tryz.t22,Tryz.t23,Tryz.t24,Tryz.t25,Tryz.t26,Tryz.t28,Tryz.t29,Tryz.t36,Tryz.t39,Tryz.t42,Tryz.t43,Tryz.t47,Tryz.t50,Tryz.t55,Tryz.t57,Tryz.t58,Tryz.t60,Tryz.t61,Tryz.t63,Tryz.t65,Tryz.t72,Tryz.t74,Tryz.t76,Tryz.t80,Tryz.t101,Tryz.t111,Tryz.t121,Tryz.t126,Tryz.t130,Tryz.t133,Tryz.t140,Tryz.t144,Tryz.t151,Tryz.t161,Tryz.t165,Tryz.t172,Tryz.t175,Tryz.t181,Tryz.t183,Tryz.t186,Tryz.t190,Tryz.t202,Tryz.t208,Tryz.t221,Tryz.t238,Tryz.t239,Tryz.t240,Tryz.t242,Tryz.t245,Tryz.t247,Tryz.t252,Tryz.t263,Tryz.t268,Tryz.t307,Tryz.t308,Tryz.t309,Tryz.t310,Tryz.t311,Tryz.t324,Tryz.t326,Nat.reduceAdd,Nat.reduceEqDiff,reduceIte]
 try dsimp only[aO,cC,ky,cQ,pO,dr,ih,hy,eb,aT,fI,fq,eE,ij,ys,l2,dN,iK,BK,iL,ki,xY,pe,cS,kh,ig,qy,NP,Eb,ow,vQ,vP,sd,l1,xX,List.map_cons,List.map_nil]
 exact q):c=d:=h (· = d) rfl
def bl{f:E_}{n:Nat}{r:C_ nk}{c d:e0}{args:C_ B_}{R:B_->A_->Prop}{w:A_}(an:lK Tryz.prog f=some ⟨n,r,c⟩)(h:eZ Tryz.prog d (tA r R ⟨⟩) (iT args 0) w ⟨⟩)(e:c=d:=by exact Cb)(aY:args.length<=n:=by exact Nat.le_of_ble_eq_true rfl):aX Tryz.prog f args.toArray w R:=_g lR (an.trans (congrArg (λc=>some (⟨n,r,c⟩:nj)) e)) aY h
abbrev bd(f:E_)(c:nj):Prop:=lK Tryz.prog f=some c
def bf{f:E_}{c:nj}(h:lK Tryz.prog f=some c:=by kernel_rfl):bd f c:=h
def E.G0:bd F.G0 ⟨15,[.tmp 4],bg Tryz.prog [(1,.w)] (bk Tryz.f3)⟩:=bf
def E.oJ:bd F.oJ ⟨83,[.tmp 4],bg Tryz.prog [(3,.s (.t 0 (.t 2 (.t 4 (.a 1 (.a 3 (.f 5 (.t 6 (.a 7 (.a 8 (.f 9 (.f 10 (.t 11 .d) .n) .n) .n) (.a 8 (.a 7 (.f 9 (.f 10 (.t 11 .d) .n) .n) .n) .n))) (.a 7 (.f 5 (.t 6 (.a 8 (.f 9 (.f 10 (.t 11 .d) .n) .n) .n)) (.a 8 (.f 5 (.t 6 (.f 9 (.f 10 (.t 11 .d) .n) .n)) .n) .n)) (.a 8 (.f 5 (.t 6 (.a 7 (.f 9 (.f 10 (.t 11 .d) .n) .n) .n)) (.a 7 (.f 5 (.t 6 (.f 9 (.f 10 (.t 11 .d) .n) .n)) .n) .n)) .n))) (.a 7 (.a 3 (.f 5 (.t 6 (.a 8 (.f 9 (.f 10 (.t 11 .d) .n) .n) .n)) (.a 8 (.f 5 (.t 6 (.f 9 (.f 10 (.t 11 .d) .n) .n)) .n) .n)) (.a 8 (.a 3 (.f 5 (.t 6 (.f 9 (.f 10 (.t 11 .d) .n) .n)) .n) .n) .n)) (.a 8 (.a 3 (.f 5 (.t 6 (.a 7 (.f 9 (.f 10 (.t 11 .d) .n) .n) .n)) (.a 7 (.f 5 (.t 6 (.f 9 (.f 10 (.t 11 .d) .n) .n)) .n) .n)) (.a 7 (.a 3 (.f 5 (.t 6 (.f 9 (.f 10 (.t 11 .d) .n) .n)) .n) .n) .n)) .n))) (.a 7 (.a 1 (.a 3 (.f 5 (.t 6 (.a 8 (.f 9 (.f 10 (.t 11 .d) .n) .n) .n)) (.a 8 (.f 5 (.t 6 (.f 9 (.f 10 (.t 11 .d) .n) .n)) .n) .n)) (.a 8 (.a 3 (.f 5 (.t 6 (.f 9 (.f 10 (.t 11 .d) .n) .n)) .n) .n) .n)) (.a 8 (.a 1 (.a 3 (.f 5 (.t 6 (.f 9 (.f 10 (.t 11 .d) .n) .n)) .n) .n) .n) .n)) (.a 8 (.a 1 (.a 3 (.f 5 (.t 6 (.a 7 (.f 9 (.f 10 (.t 11 .d) .n) .n) .n)) (.a 7 (.f 5 (.t 6 (.f 9 (.f 10 (.t 11 .d) .n) .n)) .n) .n)) (.a 7 (.a 3 (.f 5 (.t 6 (.f 9 (.f 10 (.t 11 .d) .n) .n)) .n) .n) .n)) (.a 7 (.a 1 (.a 3 (.f 5 (.t 6 (.f 9 (.f 10 (.t 11 .d) .n) .n)) .n) .n) .n) .n)) .n)))))))] (bk Tryz.f8)⟩:=bf
def E.My:bd F.My ⟨38,[.tmp 4],bg Tryz.prog [(7,.w)] (bk Tryz.f9)⟩:=bf
def E.G1:bd F.G1 ⟨48,[.tmp 0],bg Tryz.prog [] (bk Tryz.f10)⟩:=bf
def E.bs:bd F.bs ⟨22,[.tmp 4],bg Tryz.prog [] (bk Tryz.f12)⟩:=bf
def E.GY:bd F.GY ⟨37,[.tmp 2],bg Tryz.prog [(7,.w)] (bk Tryz.f15)⟩:=bf
def E.LU:bd F.LU ⟨9,[.iR 6 2],bg Tryz.prog [] (bk Tryz.f18)⟩:=bf
def E.LI:bd F.LI ⟨63,[.iR 4 2],bg Tryz.prog [] (bk Tryz.f19)⟩:=bf
def E.LY:bd F.LY ⟨14,[.tmp 4],bg Tryz.prog [(1,.s (.t 0 (.a 1 (.q 2 3 (.t 6 (.a 5 (.f 7 (.q 8 2 .d) .n) .n))) .n)))] (bk Tryz.f20)⟩:=bf
def E.dh:bd F.dh ⟨15,[.tmp 4],bg Tryz.prog [] (bk Tryz.f23)⟩:=bf
theorem E.c:bd F.c ⟨6,[.tmp 2],bg Tryz.prog [] (bk Tryz.f25)⟩:=bf
theorem E.l:bd F.l ⟨15,[.iR 6 2],bg Tryz.prog [] (bk Tryz.f26)⟩:=bf
theorem E.q:bd F.q ⟨28,[.tmp 5],bg Tryz.prog [(1,.w)] (bk Tryz.f27)⟩:=bf
def E.lh:bd F.lh ⟨50,[.tmp 4],bg Tryz.prog [(6,.s (.q 0 2 (.q 3 4 (.a 2 (.f 7 (.a 8 (.f 9 .d .n) .n) (.a 8 (.f 7 (.f 9 .d .n) .n) .n)) (.a 8 (.a 2 (.f 7 (.f 9 .d .n) .n) .n) .n)))))] (bk Tryz.f29)⟩:=bf
def E.np:bd F.np ⟨29,[.tmp 6],bg Tryz.prog [] (bk Tryz.f30)⟩:=bf
def E.Mz:bd F.Mz ⟨44,[.tmp 8],bg Tryz.prog [(8,.w),(10,.w)] (bk Tryz.f31)⟩:=bf
theorem E.bQ:bd F.bQ ⟨18,[.tmp 4],bg Tryz.prog [] (bk Tryz.f32)⟩:=bf
theorem E.b:bd F.b ⟨18,[.tmp 4],bg Tryz.prog [(1,.w)] (bk Tryz.f34)⟩:=bf
def E.Ma:bd F.Ma ⟨13,[.iR 13 2,.tmp 3],bg Tryz.prog [(3,.s (.q 0 2 (.a 2 (.f 3 (.f 4 (.t 5 .d) .n) .n) .n)))] (bk Tryz.f35)⟩:=bf
def E.Md:bd F.Md ⟨11,[.tmp 4],bg Tryz.prog [] (bk Tryz.f36)⟩:=bf
def E.GX:bd F.GX ⟨43,[.tmp 2],bg Tryz.prog [(8,.w)] (bk Tryz.f38)⟩:=bf
def E.Mb:bd F.Mb ⟨28,[.iR 6 4],bg Tryz.prog [(2,.s (.q 0 17 (.f 17 .d .n)))] (bk Tryz.f40)⟩:=bf
def E.Mi:bd F.Mi ⟨96,[.tmp 6,.tmp 7],bg Tryz.prog [(3,.w),(6,.s (.q 0 9 (.a 9 (.f 10 (.q 11 5 .d) .n) .n))),(13,.s (.q 0 9 (.f 9 (.q 10 5 .d) .n))),(17,.s (.q 0 10 (.f 10 (.q 11 2 .d) .n)))] (bk Tryz.f41)⟩:=bf
def E.Mg:bd F.Mg ⟨30,[.tmp 8],bg Tryz.prog [(2,.s (.q 1 3 (.t 5 (.q 7 6 (.f 0 (.f 4 (.f 6 (.f 13 (.t 14 .d) .n) .n) .n) .n)))))] (bk Tryz.f43)⟩:=bf
def E.Mf:bd F.Mf ⟨27,[.tmp 6],bg Tryz.prog [] (bk Tryz.f44)⟩:=bf
def E.LV:bd F.LV ⟨7,[.tmp 2],bg Tryz.prog [] (bk Tryz.f45)⟩:=bf
def E.LS:bd F.LS ⟨99,[.iR 6 2],bg Tryz.prog [(12,.s (.q 0 7 (.a 7 (.f 8 (.t 9 (.f 10 .d .n)) .n) .n))),(13,.s (.q 0 7 (.a 7 (.f 8 (.t 9 (.f 10 .d .n)) .n) .n)))] (bk Tryz.f46)⟩:=bf
def E.LN:bd F.LN ⟨93,[.iR 4 2],bg Tryz.prog [(7,.w),(10,.s (.q 0 2 (.q 3 6 (.a 2 (.f 9 .d .n) .n)))),(15,.w),(18,.s (.q 0 2 (.q 3 6 (.a 2 (.f 9 .d .n) .n))))] (bk Tryz.f47)⟩:=bf
def E.LP:bd F.LP ⟨66,[.iR 4 4],bg Tryz.prog [(4,.s (.q 0 3 (.a 3 (.f 4 (.q 5 7 .d) .n) .n))),(7,.s (.q 0 2 (.q 3 2 (.a 2 (.f 5 .d .n) .n)))),(12,.s (.t 0 (.q 2 6 (.a 1 (.f 8 .d .n) .n))))] (bk Tryz.f48)⟩:=bf
def E.LL:bd F.LL ⟨90,[.tmp 2,.tmp 3,.tmp 4],bg Tryz.prog [(5,.w),(9,.c (.dy [aT 36 7,ki .add T.a 37 36 1,fq 38 2 1,eE 39 38,aT 40 9,ij 41 6 39 40,fq 42 2 41,eE 43 42,cQ 44 (.xy (aO 43) (cC 0)),cQ 45 (.zj (aO 44) (cC 4)),iL .add T.a 46 37 45,aT 7 46])),(13,.w)] (bk Tryz.f49)⟩:=bf
def E.LQ:bd F.LQ ⟨45,[.tmp 4],bg Tryz.prog [(6,.s (.q 0 2 (.q 3 2 (.a 2 (.f 5 .d .n) .n))))] (bk Tryz.f50)⟩:=bf
def E.LK:bd F.LK ⟨7,[.tmp 2],bg Tryz.prog [] (bk Tryz.f51)⟩:=bf
def E.LX:bd F.LX ⟨45,[.tmp 6],bg Tryz.prog [(7,.w)] (bk Tryz.f52)⟩:=bf
noncomputable def C.as:nj:=⟨88,[],bg Tryz.prog [(2,.c (.fP [aT 18 5,aT 19 4] (some 20) F.a [(aO 18),(cC 1),(aO 19),(cC 0)])),(6,.c (.dy [aT 28 1,fq 29 0 7,eE 30 29,hy (.kt .string (aO 28) (aO 30) (ky true))])),(13,.c (.fP [aT 51 5,aT 52 8] (some 53) F.a [(aO 51),(cC 2),(aO 52),(cC 0)])),(14,.c (.fP [aT 54 1,fq 55 0 9,eE 56 55,aT 57 8] (some 58) F.i [(aO 54),(aO 56),(cC 2),(aO 57)])),(21,.c (.fP [aT 79 5,aT 80 10] (some 81) F.a [(aO 79),(cC 3),(aO 80),(cC 0)])),(22,.c (.fP [aT 82 1,fq 83 0 11,eE 84 83,aT 85 10] (some 86) F.i [(aO 82),(aO 84),(cC 3),(aO 85)]))] (bk Tryz.f55)⟩
theorem E.as:lK Tryz.prog F.as=some C.as:=Ci
noncomputable def C.ts:nj:=⟨105,[],bg Tryz.prog [(1,.c (.dy [dr 18 .vA,aT 4 18])),(2,.c (.dy [aT 19 1,dr 20 (.raw (.range T.sn (aO 19)) T.z)])),(3,.c (.dy [dr 21 (.raw (.next (aO 20) false) T.z),cQ 22 (.ext (aO 21) 0)])),(4,.c (.dy [dr 23 (.raw (.entry (aO 20)) T.z),cQ 24 (.ext (aO 23) 0),aT 5 24])),(5,.c (.dy [aT 25 4,aT 26 5,hy (.kt .string (aO 25) (aO 26) (ky true))])),(9,.c (.dy [aT 34 4,fq 35 0 7,eE 36 35,hy (.kt .string (aO 34) (aO 36) (ky true))])),(15,.c (.fP [aT 48 8] (some 49) F.a [(cC 11),(cC 4),(aO 48),(cC 0)])),(16,.s (.q 0 3 (.a 3 (.f 4 (.q 5 7 .d) .n) .n))),(17,.c (.fP [aT 59 12,aT 60 8,aT 61 10,cQ 62 (.bin .mul T.a (cC 16) (aO 61)),aT 63 11,iL .add T.a 64 62 63] (some 65) F.a [(aO 59),(cC 4),(aO 60),(aO 64)])),(18,.c (.fP [aT 66 1,fq 67 0 9,eE 68 67,aT 69 8] (some 70) F.i [(aO 66),(aO 68),(cC 4),(aO 69)])),(22,.c (.dy [aT 79 4,fq 80 0 14,eE 81 80,pO 82 (.o2 .string (.bool false) false (aO 79) (aO 81))])),(23,.c (.fP [aT 83 8,aT 84 13,cQ 85 (.bin .add T.a (cC 16) (aO 84))] (some 86) F.a [(cC 7),(cC 4),(aO 83),(aO 85)])),(28,.c (.fP [fq 101 3 2,eE 102 101,l2 103 102] (some 104) F.a [(cC 11),(cC 4),(aO 103),(cC 0)]))] (bk Tryz.f56)⟩
theorem E.ts:lK Tryz.prog F.ts=some C.ts:=Ci
noncomputable def C.nO:nj:=⟨51,[],bg Tryz.prog [(6,.c (.fP [aT 22 5] (some 23) F.a [(cC 11),(cC 5),(aO 22),(cC 0)])),(8,.c (.fP [aT 29 5] (some 30) F.a [(cC 6),(cC 5),(aO 29),(cC 0)])),(9,.c (.fP [aT 31 1,fq 32 0 6,eE 33 32,aT 34 5] (some 35) F.i [(aO 31),(aO 33),(cC 5),(aO 34)])),(11,.c (.fP [aT 43 8,aT 44 5] (some 45) F.a [(aO 43),(cC 5),(aO 44),(cC 0)])),(13,.c (.fP [aT 48 5] (some 49) F.a [(cC 9),(cC 5),(aO 48),(cC 0)]))] (bk Tryz.f57)⟩
theorem E.nO:lK Tryz.prog F.nO=some C.nO:=Ci
def E.uR:bd F.uR ⟨14,[.tmp 2],bg Tryz.prog [(3,.s (.t 0 (.q 2 2 (.a 1 (.a 4 (.t 5 (.f 6 (.t 7 .d) .n)) .n) .n))))] (bk Tryz.f58)⟩:=bf
def E.ci:bd F.ci ⟨61,[.tmp 4],bg Tryz.prog [] (bk Tryz.f59)⟩:=bf
def E.yi:bd F.yi ⟨4,[.tmp 2],bg Tryz.prog [] (bk Tryz.f60)⟩:=bf
def E.IJ:bd F.IJ ⟨7,[.tmp 2],bg Tryz.prog [] (bk Tryz.f62)⟩:=bf
def E.cl:bd F.cl ⟨142,[.iR 6 2,.tmp 3],bg Tryz.prog [(12,.s (.w (.q 0 5 (.a 5 (.a 6 (.f 7 (.t 8 (.f 9 .d .n)) .n) .n) .n)))),(18,.c (.dy [fq 65 1 11,eE 66 65,fq 67 3 11,eE 68 67,cQ 69 (.zj (aO 68) (cC 0)),fq 70 4 11,eE 71 70,cQ 72 (.xy (aO 71) (cC 0)),cQ 73 (.h3 [BK,dN,dN,dN,dN,dN] [(0,1),(1,1),(2,1),(3,1),(4,1),(5,1)] [(1,(aO 66)),(3,(aO 69)),(4,(aO 72))]),fq 74 0 1,eE 75 74,ih 76 (.fn F.db [(aO 73),(aO 75)]),dr 13 (.new T.i (.agg #[dN,dN,dN])),hy (.lZ 3 (aO 13) (aO 76))])),(23,.s (.w (.q 0 5 (.a 5 (.a 6 (.f 7 (.t 8 (.f 9 .d .n)) .n) .n) .n)))),(35,.s (.w (.q 0 5 (.a 5 (.a 6 (.f 7 (.t 8 (.f 9 .d .n)) .n) .n) .n)))),(37,.s (.f 0 (.f 1 (.f 2 (.t 3 .d) .n) (.f 2 (.f 1 (.t 3 .d) .n) .n)) (.f 1 (.f 0 (.f 2 (.t 3 .d) .n) .n) .n)))] (bk Tryz.f63)⟩:=bf
def E.pq:bd F.pq ⟨27,[.tmp 2],bg Tryz.prog [] (bk Tryz.f64)⟩:=bf
def E.yj:bd F.yj ⟨8,[.tmp 6],bg Tryz.prog [] (bk Tryz.f65)⟩:=bf
theorem E.r:bd F.r ⟨8,[.tmp 3],bg Tryz.prog [] (bk Tryz.f66)⟩:=bf
def E.yk:bd F.yk ⟨24,[.tmp 4],bg Tryz.prog [] (bk Tryz.f67)⟩:=bf
theorem E.s:bd F.s ⟨22,[.iR 6 6],bg Tryz.prog [(1,.s (.q 0 15 (.f 15 .d .n)))] (bk Tryz.f68)⟩:=bf
theorem E.a0:bd F.a0 ⟨57,[.tmp 4,.tmp 5],bg Tryz.prog [(4,.c (.dy [dr 22 .vA,dr 23 .vA,aT 9 22,aT 10 23]))] (bk Tryz.f69)⟩:=bf
def E.pr:bd F.pr ⟨45,[.tmp 2],bg Tryz.prog [(3,.s (.t 0 (.t 2 (.a 1 (.f 3 (.a 4 (.f 5 (.t 6 .d) .n) .n) (.a 4 (.f 3 (.f 5 (.t 6 .d) .n) .n) .n)) (.a 4 (.a 1 (.f 3 (.f 5 (.t 6 .d) .n) .n) .n) .n)))))] (bk Tryz.f70)⟩:=bf
theorem E.m:bd F.m ⟨8,[.tmp 3],bg Tryz.prog [] (bk Tryz.f72)⟩:=bf
def E.Co:bd F.Co ⟨20,[.tmp 4,.tmp 5],bg Tryz.prog [] (bk Tryz.f73)⟩:=bf
def E.co:bd F.co ⟨16,[.tmp 4],bg Tryz.prog [] (bk Tryz.f74)⟩:=bf
def E.IT:bd F.IT ⟨40,[.tmp 6],bg Tryz.prog [(5,.s (.q 0 2 (.q 3 5 (.a 2 (.f 8 (.t 9 .d) .n) .n))))] (bk Tryz.f75)⟩:=bf
def E.Mt:bd F.Mt ⟨98,[.tmp 6],bg Tryz.prog [(6,.s (.q 0 9 (.a 9 (.f 10 .d .n) .n))),(9,.s (.t 0 (.t 2 (.a 1 (.f 3 (.q 4 2 .d) .n) .n)))),(13,.w),(17,.w)] (bk Tryz.f76)⟩:=bf
def E.MA:bd F.MA ⟨61,[.tmp 6],bg Tryz.prog [(7,.s (.q 0 21 (.a 21 (.f 22 .d .n) .n)))] (bk Tryz.f77)⟩:=bf
def E.Mu:bd F.Mu ⟨72,[.tmp 4],bg Tryz.prog [(6,.s (.q 0 3 (.q 4 5 (.q 15 5 (.a 3 (.q 9 2 (.a 11 (.q 12 2 (.a 14 (.t 20 (.a 21 (.a 22 (.f 23 .d .n) .n) (.a 22 (.a 21 (.f 23 .d .n) .n) .n))) (.a 22 (.a 14 (.t 20 (.a 21 (.f 23 .d .n) .n)) .n) .n))) (.a 22 (.a 11 (.q 12 2 (.a 14 (.t 20 (.a 21 (.f 23 .d .n) .n)) .n)) .n) .n))) (.a 22 (.a 3 (.q 9 2 (.a 11 (.q 12 2 (.a 14 (.t 20 (.a 21 (.f 23 .d .n) .n)) .n)) .n)) .n) .n))))))] (bk Tryz.f78)⟩:=bf
def E.L9:bd F.L9 ⟨37,[.tmp 6],bg Tryz.prog [] (bk Tryz.f79)⟩:=bf
def E.nU:bd F.nU ⟨46,[.tmp 4],bg Tryz.prog [] (bk Tryz.f80)⟩:=bf
def E.L8:bd F.L8 ⟨12,[.iR 13 4],bg Tryz.prog [(1,.s (.q 0 3 (.t 4 (.a 3 (.a 5 (.t 6 (.f 7 .d .n)) .n) .n))))] (bk Tryz.f82)⟩:=bf
def E.LH:bd F.LH ⟨32,[.tmp 4],bg Tryz.prog [] (bk Tryz.f83)⟩:=bf
def E.Lg:bd F.Lg ⟨107,[.tmp 4,.tmp 5],bg Tryz.prog [(18,.w),(20,.w),(22,.w)] (bk Tryz.f84)⟩:=bf
def E.LZ:bd F.LZ ⟨129,[.iR 5 8],bg Tryz.prog [(6,.w),(7,.s (.q 0 2 (.q 3 14 (.a 2 (.a 17 (.a 18 (.f 19 (.t 20 (.f 21 .d .n)) .n) .n) .n) .n)))),(11,.s (.q 0 10 (.a 10 (.f 11 (.t 12 (.f 13 .d .n)) .n) .n))),(15,.s (.q 0 6 (.a 6 (.a 7 (.f 8 (.t 9 (.f 10 .d .n)) .n) .n) .n))),(18,.w),(19,.s (.q 0 8 (.f 8 (.t 9 (.f 10 .d .n)) .n)))] (bk Tryz.f85)⟩:=bf
def E.Me:bd F.Me ⟨201,[.tmp 8,.tmp 9],bg Tryz.prog [(5,.s (.q 0 6 (.q 7 11 (.a 6 (.f 18 (.q 19 4 .d) .n) .n)))),(12,.s (.q 0 10 (.f 10 (.q 11 4 .d) .n))),(17,.s (.q 0 13 (.f 13 (.q 14 4 .d) .n))),(19,.s (.q 0 13 (.f 13 (.q 14 4 .d) .n))),(21,.w),(23,.w)] (bk Tryz.f86)⟩:=bf
def E.Mj:bd F.Mj ⟨16,[.tmp 6],bg Tryz.prog [] (bk Tryz.f87)⟩:=bf
def E.LR:bd F.LR ⟨177,[.tmp 2],bg Tryz.prog [(5,.w),(7,.w),(15,.c (.sx [fq 83 3 9,eE 84 83,cQ 85 (.zj (cC 0) (aO 84)),fq 86 4 9,eE 87 86,cQ 88 (.xy (cC 0) (aO 87)),aT 10 85,aT 11 88])),(17,.w),(26,.s (.q 0 9 (.a 9 (.f 10 .d .n) .n))),(31,.w)] (bk Tryz.f88)⟩:=bf
def E.Lw:bd F.Lw ⟨55,[.tmp 2,.tmp 3],bg Tryz.prog [(11,.w)] (bk Tryz.f89)⟩:=bf
def E.Lx:bd F.Lx ⟨56,[.tmp 6,.tmp 7],bg Tryz.prog [(11,.w)] (bk Tryz.f90)⟩:=bf
def E.LO:bd F.LO ⟨18,[.tmp 4],bg Tryz.prog [] (bk Tryz.f91)⟩:=bf
def E.LM:bd F.LM ⟨151,[.tmp 6],bg Tryz.prog [] (bk Tryz.f92)⟩:=bf
def E.Lv:bd F.Lv ⟨96,[.tmp 4,.tmp 5],bg Tryz.prog [(11,.w),(15,.w)] (bk Tryz.f93)⟩:=bf
def E.LF:bd F.LF ⟨148,[.tmp 4,.tmp 5,.tmp 6],bg Tryz.prog [(20,.w),(26,.w),(32,.w)] (bk Tryz.f94)⟩:=bf
def E.LG:bd F.LG ⟨42,[.iR 6 4],bg Tryz.prog [] (bk Tryz.f95)⟩:=bf
def E.Lu:bd F.Lu ⟨12,[.tmp 4],bg Tryz.prog [] (bk Tryz.f96)⟩:=bf
def E.LJ:bd F.LJ ⟨13,[.tmp 4],bg Tryz.prog [] (bk Tryz.f97)⟩:=bf
def E.Lc:bd F.Lc ⟨41,[.tmp 2],bg Tryz.prog [(1,.c (.dy [aT 5 0,cQ 6 (.bin .eql T.m (aO 5) (.const BK)),aT 7 6,eb 7 false (aT 8 0),eb 7 false (cQ 9 (.qh (aO 8))),eb 7 false (ki .gtr T.a 10 9 16),pe 11 7 10,aT 12 11,eb 12 false (aT 13 0),eb 12 false (cQ 14 (.bin .eql T.m (aO 13) (.const (.string ⟨#[115,101,108,102]⟩)))),pe 15 12 14,aT 16 15,eb 16 false (aT 17 0),eb 16 false (cQ 18 (.bin .eql T.m (aO 17) (.const (.string ⟨#[110,111,110,101]⟩)))),pe 19 16 18,aT 20 19,eb 20 false (aT 21 0),eb 20 false (cQ 22 (.bin .eql T.m (aO 21) (.const (.string ⟨#[108,101,110]⟩)))),pe 23 20 22,aT 24 23,eb 24 false (aT 25 0),eb 24 false (cQ 26 (.bin .eql T.m (aO 25) (.const (.string ⟨#[97,116]⟩)))),pe 27 24 26])),(4,.c (.dy [aT 33 4,ki .eql T.a 34 33 1,aT 35 34,eb 35 true (aT 36 3),eb 35 true (aT 37 0),eb 35 true (cQ 38 (.qh (aO 37))),eb 35 true (iL .eql T.a 39 36 38),xY 40 35 39,aT 2 40]))] (bk Tryz.f98)⟩:=bf
def E.Lh:bd F.Lh ⟨107,[.tmp 4,.tmp 5],bg Tryz.prog [(18,.w),(20,.w),(22,.w)] (bk Tryz.f99)⟩:=bf
def E.L1:bd F.L1 ⟨82,[.tmp 6],bg Tryz.prog [(2,.w)] (bk Tryz.f100)⟩:=bf
def E.L2:bd F.L2 ⟨34,[.tmp 4],bg Tryz.prog [(4,.w)] (bk Tryz.f101)⟩:=bf
def E.IZ:bd F.IZ ⟨11,[.tmp 2,.tmp 3],bg Tryz.prog [] (bk Tryz.f102)⟩:=bf
noncomputable def C.a:nj:=⟨17,[],bg Tryz.prog [(1,.c (.uk [aT 10 0,aT 11 1,aT 12 2,aT 13 3,cQ 14 (.h3 [dN,dN,dN,dN] [(0,1),(1,1),(2,1),(3,1)] [(0,(aO 10)),(1,(aO 11)),(2,(aO 12)),(3,(aO 13))]),cQ 15 (.h3 [dN,dN,dN,dN] [(0,4)] [(0,(aO 14))]),cQ 16 (.Dz T.nM (aO 15))] (aO 16)))] (bk Tryz.f103)⟩
theorem E.a:lK Tryz.prog F.a=some C.a:=Ci
def E.I0:bd F.I0 ⟨17,[.tmp 6,.tmp 7],bg Tryz.prog [(1,.c (.dy [eE 8 3,l2 9 8,aT 10 2,cQ 11 (.xy (aO 10) (cC 0)),cQ 12 (.xz F.w [] [(aO 3)]),cQ 13 (.xz F.x [] [(aO 3),(aO 4)]),ih 14 (.fn F.a5 [(aO 9),(aO 11),(aO 12),(aO 13)]),cQ 15 (.ext (aO 14) 0),cQ 16 (.ext (aO 14) 1),aT 6 15,aT 7 16]))] (bk Tryz.f104)⟩:=bf
noncomputable def C.i:nj:=⟨16,[],bg Tryz.prog [(0,.c (.dy [aT 8 0,aT 9 1,pO 10 (.o2 .string (.bool false) false (aO 8) (aO 9))])),(1,.c (.fP [aT 11 2,aT 12 3] (some 13) F.a [(cC 7),(aO 11),(aO 12),(cC 0)])),(2,.c (.dy [aT 14 0,aT 15 1,hy (.kt .string (aO 14) (aO 15) (ky true))]))] (bk Tryz.f105)⟩
theorem E.i:lK Tryz.prog F.i=some C.i:=Ci
def E.I1:bd F.I1 ⟨13,[.tmp 4,.tmp 5],bg Tryz.prog [] (bk Tryz.f106)⟩:=bf
def E.I3:bd F.I3 ⟨64,[.tmp 4,.tmp 5,.tmp 6],bg Tryz.prog [] (bk Tryz.f107)⟩:=bf
def E.I4:bd F.I4 ⟨33,[.iR 6 4],bg Tryz.prog [(3,.s (.q 0 6 (.f 6 (.f 7 .d .n) .n)))] (bk Tryz.f108)⟩:=bf
def E.dl:bd F.dl ⟨79,[.tmp 2,.tmp 3,.tmp 4],bg Tryz.prog [(10,.c (.dy [aT 36 7,fq 37 2 11,eE 38 37,cQ 39 (.xy (aO 38) (cC 0)),cQ 40 (.zj (aO 39) (cC 4)),cQ 41 (.bin .add T.a (cC 1) (aO 40)),iL .add T.a 42 36 41,aT 7 42]))] (bk Tryz.f109)⟩:=bf
def E.I5:bd F.I5 ⟨34,[.tmp 2],bg Tryz.prog [(1,.c (.dy [aT 5 0,cQ 6 (.bin .eql T.m (aO 5) (.const BK)),aT 7 6,eb 7 false (aT 8 0),eb 7 false (cQ 9 (.qh (aO 8))),eb 7 false (ki .gtr T.a 10 9 16),pe 11 7 10,aT 12 11,eb 12 false (aT 13 0),eb 12 false (cQ 14 (.nz (aO 13) (cC 0))),eb 12 false (cQ 15 (.Cp .i32 (aO 14))),eb 12 false (ih 16 (.fn F.gX [(aO 15)])),eb 12 false (cQ 17 (.un .not (aO 16))),pe 18 12 17,aT 19 18,eb 19 false (aT 20 0),eb 19 false (ih 21 (.fn F.EL [(aO 20),(.func F.y)])),eb 19 false (aT 22 0),eb 19 false (cQ 23 (.qh (aO 22))),eb 19 false (iL .lss T.a 24 21 23),pe 25 19 24])),(5,.c (.dy [cQ 29 (.Ba 4 (aO 26) (aO 27)),aT 4 29]))] (bk Tryz.f110)⟩:=bf
def E.I6:bd F.I6 ⟨15,[.tmp 4,.tmp 5],bg Tryz.prog [] (bk Tryz.f111)⟩:=bf
def E.I7:bd F.I7 ⟨106,[.tmp 6],bg Tryz.prog [(2,.w),(3,.w),(4,.w)] (bk Tryz.f112)⟩:=bf
theorem E.t:bd F.t ⟨39,[],bg Tryz.prog [] (bk Tryz.f113)⟩:=bf
def E.I8:bd F.I8 ⟨32,[.tmp 4],bg Tryz.prog [] (bk Tryz.f114)⟩:=bf
def E.u:bd F.u ⟨50,[.tmp 8],bg Tryz.prog [(5,.s (.w (.q 0 4 (.q 6 4 (.a 4 (.a 5 (.t 12 (.a 10 (.f 11 (.f 13 (.t 14 (.f 15 .d .n)) .n) .n) .n)) (.a 10 (.a 5 (.t 12 (.f 11 (.f 13 (.t 14 (.f 15 .d .n)) .n) .n)) .n) .n)) (.a 10 (.a 4 (.a 5 (.t 12 (.f 11 (.f 13 (.t 14 (.f 15 .d .n)) .n) .n)) .n) .n) .n))))))] (bk Tryz.f116)⟩:=bf
def E.I9:bd F.I9 ⟨18,[.tmp 4],bg Tryz.prog [] (bk Tryz.f117)⟩:=bf
theorem E.db:bd F.db ⟨19,[.iR 3 4],bg Tryz.prog [] (bk Tryz.f118)⟩:=bf
def E.v:bd F.v ⟨38,[],bg Tryz.prog [(4,.s (.q 0 8 (.t 10 (.a 8 (.t 9 (.q 11 5 (.f 16 (.q 17 2 .d) .n))) .n))))] (bk Tryz.f119)⟩:=bf
def E.ds:bd F.ds ⟨41,[.tmp 4],bg Tryz.prog [(4,.w),(6,.w)] (bk Tryz.f120)⟩:=bf
def E.Ja:bd F.Ja ⟨61,[.tmp 4,.iR 6 5,.tmp 6],bg Tryz.prog [(6,.s (.q 0 2 (.t 3 (.q 5 5 (.a 2 (.a 4 (.t 10 (.f 11 (.t 12 .d) .n)) .n) .n))))),(7,.s (.q 0 25 (.f 25 (.t 26 .d) .n)))] (bk Tryz.f121)⟩:=bf
def E.Jb:bd F.Jb ⟨18,[],bg Tryz.prog [(3,.c (.dy [aT 11 0,aT 12 1,aT 13 6,iL .add T.a 14 12 13,pO 15 (.o2 (.int .i64) dN false (aO 11) (aO 14)),ki .add T.a 16 15 1,hy (.kt (.int .i64) (aO 11) (aO 14) (aO 16))]))] (bk Tryz.f122)⟩:=bf
def E.Jc:bd F.Jc ⟨14,[.tmp 2],bg Tryz.prog [(1,.w)] (bk Tryz.f123)⟩:=bf
def E.Jd:bd F.Jd ⟨9,[],bg Tryz.prog [] (bk Tryz.f124)⟩:=bf
def E.Je:bd F.Je ⟨40,[],bg Tryz.prog [(5,.s (.q 0 10 (.f 10 .d .n)))] (bk Tryz.f125)⟩:=bf
def E.Jf:bd F.Jf ⟨66,[],bg Tryz.prog [(5,.s (.q 0 16 (.f 16 .d .n))),(7,.s (.q 0 2 (.q 4 2 (.a 2 (.t 3 (.t 6 (.f 7 .d .n))) .n)))),(12,.s (.q 0 2 (.q 4 2 (.a 2 (.t 3 (.t 6 (.f 7 .d .n))) .n))))] (bk Tryz.f126)⟩:=bf
def E.Jg:bd F.Jg ⟨6,[.tmp 2],bg Tryz.prog [] (bk Tryz.f127)⟩:=bf
def E.d0:bd F.d0 ⟨29,[.tmp 2],bg Tryz.prog [] (bk Tryz.f128)⟩:=bf
theorem E.d1:bd F.d1 ⟨87,[],bg Tryz.prog [(5,.w)] (bk Tryz.f129)⟩:=bf
theorem E.a2:bd F.a2 ⟨6,[],bg Tryz.prog [] (bk Tryz.f130)⟩:=bf
theorem E.d2:bd F.d2 ⟨17,[.tmp 2,.tmp 3],bg Tryz.prog [(3,.s (.q 0 2 (.t 3 (.t 5 (.a 2 (.a 4 (.a 6 (.t 7 (.f 8 (.q 9 2 .d) .n)) .n) .n) .n)))))] (bk Tryz.f132)⟩:=bf
theorem E.d3:bd F.d3 ⟨90,[.tmp 6,.tmp 7],bg Tryz.prog [(1,.s (.q 0 2 (.q 3 8 (.a 2 (.a 11 (.a 12 (.t 13 .d) .n) .n) (.a 11 (.a 2 (.a 12 (.t 13 .d) .n) .n) .n))))),(4,.w),(16,.s (.q 0 8 (.f 8 .d .n)))] (bk Tryz.f133)⟩:=bf
theorem E.d4:bd F.d4 ⟨31,[.tmp 4],bg Tryz.prog [] (bk Tryz.f134)⟩:=bf
theorem E.n:bd F.n ⟨34,[.iR 6 4],bg Tryz.prog [(2,.s (.q 0 21 (.f 21 .d .n)))] (bk Tryz.f135)⟩:=bf
theorem E.d5:bd F.d5 ⟨39,[.tmp 8],bg Tryz.prog [(4,.c (.rf (.take (aT 29 11) (.take (aT 30 12) (.take (aT 31 13) (.take (cQ 32 (.jf 1 (aO 29) (some (aO 30)) (some (aO 31)) none)) (.take (aT 33 1) (.take (aT 34 12) (.take (aT 35 13) (.take (cQ 36 (.jf 1 (aO 33) (some (aO 34)) (some (aO 35)) none)) (.ff (dr 37 (.raw (.call ⟨.builtin .copy,#[(aO 32),(aO 36)],#[T.b,T.b]⟩) T.a)) .done .nil)))))))))))] (bk Tryz.f136)⟩:=bf
def E.Mx:bd F.Mx ⟨27,[.tmp 2],bg Tryz.prog [] (bk Tryz.f137)⟩:=bf
def E.Mw:bd F.Mw ⟨24,[.tmp 4],bg Tryz.prog [] (bk Tryz.f138)⟩:=bf
def E.Mk:bd F.Mk ⟨57,[.tmp 2],bg Tryz.prog [(12,.s (.q 0 6 (.f 6 (.t 7 .d) .n)))] (bk Tryz.f139)⟩:=bf
def E.Mm:bd F.Mm ⟨191,[.tmp 4,.tmp 5],bg Tryz.prog [(5,.s (.q 0 5 (.q 6 5 (.a 5 (.a 11 (.f 12 (.t 13 .d) .n) .n) (.a 11 (.a 5 (.f 12 (.t 13 .d) .n) .n) .n))))),(18,.s (.q 0 18 (.f 18 (.f 19 (.t 20 .d) .n) .n))),(20,.s (.q 0 10 (.f 10 (.f 11 (.t 12 .d) .n) .n))),(23,.s (.q 0 15 (.f 15 (.f 16 (.t 17 .d) .n) .n))),(25,.s (.q 0 14 (.f 14 (.t 15 .d) .n))),(27,.s (.w (.q 0 2 (.q 3 9 (.a 2 (.f 12 (.f 13 (.t 14 .d) .n) .n) (.f 12 (.a 2 (.f 13 (.t 14 .d) .n) .n) .n))))))] (bk Tryz.f140)⟩:=bf
def E.Mc:bd F.Mc ⟨17,[.tmp 6],bg Tryz.prog [] (bk Tryz.f141)⟩:=bf
def E.Li:bd F.Li ⟨26,[.tmp 2],bg Tryz.prog [] (bk Tryz.f143)⟩:=bf
def E.Ls:bd F.Ls ⟨100,[.tmp 4,.tmp 5],bg Tryz.prog [(21,.w)] (bk Tryz.f144)⟩:=bf
def E.Ln:bd F.Ln ⟨61,[.tmp 6,.tmp 7],bg Tryz.prog [] (bk Tryz.f145)⟩:=bf
def E.Lm:bd F.Lm ⟨80,[.tmp 6,.tmp 7],bg Tryz.prog [] (bk Tryz.f146)⟩:=bf
def E.L0:bd F.L0 ⟨50,[.tmp 8],bg Tryz.prog [] (bk Tryz.f147)⟩:=bf
def E.L5:bd F.L5 ⟨19,[.tmp 2,.tmp 3,.tmp 4],bg Tryz.prog [(4,.s (.q 0 4 (.q 5 3 (.a 4 (.q 8 3 .d) .n))))] (bk Tryz.f148)⟩:=bf
def E.Mh:bd F.Mh ⟨32,[.tmp 8,.tmp 9],bg Tryz.prog [] (bk Tryz.f149)⟩:=bf
def E.L4:bd F.L4 ⟨29,[.tmp 4,.tmp 5],bg Tryz.prog [] (bk Tryz.f150)⟩:=bf
def E.Lt:bd F.Lt ⟨17,[.tmp 4,.tmp 5],bg Tryz.prog [(2,.w)] (bk Tryz.f151)⟩:=bf
def E.LW:bd F.LW ⟨7,[.tmp 2],bg Tryz.prog [] (bk Tryz.f152)⟩:=bf
def E.Ly:bd F.Ly ⟨69,[.tmp 4],bg Tryz.prog [(5,.w)] (bk Tryz.f153)⟩:=bf
def E.GV:bd F.GV ⟨37,[.tmp 4],bg Tryz.prog [] (bk Tryz.f154)⟩:=bf
def E.GW:bd F.GW ⟨22,[.tmp 4],bg Tryz.prog [] (bk Tryz.f155)⟩:=bf
def E.Lz:bd F.Lz ⟨92,[.tmp 6,.tmp 7],bg Tryz.prog [(15,.w)] (bk Tryz.f156)⟩:=bf
def E.Ld:bd F.Ld ⟨99,[.tmp 4,.tmp 5],bg Tryz.prog [(2,.c (.dy [aT 10 0,aT 11 1,cQ 12 (.nz (aO 10) (aO 11)),ih 13 (.fn F.Dy [(aO 12)])])),(3,.c (.dy [aT 14 6,aT 15 0,cQ 16 (.qh (aO 15)),iL .lss T.a 17 14 16,aT 18 17,eb 18 true (aT 19 0),eb 18 true (aT 20 6),eb 18 true (cQ 21 (.nz (aO 19) (aO 20))),eb 18 true (ih 22 (.fn F.Dy [(aO 21)])),eb 18 true (aT 23 22),eb 23 false (aT 24 0),eb 23 false (aT 25 6),eb 23 false (cQ 26 (.nz (aO 24) (aO 25))),eb 23 false (ih 27 (.fn F.Bf [(aO 26)])),eb 18 true (pe 28 23 27),eb 18 true (aT 29 28),eb 29 false (aT 30 0),eb 29 false (aT 31 6),eb 29 false (cQ 32 (.nz (aO 30) (aO 31))),eb 29 false (cQ 33 (.bin .eql T.a4 (aO 32) (.const (.int .u8 95)))),eb 18 true (pe 34 29 33),xY 35 18 34])),(6,.c (.dy [aT 41 0,aT 42 1,cQ 43 (.nz (aO 41) (aO 42)),ih 44 (.fn F.Bf [(aO 43)])])),(7,.c (.dy [aT 45 6,aT 46 0,cQ 47 (.qh (aO 46)),iL .lss T.a 48 45 47,aT 49 48,eb 49 true (aT 50 0),eb 49 true (aT 51 6),eb 49 true (cQ 52 (.nz (aO 50) (aO 51))),eb 49 true (ih 53 (.fn F.Bf [(aO 52)])),xY 54 49 53])),(14,.c (.sx [aT 67 0,cQ 68 (.qh (aO 67)),aT 69 1,iL .sub T.a 70 68 69,aT 71 7,aT 72 8,ij 73 1 71 72,eE 74 73,cQ 75 (.qh (aO 74)),iL .geq T.a 76 70 75,aT 77 76,eb 77 true (aT 78 0),eb 77 true (aT 79 1),eb 77 true (aT 80 1),eb 77 true (aT 81 7),eb 77 true (aT 82 8),eb 77 true (ij 83 1 81 82),eb 77 true (eE 84 83),eb 77 true (cQ 85 (.qh (aO 84))),eb 77 true (iL .add T.a 86 80 85),eb 77 true (cQ 87 (.Bx (aO 78) (some (aO 79)) (some (aO 86)))),eb 77 true (aT 88 7),eb 77 true (aT 89 8),eb 77 true (ij 90 1 88 89),eb 77 true (eE 91 90),eb 77 true (iL .eql T.m 92 87 91),xY 93 77 92])),(15,.c (.dy [aT 94 7,aT 95 8,ij 96 1 94 95,eE 97 96,cQ 98 (.qh (aO 97)),aT 4 98,fI 5 (cC 3)]))] (bk Tryz.f157)⟩:=bf
def E.Lo:bd F.Lo ⟨118,[.tmp 4,.tmp 5],bg Tryz.prog [(27,.w)] (bk Tryz.f158)⟩:=bf
def E.Lp:bd F.Lp ⟨51,[.tmp 6,.tmp 7],bg Tryz.prog [] (bk Tryz.f159)⟩:=bf
def E.Lr:bd F.Lr ⟨27,[.tmp 6,.tmp 7],bg Tryz.prog [] (bk Tryz.f160)⟩:=bf
def E.a5:bd F.a5 ⟨44,[.tmp 8,.tmp 9],bg Tryz.prog [(1,.c (.dy [dr 14 .vA,aT 10 14])),(12,.c (.dy [aT 34 10,aT 35 12,pO 36 (.o2 .string (.bool false) false (aO 34) (aO 35)),aT 33 36])),(16,.c (.dy [aT 41 10,aT 42 12,hy (.kt .string (aO 41) (aO 42) (ky true))]))] (bk Tryz.f161)⟩:=bf
def E.nK:bd F.nK ⟨9,[.tmp 3],bg Tryz.prog [] (bk Tryz.f162)⟩:=bf
def E.sn:bd F.sn ⟨18,[.tmp 3],bg Tryz.prog [] (bk Tryz.f163)⟩:=bf
theorem E.w:bd F.w ⟨9,[.tmp 3],bg Tryz.prog [] (bk Tryz.f164)⟩:=bf
theorem E.x:bd F.x ⟨51,[.tmp 4],bg Tryz.prog [] (bk Tryz.f165)⟩:=bf
def E.pt:bd F.pt ⟨18,[.tmp 4],bg Tryz.prog [] (bk Tryz.f166)⟩:=bf
def E.es:bd F.es ⟨23,[.tmp 4,.tmp 5],bg Tryz.prog [(2,.w)] (bk Tryz.f167)⟩:=bf
theorem E.mK:bd F.mK ⟨22,[.tmp 4],bg Tryz.prog [] (bk Tryz.f168)⟩:=bf
def E.sq:bd F.sq ⟨9,[.tmp 3],bg Tryz.prog [] (bk Tryz.f169)⟩:=bf
def E.a9:bd F.a9 ⟨36,[.tmp 4],bg Tryz.prog [] (bk Tryz.f170)⟩:=bf
def E.Jn:bd F.Jn ⟨36,[.tmp 4],bg Tryz.prog [] (bk Tryz.f171)⟩:=bf
theorem E.bp:bd F.bp ⟨40,[.tmp 4,.tmp 5],bg Tryz.prog [] (bk Tryz.f172)⟩:=bf
def E.Jo:bd F.Jo ⟨12,[.iR 6 4],bg Tryz.prog [(1,.s (.t 0 (.t 2 (.f 1 (.t 4 (.f 3 (.f 5 (.t 6 (.f 7 .d .n)) .n) (.f 5 (.f 3 (.t 6 (.f 7 .d .n)) .n) .n))) (.f 3 (.f 1 (.t 4 (.f 5 (.t 6 (.f 7 .d .n)) .n)) .n) .n)))))] (bk Tryz.f173)⟩:=bf
def E.ex:bd F.ex ⟨60,[.tmp 6,.tmp 7],bg Tryz.prog [] (bk Tryz.f174)⟩:=bf
def E.gI:bd F.gI ⟨9,[.tmp 3],bg Tryz.prog [] (bk Tryz.f176)⟩:=bf
def E.CA:bd F.CA ⟨45,[.iR 6 2],bg Tryz.prog [(1,.s (.q 0 2 (.q 3 2 (.q 6 2 (.a 2 (.t 9 (.a 5 (.f 8 (.f 10 (.t 11 (.f 12 (.t 13 (.f 14 .d .n)) .n)) .n) .n) .n)) .n)))))] (bk Tryz.f177)⟩:=bf
def E.gX:bd F.gX ⟨17,[.tmp 2],bg Tryz.prog [] (bk Tryz.f178)⟩:=bf
def E.EL:bd F.EL ⟨20,[.tmp 4],bg Tryz.prog [(1,.c (.dy [aT 7 0,dr 8 (.Bv (aO 7))])),(2,.c (.dy [dr 9 (.Bl (aO 8)),cQ 10 (.ext (aO 9) 0)])),(6,.c (.dy [aT 18 0,cQ 19 (.qh (aO 18)),aT 4 19]))] (bk Tryz.f179)⟩:=bf
theorem E.y:bd F.y ⟨13,[.tmp 2],bg Tryz.prog [] (bk Tryz.f180)⟩:=bf
def E.wK:bd F.wK ⟨52,[.tmp 8,.tmp 9],bg Tryz.prog [] (bk Tryz.f181)⟩:=bf
def E.ej:bd F.ej ⟨12,[.tmp 4,.tmp 5],bg Tryz.prog [] (bk Tryz.f182)⟩:=bf
theorem E.bF:bd F.bF ⟨74,[.tmp 6,.tmp 7],bg Tryz.prog [] (bk Tryz.f183)⟩:=bf
theorem E.aH:bd F.aH ⟨33,[.tmp 4,.tmp 5],bg Tryz.prog [] (bk Tryz.f184)⟩:=bf
theorem E.aR:bd F.aR ⟨38,[.tmp 4,.tmp 5],bg Tryz.prog [] (bk Tryz.f185)⟩:=bf
theorem E.bn:bd F.bn ⟨7,[.tmp 2],bg Tryz.prog [] (bk Tryz.f186)⟩:=bf
def E.bC:bd F.bC ⟨21,[],bg Tryz.prog [] (bk Tryz.f187)⟩:=bf
def E.EM:bd F.EM ⟨77,[],bg Tryz.prog [(7,.s (.q 0 2 (.q 4 2 (.a 2 (.t 3 (.t 6 (.f 7 .d .n))) .n)))),(9,.s (.q 0 10 (.f 10 .d .n))),(15,.s (.q 0 9 (.f 9 .d .n)))] (bk Tryz.f188)⟩:=bf
def E.z:bd F.z ⟨56,[],bg Tryz.prog [(2,.s (.q 0 15 (.f 15 .d .n))),(3,.s (.q 0 15 (.f 15 (.f 16 .d .n) .n)))] (bk Tryz.f189)⟩:=bf
def E.b6:bd F.b6 ⟨26,[],bg Tryz.prog [(0,.s (.q 0 19 (.f 19 .d .n)))] (bk Tryz.f190)⟩:=bf
def E.cM:bd F.cM ⟨18,[.tmp 4,.tmp 5],bg Tryz.prog [] (bk Tryz.f196)⟩:=bf
def E.eN:bd F.eN ⟨56,[.tmp 2],bg Tryz.prog [] (bk Tryz.f197)⟩:=bf
def E.fW:bd F.fW ⟨20,[.tmp 2,.tmp 3],bg Tryz.prog [(5,.w)] (bk Tryz.f198)⟩:=bf
def E.jn:bd F.jn ⟨33,[.tmp 4,.tmp 5],bg Tryz.prog [(1,.w)] (bk Tryz.f199)⟩:=bf
def E.Mv:bd F.Mv ⟨28,[.tmp 4],bg Tryz.prog [(7,.w)] (bk Tryz.f200)⟩:=bf
def E.Ml:bd F.Ml ⟨89,[.tmp 6],bg Tryz.prog [(7,.w),(17,.w)] (bk Tryz.f201)⟩:=bf
def E.Mo:bd F.Mo ⟨47,[.tmp 4,.iR 6 5,.tmp 6],bg Tryz.prog [(4,.s (.q 0 5 (.q 6 2 (.q 14 2 (.a 5 (.q 8 2 (.t 18 (.a 10 (.q 11 2 (.a 13 (.t 16 (.a 17 (.f 19 (.t 20 .d) .n) .n)) .n)) .n))) .n)))))] (bk Tryz.f202)⟩:=bf
def E.Mn:bd F.Mn ⟨120,[.tmp 8],bg Tryz.prog [(8,.s (.q 0 10 (.f 10 (.f 11 (.t 12 .d) .n) .n))),(10,.s (.q 0 16 (.f 16 (.f 17 (.t 18 .d) .n) .n))),(12,.s (.q 0 13 (.f 13 (.f 14 (.t 15 .d) .n) .n))),(14,.s (.q 0 10 (.f 10 (.f 11 (.t 12 .d) .n) .n))),(19,.w)] (bk Tryz.f203)⟩:=bf
def E.Mp:bd F.Mp ⟨35,[.tmp 10],bg Tryz.prog [(2,.s (.q 0 6 (.t 7 (.a 6 (.q 8 2 (.a 10 (.q 11 2 (.f 13 (.t 14 .d) .n)) .n)) .n)))),(3,.s (.q 0 7 (.a 7 (.f 8 (.t 9 .d) .n) .n)))] (bk Tryz.f204)⟩:=bf
def E.Mr:bd F.Mr ⟨19,[.tmp 4],bg Tryz.prog [] (bk Tryz.f205)⟩:=bf
def E.Ms:bd F.Ms ⟨46,[.tmp 2],bg Tryz.prog [] (bk Tryz.f206)⟩:=bf
def E.Ll:bd F.Ll ⟨18,[.tmp 4,.tmp 5],bg Tryz.prog [] (bk Tryz.f207)⟩:=bf
def E.Lj:bd F.Lj ⟨4,[.tmp 2],bg Tryz.prog [] (bk Tryz.f208)⟩:=bf
def E.K9:bd F.K9 ⟨14,[.tmp 4,.tmp 5],bg Tryz.prog [] (bk Tryz.f209)⟩:=bf
def E.K7:bd F.K7 ⟨14,[.tmp 4,.tmp 5],bg Tryz.prog [] (bk Tryz.f210)⟩:=bf
def E.K8:bd F.K8 ⟨14,[.tmp 4,.tmp 5],bg Tryz.prog [] (bk Tryz.f211)⟩:=bf
def E.L3:bd F.L3 ⟨23,[.tmp 2],bg Tryz.prog [] (bk Tryz.f212)⟩:=bf
def E.L6:bd F.L6 ⟨31,[.tmp 4],bg Tryz.prog [] (bk Tryz.f213)⟩:=bf
def E.L7:bd F.L7 ⟨37,[.tmp 2],bg Tryz.prog [] (bk Tryz.f214)⟩:=bf
def E.LB:bd F.LB ⟨21,[.tmp 6],bg Tryz.prog [] (bk Tryz.f215)⟩:=bf
def E.LA:bd F.LA ⟨96,[.tmp 6],bg Tryz.prog [(19,.w)] (bk Tryz.f216)⟩:=bf
def E.Dy:bd F.Dy ⟨17,[.tmp 2],bg Tryz.prog [] (bk Tryz.f217)⟩:=bf
def E.Bf:bd F.Bf ⟨9,[.tmp 2],bg Tryz.prog [] (bk Tryz.f218)⟩:=bf
def E.Le:bd F.Le ⟨2,[.tmp 0],bg Tryz.prog [] (bk Tryz.f219)⟩:=bf
def E.Lk:bd F.Lk ⟨41,[.iR 6 6,.tmp 7],bg Tryz.prog [(1,.w)] (bk Tryz.f220)⟩:=bf
def E.GU:bd F.GU ⟨7,[.tmp 2],bg Tryz.prog [] (bk Tryz.f221)⟩:=bf
def E.Lf:bd F.Lf ⟨32,[.iR 6 4,.tmp 5],bg Tryz.prog [(1,.w)] (bk Tryz.f222)⟩:=bf
def E.EO:bd F.EO ⟨9,[.tmp 3],bg Tryz.prog [] (bk Tryz.f224)⟩:=bf
def E.Jx:bd F.Jx ⟨28,[.tmp 4],bg Tryz.prog [] (bk Tryz.f225)⟩:=bf
def E.Jy:bd F.Jy ⟨23,[.tmp 6],bg Tryz.prog [] (bk Tryz.f226)⟩:=bf
def E.Jz:bd F.Jz ⟨11,[.tmp 2],bg Tryz.prog [] (bk Tryz.f227)⟩:=bf
def E.JA:bd F.JA ⟨85,[.tmp 4],bg Tryz.prog [] (bk Tryz.f228)⟩:=bf
def E.JB:bd F.JB ⟨47,[.tmp 2],bg Tryz.prog [(10,.s (.q 0 2 (.q 3 2 (.a 2 (.t 6 (.f 5 (.f 7 (.t 8 (.f 9 .d .n)) .n) .n)) .n))))] (bk Tryz.f233)⟩:=bf
def E.f0:bd F.f0 ⟨9,[.tmp 2],bg Tryz.prog [] (bk Tryz.f234)⟩:=bf
def E.f1:bd F.f1 ⟨14,[.tmp 0],bg Tryz.prog [(1,.c (.dy [dr 1 .vA,cQ 2 (.h3 [dN,dN,dN,.nilFunc] [(0,1),(1,1),(2,1),(3,1)] [(0,(cC 1)),(1,(cC 1)),(2,(cC 1)),(3,(.func F.ac))]),hy (.kt (.int .i64) (aO 1) (cC 9) (aO 2)),cQ 3 (.h3 [dN,dN,dN,.nilFunc] [(0,1),(1,1),(2,1),(3,1)] [(0,(cC 1)),(1,(cC 0)),(2,(cC 0)),(3,(.func F.nL))]),hy (.kt (.int .i64) (aO 1) (cC 10) (aO 3)),cQ 4 (.h3 [dN,dN,dN,.nilFunc] [(0,1),(1,1),(2,1),(3,1)] [(0,(cC 2)),(1,(cC 0)),(2,(cC 0)),(3,(.func F.pn))]),hy (.kt (.int .i64) (aO 1) (cC 11) (aO 4)),cQ 5 (.h3 [dN,dN,dN,.nilFunc] [(0,1),(1,1),(2,1),(3,1)] [(0,(cC 2)),(1,(cC 0)),(2,(cC 0)),(3,(.func F.rB))]),hy (.kt (.int .i64) (aO 1) (cC 12) (aO 5)),cQ 6 (.h3 [dN,dN,dN,.nilFunc] [(0,1),(1,1),(2,1),(3,1)] [(0,(cC 2)),(1,(cC 0)),(2,(cC 0)),(3,(.func F.tn))]),hy (.kt (.int .i64) (aO 1) (cC 13) (aO 6)),ih 7 (.fn F.e [(cC (-1)),(.func F.tp)]),hy (.kt (.int .i64) (aO 1) (cC 14) (aO 7)),ih 8 (.fn F.e [(cC (-1)),(.func F.nM)]),hy (.kt (.int .i64) (aO 1) (cC 15) (aO 8)),ih 9 (.fn F.e [(cC 0),(.func F.gp)]),hy (.kt (.int .i64) (aO 1) (cC 16) (aO 9)),ih 10 (.fn F.e [(cC 0),(.func F.rC)]),hy (.kt (.int .i64) (aO 1) (cC 17) (aO 10)),ih 11 (.fn F.e [(cC 1),(.func F.wc)]),hy (.kt (.int .i64) (aO 1) (cC 18) (aO 11)),ih 12 (.fn F.e [(cC 1),(.func F.we)]),hy (.kt (.int .i64) (aO 1) (cC 19) (aO 12)),aT 13 1,aT 0 13]))] (bk Tryz.f235)⟩:=bf
def E.f2:bd F.f2 ⟨94,[.tmp 8],bg Tryz.prog [(1,.w),(8,.c (.rf (.take (aT 33 0) (.take (cQ 34 (.xA (aO 33))) (.take (fq 35 1 34) (.take (eE 36 35) (.take (fq 37 0 5) (.take (eE 38 37) (.take (pO 39 (.o2 (.int .i64) (.agg #[dN,dN,dN,.nilFunc]) true (aO 36) (aO 38))) (.take (aT 32 39) (.take (cQ 40 (.ext (aO 32) 0)) (.take (cQ 41 (.ext (aO 32) 1)) (.alt (dr 12 (.new T.nO (.agg #[dN,dN,dN,.nilFunc]))) (.ff (hy (.lZ 4 (aO 12) (aO 40))) (.take (aT 13 41) .done) .nil) .nil))))))))))))),(10,.w),(14,.s (.q 0 14 (.a 14 (.f 15 (.q 16 2 (.f 18 .d .n)) .n) .n)))] (bk Tryz.f236)⟩:=bf
def E.pn:bd F.pn ⟨12,[.tmp 4,.tmp 5],bg Tryz.prog [] (bk Tryz.f237)⟩:=bf
def E.f3:bd F.f3 ⟨96,[.tmp 4,.tmp 5],bg Tryz.prog [(7,.w),(11,.w)] (bk Tryz.f238)⟩:=bf
def E.f4:bd F.f4 ⟨45,[.tmp 6,.tmp 7,.tmp 8],bg Tryz.prog [(3,.w),(4,.w)] (bk Tryz.f239)⟩:=bf
def E.f5:bd F.f5 ⟨15,[.tmp 2],bg Tryz.prog [(1,.w)] (bk Tryz.f240)⟩:=bf
def E.f6:bd F.f6 ⟨15,[.tmp 4,.tmp 5],bg Tryz.prog [] (bk Tryz.f246)⟩:=bf
def E.f7:bd F.f7 ⟨208,[.iR 5 2],bg Tryz.prog [(6,.s (.q 0 17 (.a 17 (.q 18 2 (.a 20 (.f 21 (.t 22 (.f 23 .d .n)) .n) .n)) .n))),(11,.s (.q 0 9 (.a 9 (.f 10 (.t 11 (.f 12 .d .n)) .n) .n))),(16,.s (.q 0 4 (.a 4 (.a 5 (.f 6 (.t 7 (.f 8 .d .n)) .n) .n) .n))),(21,.s (.q 0 27 (.f 27 .d .n))),(23,.s (.q 0 13 (.a 13 (.f 14 .d .n) .n))),(24,.w),(25,.s (.q 0 23 (.f 23 .d .n)))] (bk Tryz.f247)⟩:=bf
def E.Mq:bd F.Mq ⟨24,[.tmp 4],bg Tryz.prog [(3,.w)] (bk Tryz.f248)⟩:=bf
def E.La:bd F.La ⟨22,[.tmp 6,.tmp 7],bg Tryz.prog [] (bk Tryz.f249)⟩:=bf
def E.LC:bd F.LC ⟨39,[.tmp 4],bg Tryz.prog [(9,.w)] (bk Tryz.f250)⟩:=bf
def E.LD:bd F.LD ⟨25,[.tmp 6,.tmp 7],bg Tryz.prog [] (bk Tryz.f251)⟩:=bf
def E.Lq:bd F.Lq ⟨14,[.tmp 4],bg Tryz.prog [] (bk Tryz.f252)⟩:=bf
def E.JC:bd F.JC ⟨12,[.tmp 3],bg Tryz.prog [] (bk Tryz.f254)⟩:=bf
def E.ge:bd F.ge ⟨10,[.tmp 4],bg Tryz.prog [] (bk Tryz.f255)⟩:=bf
def E.EP:bd F.EP ⟨39,[.iR 6 6,.tmp 7,.tmp 8],bg Tryz.prog [(3,.w)] (bk Tryz.f256)⟩:=bf
def E.ER:bd F.ER ⟨25,[.tmp 4,.tmp 5],bg Tryz.prog [(3,.w)] (bk Tryz.f257)⟩:=bf
def E.jr:bd F.jr ⟨32,[.tmp 6],bg Tryz.prog [] (bk Tryz.f258)⟩:=bf
def E.ac:bd F.ac ⟨9,[.tmp 4,.tmp 5],bg Tryz.prog [] (bk Tryz.f260)⟩:=bf
def E.JD:bd F.JD ⟨4,[.tmp 2],bg Tryz.prog [] (bk Tryz.f261)⟩:=bf
def E.nL:bd F.nL ⟨10,[.tmp 4,.tmp 5],bg Tryz.prog [] (bk Tryz.f262)⟩:=bf
def E.rB:bd F.rB ⟨12,[.tmp 4,.tmp 5],bg Tryz.prog [] (bk Tryz.f263)⟩:=bf
def E.tn:bd F.tn ⟨12,[.tmp 4,.tmp 5],bg Tryz.prog [] (bk Tryz.f264)⟩:=bf
theorem E.e:bd F.e ⟨8,[.iR 4 4],bg Tryz.prog [] (bk Tryz.f265)⟩:=bf
def E.tp:bd F.tp ⟨8,[.tmp 4],bg Tryz.prog [] (bk Tryz.f266)⟩:=bf
def E.nM:bd F.nM ⟨8,[.tmp 4],bg Tryz.prog [] (bk Tryz.f267)⟩:=bf
def E.gp:bd F.gp ⟨8,[.tmp 4],bg Tryz.prog [] (bk Tryz.f268)⟩:=bf
def E.rC:bd F.rC ⟨8,[.tmp 4],bg Tryz.prog [] (bk Tryz.f269)⟩:=bf
def E.wc:bd F.wc ⟨11,[.tmp 4],bg Tryz.prog [] (bk Tryz.f270)⟩:=bf
def E.we:bd F.we ⟨11,[.tmp 4],bg Tryz.prog [] (bk Tryz.f271)⟩:=bf
def E.JE:bd F.JE ⟨26,[.tmp 4],bg Tryz.prog [(5,.c (.dy [aT 18 1,aT 19 0,pO 20 (.o2 (.int .i64) (.agg #[dN,dN,dN,.nilFunc]) true (aO 18) (aO 19)),aT 17 20,cQ 21 (.ext (aO 17) 0),cQ 22 (.ext (aO 17) 1),dr 5 (.new T.nO (.agg #[dN,dN,dN,.nilFunc])),hy (.lZ 4 (aO 5) (aO 21)),aT 6 22]))] (bk Tryz.f272)⟩:=bf
def E.bi:bd F.bi ⟨8,[.tmp 4],bg Tryz.prog [] (bk Tryz.f273)⟩:=bf
def E.JF:bd F.JF ⟨24,[.tmp 6,.tmp 7],bg Tryz.prog [] (bk Tryz.f274)⟩:=bf
def E.JG:bd F.JG ⟨21,[.tmp 4,.tmp 5],bg Tryz.prog [] (bk Tryz.f275)⟩:=bf
def E.Fl:bd F.Fl ⟨12,[.tmp 4,.tmp 5],bg Tryz.prog [] (bk Tryz.f288)⟩:=bf
def E.JH:bd F.JH ⟨117,[.tmp 6,.tmp 7],bg Tryz.prog [(13,.w),(26,.w)] (bk Tryz.f289)⟩:=bf
def E.JI:bd F.JI ⟨26,[.tmp 4,.tmp 5],bg Tryz.prog [(1,.w)] (bk Tryz.f290)⟩:=bf
def E.Lb:bd F.Lb ⟨9,[.tmp 2],bg Tryz.prog [] (bk Tryz.f291)⟩:=bf
def E.go:bd F.go ⟨32,[.tmp 6,.tmp 7],bg Tryz.prog [] (bk Tryz.f292)⟩:=bf
def E.ES:bd F.ES ⟨8,[.tmp 4],bg Tryz.prog [] (bk Tryz.f293)⟩:=bf
def E.ET:bd F.ET ⟨8,[.tmp 4],bg Tryz.prog [] (bk Tryz.f294)⟩:=bf
theorem E.k:bd F.k ⟨12,[.tmp 5,.tmp 6],bg Tryz.prog [] (bk Tryz.f295)⟩:=bf
def E.JK:bd F.JK ⟨18,[.tmp 2],bg Tryz.prog [] (bk Tryz.f296)⟩:=bf
def E.JL:bd F.JL ⟨18,[.tmp 4,.tmp 5],bg Tryz.prog [] (bk Tryz.f311)⟩:=bf
def E.p0:bd F.p0 ⟨34,[.tmp 4],bg Tryz.prog [(2,.s (.q 0 17 (.f 17 (.q 18 2 .d) .n)))] (bk Tryz.f335)⟩:=bf
def E.JM:bd F.JM ⟨42,[.tmp 6],bg Tryz.prog [] (bk Tryz.f336)⟩:=bf
def E.cT:bd F.cT ⟨80,[.tmp 4],bg Tryz.prog [(3,.w),(5,.s (.q 0 18 (.f 18 (.t 19 .d) .n)))] (bk Tryz.f337)⟩:=bf
def E.EU:bd F.EU ⟨40,[.tmp 4],bg Tryz.prog [(2,.s (.q 0 23 (.f 23 (.q 24 2 .d) .n)))] (bk Tryz.f338)⟩:=bf
def E.wo:bd F.wo ⟨99,[.tmp 4],bg Tryz.prog [(2,.s (.q 0 13 (.a 13 (.f 14 .d .n) .n))),(3,.w),(6,.w),(8,.c (.dy [aT 89 1,cQ 90 (.xA (aO 89)),fq 91 2 90,eE 92 91,aT 93 10,aT 94 11,cQ 95 (.jf 1 (aO 92) (some (aO 93)) (some (aO 94)) none),aT 96 12,dr 97 (.raw (.call ⟨.builtin .copy,#[(aO 95),(aO 96)],#[T.b,T.b]⟩) T.a)]))] (bk Tryz.f339)⟩:=bf
def E.gs:bd F.gs ⟨26,[.tmp 4,.tmp 5],bg Tryz.prog [] (bk Tryz.f340)⟩:=bf
def E.gt:bd F.gt ⟨24,[.tmp 2],bg Tryz.prog [] (bk Tryz.f341)⟩:=bf
def E.JN:bd F.JN ⟨17,[.tmp 4],bg Tryz.prog [(3,.c (.dy [aT 12 5,cQ 13 (.jf 1 (aO 12) (some (cC 1)) none none),aT 14 1,dr 15 (.raw (.call ⟨.builtin .copy,#[(aO 13),(aO 14)],#[T.b,T.b]⟩) T.a)]))] (bk Tryz.f342)⟩:=bf
def E.JO:bd F.JO ⟨24,[.tmp 2],bg Tryz.prog [(4,.c (.rf (.take (aT 11 3) (.take (aT 12 0) (.take (aT 13 0) (.take (cQ 14 (.og 1 (aO 13) (cC 0))) (.take (eE 15 14) (.take (cQ 16 (.bin .add T.a (cC 1) (aO 15))) (.take (aT 17 0) (.take (cQ 18 (.og 1 (aO 17) (cC 0))) (.take (eE 19 18) (.take (cQ 20 (.bin .add T.a (cC 1) (aO 19))) (.take (cQ 21 (.jf 1 (aO 12) (some (cC 1)) (some (aO 16)) (some (aO 20)))) (.ff (dr 22 (.raw (.call ⟨.builtin .copy,#[(aO 11),(aO 21)],#[T.b,T.b]⟩) T.a)) .done .nil))))))))))))))] (bk Tryz.f343)⟩:=bf
def E.JP:bd F.JP ⟨15,[.tmp 6],bg Tryz.prog [] (bk Tryz.f344)⟩:=bf
def E.am:bd F.am ⟨5,[.tmp 2],bg Tryz.prog [] (bk Tryz.f345)⟩:=bf
def E.EW:bd F.EW ⟨67,[.tmp 4],bg Tryz.prog [(1,.w),(3,.c (.dy [aT 33 1,cQ 34 (.xA (aO 33)),fq 35 2 34,eE 36 35,aT 37 5,aT 38 6,cQ 39 (.jf 1 (aO 36) (some (aO 37)) (some (aO 38)) none),aT 40 7,dr 41 (.raw (.call ⟨.builtin .copy,#[(aO 39),(aO 40)],#[T.b,T.b]⟩) T.a)])),(4,.s (.q 0 23 (.f 23 (.q 24 2 .d) .n)))] (bk Tryz.f346)⟩:=bf
def E.JQ:bd F.JQ ⟨19,[.tmp 2,.tmp 3,.tmp 4],bg Tryz.prog [(4,.s (.q 0 4 (.q 5 3 (.a 4 (.q 8 3 .d) .n))))] (bk Tryz.f347)⟩:=bf
theorem E.f:bd F.f ⟨42,[.tmp 4], (cS [fI 4 (.const iK)] (cS [aT 8 0,aT 9 1,ow 10 F.eW [8,9],aT 5 10] (.seq (cS [aT 11 5,ki .eql T.a 12 11 (-1)] (kh 12 (cS [aT 13 0,aT 4 13] .ret) .skip)) (.seq (cS [aT 14 5,ki .add T.a 15 14 1,aT 6 15] (.cy 0 (.loop (.seq (cS [aT 16 6,aT 17 0,l2 18 17,iL .lss T.a 19 16 18] (kh 19 .skip (.exit 0))) (.seq (.cy 1 (cS [aT 22 0,aT 23 6,ij 24 3 22 23,ig 25 3 24,dr 7 (.new T.n (.agg #[dN,dN,iK])),qy 3 7 25] (cS [aT 26 1,ig 27 3 7,ih 28 (.val (aO 26) [(aO 27)]),cQ 29 (.un .not (aO 28))] (kh 29 (cS [aT 30 0,aT 31 5,ig 32 3 7,ij 33 3 30 31,qy 3 33 32] (.dy [aT 34 5,ki .add T.a 35 34 1,aT 5 35])) .skip)))) (.dy [aT 20 6,ki .add T.a 21 20 1,aT 6 21])))))) (cS [aT 36 0,aT 37 5,cQ 38 (.jf 3 (aO 36) (some (aO 37)) none none),hy (.raw (.call ⟨.builtin .clear,#[(aO 38)],#[T.rC]⟩) T.z)] (cS [aT 39 0,aT 40 5,cQ 41 (.jf 3 (aO 39) none (some (aO 40)) none),aT 4 41] .ret))))))⟩:=bf
def E.II:bd F.II ⟨5,[.tmp 2], (cS [fI 2 (.const iK)] (cS [aT 3 0,ih 4 (.fn F.CI [(.const iK),(aO 3)]),aT 2 4] .ret))⟩:=bf
theorem E.h:bd F.h ⟨9,[.tmp 4], (cS [fI 4 (ky false)] (cS [aT 5 0,aT 6 1,ow 7 F.j [5,6],ki .geq T.a 8 7 0,aT 4 8] .ret))⟩:=bf
def E.eW:bd F.eW ⟨19,[.tmp 4], (cS [fI 4 (cC 0)] (.seq (cS [aT 6 0,l2 7 6,fI 8 (cC 0)] (.cy 0 (.loop (cS [iL .lss T.a 9 8 7] (vQ 9 0
 (.seq (.cy 1 (cS [aT 10 8,aT 5 10] (cS [aT 11 1,aT 12 0,aT 13 5,ij 14 3 12 13,ig 15 3 14,ih 16 (.val (aO 11) [(aO 15)])] (kh 16 (cS [aT 17 5,aT 4 17] .ret) .skip)))) (vP T.a 18 8))))))) (cS [fI 4 (cC (-1))] .ret)))⟩:=bf
theorem E.j:bd F.j ⟨19,[.tmp 4], (cS [fI 4 (cC 0)] (.seq (cS [aT 6 0,l2 7 6,fI 8 (cC 0)] (.cy 0 (.loop (cS [iL .lss T.a 9 8 7] (vQ 9 0
 (.seq (.cy 1 (cS [aT 10 8,aT 5 10] (cS [aT 11 1,aT 12 0,aT 13 5,ij 14 1 12 13,eE 15 14,ih 16 (.val (aO 11) [(aO 15)])] (kh 16 (cS [aT 17 5,aT 4 17] .ret) .skip)))) (vP T.a 18 8))))))) (cS [fI 4 (cC (-1))] .ret)))⟩:=bf
def E.JR:bd F.JR ⟨8,[.tmp 2], (cS [fI 2 (.const iK)] (.seq (cS [aT 3 0,cQ 4 (.bin .eql T.b (aO 3) (.const iK))] (kh 4 (cS [fI 2 (.const iK)] .ret) .skip)) (cS [dr 5 (.kk T.a 0 1 [] []),aT 6 0,dr 7 (.app T.b T.a 1 8 (aO 5) (aO 6)),aT 2 7] .ret)))⟩:=bf
theorem E.g6:bd F.g6 ⟨9,[.tmp 4], (cS [fI 4 (ky false)] (cS [aT 5 0,aT 6 1,ow 7 F.g0 [5,6],ki .geq T.a 8 7 0,aT 4 8] .ret))⟩:=bf
def E.ae:bd F.ae ⟨61,[.tmp 2], (cS [fI 2 (.const iK)] (.seq (cS [aT 6 0,l2 7 6,ki .lss T.a 8 7 2] (kh 8 (cS [aT 9 0,aT 2 9] .ret) .skip)) (.seq (cS [fI 3 (cC 1)] (.cy 0 (.loop (.seq (cS [aT 10 3,aT 11 0,l2 12 11,iL .lss T.a 13 10 12] (kh 13 .skip (.exit 0))) (.seq (.cy 1 (.seq (.sx [aT 16 0,aT 17 3,ij 18 2 16 17,ig 19 2 18,aT 20 0,aT 21 3,ki .sub T.a 22 21 1,ij 23 2 20 22,ig 24 2 23,iL .eql T.e 25 19 24]) (kh 25 (cS [aT 26 0,aT 27 3,cQ 28 (.jf 2 (aO 26) (some (aO 27)) none none),aT 4 28] (.seq (cS [fI 5 (cC 1)] (.cy 2 (.loop (.seq (cS [aT 29 5,aT 30 4,l2 31 30,iL .lss T.a 32 29 31] (kh 32 .skip (.exit 2))) (.seq (.cy 3 (.seq (.sx [aT 35 4,aT 36 5,ij 37 2 35 36,ig 38 2 37,aT 39 4,aT 40 5,ki .sub T.a 41 40 1,ij 42 2 39 41,ig 43 2 42,iL .neq T.e 44 38 43]) (kh 44 (cS [aT 45 0,aT 46 3,aT 47 4,aT 48 5,ij 49 2 47 48,ig 50 2 49,ij 51 2 45 46,qy 2 51 50] (.dy [aT 52 3,ki .add T.a 53 52 1,aT 3 53])) .skip))) (.dy [aT 33 5,ki .add T.a 34 33 1,aT 5 34])))))) (cS [aT 54 0,aT 55 3,cQ 56 (.jf 2 (aO 54) (some (aO 55)) none none),hy (.raw (.call ⟨.builtin .clear,#[(aO 56)],#[T.t]⟩) T.z)] (cS [aT 57 0,aT 58 3,cQ 59 (.jf 2 (aO 57) none (some (aO 58)) none),aT 2 59] .ret)))) .skip))) (.dy [aT 14 3,ki .add T.a 15 14 1,aT 3 15])))))) (cS [aT 60 0,aT 2 60] .ret))))⟩:=bf
def E.g7:bd F.g7 ⟨9,[.tmp 4], (cS [fI 4 (ky false)] (cS [aT 5 0,aT 6 1,ow 7 F.g4 [5,6],ki .geq T.a 8 7 0,aT 4 8] .ret))⟩:=bf
def E.g0:bd F.g0 ⟨19,[.tmp 4], (cS [fI 4 (cC 0)] (.seq (cS [aT 6 0,l2 7 6,fI 8 (cC 0)] (.cy 0 (.loop (cS [iL .lss T.a 9 8 7] (vQ 9 0
 (.seq (.cy 1 (cS [aT 10 8,aT 5 10] (cS [aT 11 1,aT 12 0,aT 13 5,ij 14 6 12 13,ig 15 6 14,ih 16 (.val (aO 11) [(aO 15)])] (kh 16 (cS [aT 17 5,aT 4 17] .ret) .skip)))) (vP T.a 18 8))))))) (cS [fI 4 (cC (-1))] .ret)))⟩:=bf
theorem E.g1:bd F.g1 ⟨8,[.tmp 2], (cS [fI 2 (.const iK)] (.seq (cS [aT 3 0,cQ 4 (.bin .eql T.rB (aO 3) (.const iK))] (kh 4 (cS [fI 2 (.const iK)] .ret) .skip)) (cS [dr 5 (.kk T.pn 0 2 [] []),aT 6 0,dr 7 (.app T.rB T.pn 2 24 (aO 5) (aO 6)),aT 2 7] .ret)))⟩:=bf
theorem E.g2:bd F.g2 ⟨8,[.tmp 2], (cS [fI 2 (.const iK)] (.seq (cS [aT 3 0,cQ 4 (.bin .eql T.tn (aO 3) (.const iK))] (kh 4 (cS [fI 2 (.const iK)] .ret) .skip)) (cS [dr 5 (.kk T.l 0 6 [] []),aT 6 0,dr 7 (.app T.tn T.l 6 56 (aO 5) (aO 6)),aT 2 7] .ret)))⟩:=bf
theorem E.g3:bd F.g3 ⟨8,[.tmp 2], (cS [fI 2 (.const iK)] (.seq (cS [aT 3 0,cQ 4 (.bin .eql T.tp (aO 3) (.const iK))] (kh 4 (cS [fI 2 (.const iK)] .ret) .skip)) (cS [dr 5 (.kk T.u 0 6 [] []),aT 6 0,dr 7 (.app T.tp T.u 6 56 (aO 5) (aO 6)),aT 2 7] .ret)))⟩:=bf
theorem E.g4:bd F.g4 ⟨19,[.tmp 4], (cS [fI 4 (cC 0)] (.seq (cS [aT 6 0,l2 7 6,fI 8 (cC 0)] (.cy 0 (.loop (cS [iL .lss T.a 9 8 7] (vQ 9 0
 (.seq (.cy 1 (cS [aT 10 8,aT 5 10] (cS [aT 11 1,aT 12 0,aT 13 5,ij 14 6 12 13,ig 15 6 14,ih 16 (.val (aO 11) [(aO 15)])] (kh 16 (cS [aT 17 5,aT 4 17] .ret) .skip)))) (vP T.a 18 8))))))) (cS [fI 4 (cC (-1))] .ret)))⟩:=bf
theorem E.g5:bd F.g5 ⟨8,[.tmp 2], (cS [fI 2 (.const iK)] (.seq (cS [aT 3 0,cQ 4 (.bin .eql T.t (aO 3) (.const iK))] (kh 4 (cS [fI 2 (.const iK)] .ret) .skip)) (cS [dr 5 (.kk T.e 0 2 [] []),aT 6 0,dr 7 (.app T.t T.e 2 16 (aO 5) (aO 6)),aT 2 7] .ret)))⟩:=bf
end Go.Proofs.R
namespace a8
open Go Go.RowKit
section
variable{α:Type}{P:Program}{f:FuncId}{t BD:TypeId}{sz:Nat}{enc:α->List Value}
def Pf(cF t:F_)(sz b:Nat):nj:=⟨8,[.tmp 2],
 (.seq (.dy [fI 2 (.const (.slice none 0 0))])
 (.seq (.seq (.dy [aT 3 0,cQ 4 (.bin .eql cF (aO 3) (.const (.slice none 0 0)))])
 (.cond (aO 4) (.seq (.dy [fI 2 (.const (.slice none 0 0))])
 .ret)
 .skip))
 (.seq (.dy [dr 5 (.kk t 0 sz [] []),aT 6 0,dr 7 (.app cF t sz b (aO 5) (aO 6)),aT 2 7])
 .ret)))⟩
def Yh{R:A_->Addr->α->Prop}{C:A_->C_ B_->α->Prop}[Rel R C sz]{cF:F_}{b:Nat}(hm:P.follows .mixedOrders=true)(de:lK P f=some (Pf cF t sz b))(Gz:P.underlying cF=some (.slice t))
  (v:B_)(xs:C_ α)(w:A_)(h:bm sz R w v xs)(ak:xs.length*b<=140737488355328) :
  aX P f #[v] w λbU w'=>(∃cn:C_ (fC sz),cn.length=xs.length/\pV t sz w.heap.size w' bU cn/\∀i (h1:i<cn.length) (I:i<xs.length),C w' cn[i].1 xs[i])/\Ext w w':=by
 obtain⟨bO,c1,rfl,bx⟩:=h.form;refine _g hm de (args:=[_]) (Nat.le_of_ble_eq_true rfl) ?_;dsimp only[Pf,aO,cC,ky,cQ,pO,dr,ih,hy,eb,aT,fI,fq,eE,ij,ys,l2];refine aa ?_;refine AB6 Gz ?_;refine aa ?_;refine N_ (λg=>?_) (λg=>?_)
 .refine aa ?_
  have:xs=[]:=by
   obtain⟨aN,cap,e,I,ab,aC,a1⟩:=h.ex;injection e with bF aH aR
   subst bF;by_cases af:xs=[]
   .exact af
   .have:=aC af
    cases bO<;>simp_all
  subst this;exact⟨⟨[],rfl,aJ.nil _ _ _ _ _,λi h=>by cases h⟩,Ext.refl _⟩
 obtain⟨a,rfl⟩:∃a,bO=some a:=by cases bO with | none=>cases g | some a=>exact⟨a,rfl⟩
 obtain⟨cn,aE,gu,bw⟩:=h.cells;refine aa ?_;intro w1 bx cN ag al;refine aa ?_;have aQ:pV t sz w.heap.size w1 (.slice (some ⟨bx,0,none⟩) 0 0) []:=aJ.empty cN al;refine _T (ys:=cn) aQ lM (bm.flat lM (λ_ _ h=>h) (bm.ext Flat.ext ag gu)) (by rw[aE]) Ai (by rw[AH9,SO,aE];exact ak) (by have:=gu.len;have e:=h.len;rw[AH9,aE];omega) (by exact ag.size) λbU w' mS aG _=>?_;obtain⟨aN,cap,rfl,_⟩:=mS.form;have ai:Ext w w':=ag.grown aG λk hk=>by injection hk with hk;subst hk;exact cN
 refine aa ?_;exact⟨⟨cn,aE,by simpa using mS,λi h1 I=>Rel.ext (R:=R) ai (bw i h1 I)⟩,ai⟩
def eL.clone{R:A_->Addr->α->Prop}{C:A_->C_ B_->α->Prop}[Rel R C sz]{w w':A_}{v:B_}{xs:C_ α}{cn:C_ (fC sz)}(aE:cn.length=xs.length)(aQ:pV t sz w.heap.size w' v cn)
  (ay:∀{w w':A_} {cs x},C w cs x->C w' cs x)(an:∀i (h1:i<cn.length) (I:i<xs.length),C w' cn[i].1 xs[i]):eL w (λw=>bm sz R w v xs) w':=λaA m=>by
 have ed:=aJ.mod aQ m λk hk a=>by have:=(aQ.lt k hk).1;omega
 exact bm.G6 aE (ed.jN lM) λi h1 I=>ay (an i h1 I)
def IK{R:A_->Addr->α->Prop}{C:A_->C_ B_->α->Prop}[Rel R C sz]{cF:F_}{b:Nat}(hm:P.follows .mixedOrders=true)(de:lK P f=some (Pf cF t sz b))(Gz:P.underlying cF=some (.slice t))
  (ay:∀{w w':A_} {cs x},C w cs x->C w' cs x)(v:B_)(xs:C_ α)(w:A_)(h:bm sz R w v xs)(ak:xs.length*b<=140737488355328) :
  aX P f #[v] w λbU w'=>(∃aN c,bU = .slice aN xs.length c)/\eL w (λw=>bm sz R w bU xs) w'/\Ext w w' :=
 (Yh hm de Gz v xs w h ak).mono λbU w' ⟨⟨cn,aE,aQ,an⟩,he⟩=>by
  have aw:=eL.clone (R:=R) aE aQ ay an;obtain⟨aN,c,e,_⟩:=aw.here.form;exact⟨⟨aN,c,e⟩,aw,he⟩
def Sw(BD:F_)(sz:Nat):nj:=⟨19,[.tmp 4],
 (.seq (.dy [fI 4 (cC 0)])
 (.seq (.seq (.dy [aT 6 0,l2 7 6,fI 8 (cC 0)])
 (.cy 0 (.loop (.seq (.dy [cQ 9 (.bin .lss BD (aO 8) (aO 7))])
 (.seq (.cond (aO 9) .skip
 (.exit 0))
 (.seq (.cy 1 (.seq (.dy [aT 10 8,aT 5 10])
 (.seq (.dy [aT 11 1,aT 12 0,aT 13 5,ij 14 sz 12 13,pO 15 (.k5 sz (aO 14)),ih 16 (.val (aO 11) [(aO 15)])])
 (.cond (aO 16) (.seq (.dy [aT 17 5,aT 4 17])
 .ret)
 .skip))))
 (.dy [cQ 18 (.bin .add BD (aO 8) (cC 1)),aT 8 18])))))))
 (.seq (.dy [fI 4 (cC (-1))])
 .ret)))⟩
def mb(p:α->Bool):C_ α->Nat->Int
 | [],_ => -1
 | x :: r,i=>if p x then i else mb p r (i+1)
def PR{p:α->Bool}{l:C_ α}{k:Nat}(h:k<l.length):mb p (l.drop k) k=if p l[k] then (k:Int) else mb p (l.drop (k+1)) (k+1):=by
 rw[AF0 h];rfl
theorem Jr{p:α->Bool}:∀{l:C_ α} {i:Nat},(0<=mb p l i↔l.any p=true)
 | [],_=>by simp[mb]
 | x :: r,i=>by
  simp only[mb,List.any_cons];by_cases h:p x=true
  .rw[if_pos h];simp[h]
  .rw[if_neg h,Jr];simp[h]
def Sx{R:A_->Addr->α->Prop}{C:A_->C_ B_->α->Prop}[Rel R C sz](hm:P.follows .mixedOrders=true)(de:lK P f=some (Sw BD sz))
  (v:B_)(xs:C_ α)(w:A_)(h:bm sz R w v xs)(g:E_)(aG:okF P g=true)(first cap:C_ B_)(p:α->Bool)
  (ar:∀(i:Nat) (U:i<xs.length) (cs:C_ B_) (w':A_),Ext w w'->C w' cs xs[i]->aX P g (first++[Value.agg cs.toArray]++cap).toArray w' λv bM=>v = .bool (p xs[i])/\Ext w' bM) :
  aX P f #[v,.func (.func g) first.toArray cap.toArray] w λbU w'=>bU = .I (mb p xs 0)/\Ext w w':=by
 obtain⟨bO,c1,rfl,bx⟩:=h.form;refine _g hm de (args:=[_,_]) (Nat.le_of_ble_eq_true rfl) ?_;dsimp only[Sw,aO,cC,ky,cQ,pO,dr,ih,hy,eb,aT,fI,fq,eE,ij,ys,l2];refine aa ?_;refine L_ 8 xs.length [0,1,7] (λ_=>[]) () (λk _ w'=>Ext w w'/\mb p xs 0=mb p (xs.drop k) k) a6 a6 ⟨Ext.refl _,CC⟩ ?_;rintro k _ S aA hk ⟨ai,aP⟩;refine aa ?_;apply I_<;>intro g1
 .have a7:k<xs.length:=Ad
  obtain⟨a,rfl⟩:=h.addr;obtain⟨cs,gu,bw⟩:=Rel.out (h.at k a7);have hlen:=Rel.len (R:=R) bw;rw[PR a7] at aP;refine aa ?_;refine Z_ (gu.ext ai) hlen ?_;refine aa ?_;refine V_ aG (ar k a7 cs aA ai (Rel.ext (R:=R) ai bw)) ?_;rintro _ aM ⟨rfl,ah⟩;refine aa ?_;refine N_ (λg2=>?_) (λg2=>?_)
  .refine aa ?_;exact⟨by rw[aP,if_pos g2],ai.trans ah⟩
  .refine aa ?_;exact⟨a7,aK,(),trivial,ai.trans ah,by rw[aP,if_neg (by simp[g2])]⟩
 .refine aa ?_;exact⟨by rw[aP,AE9 Ad];rfl,ai⟩
def Yr(BD:F_)(g:E_):nj:=⟨9,[.tmp 4],
 (.seq (.dy [fI 4 (ky false)])
 (.seq (.dy [aT 5 0,aT 6 1,ih 7 (.fn g [(aO 5),(aO 6)]),cQ 8 (.bin .geq BD (aO 7) (cC 0)),aT 4 8])
 .ret))⟩
def Ys{R:A_->Addr->α->Prop}{C:A_->C_ B_->α->Prop}[Rel R C sz]{uY:E_}{atN:F_}(hm:P.follows .mixedOrders=true)(JV:lK P uY=some (Yr atN f))(de:lK P f=some (Sw BD sz))
  (v:B_)(xs:C_ α)(w:A_)(h:bm sz R w v xs)(g:E_)(aG:okF P g=true)(first cap:C_ B_)(p:α->Bool)
  (ar:∀(i:Nat) (U:i<xs.length) (cs:C_ B_) (w':A_),Ext w w'->C w' cs xs[i]->aX P g (first++[Value.agg cs.toArray]++cap).toArray w' λv bM=>v = .bool (p xs[i])/\Ext w' bM) :
  aX P uY #[v,.func (.func g) first.toArray cap.toArray] w λbU w'=>bU = .bool (xs.any p)/\Ext w w':=by
 refine _g hm JV (args:=[_,_]) (Nat.le_of_ble_eq_true rfl) ?_;dsimp only[Yr,aO,cC,ky,cQ,pO,dr,ih,hy,eb,aT,fI,fq,eE,ij,ys,l2];refine aa ?_;refine J_ (Sx hm de v xs w h g aG first cap p ar) ?_;rintro _ aA ⟨rfl,ai⟩;refine aa ?_;refine⟨?_,ai⟩;congr 1;rw[AG4,decide_eq_true_eq];exact Jr
end
end a8
namespace a8
open Go Go.RowKit
structure zP(w:World)(a:Addr)(n:Int):Prop where
 cells:fc w a [Value.int .i64 n]
 ok:o.dX n
theorem zP.ext(w w':A_)(a:Addr)(n:Int)(he:Ext w w')(h:zP w a n):zP w' a n:=⟨h.cells.ext he,h.ok⟩
instance awN:pg zP (λn=>[Value.int .i64 n]):=⟨λ_ _ _ h=>h.cells⟩
abbrev ph(w:A_)(v:B_)(l:C_ Int):Prop:=bm 1 zP w v l
theorem ph.ext{w w':A_}{v:B_}{l:C_ Int}(he:Ext w w')(h:ph w v l):ph w' v l:=bm.ext zP.ext he h
def ph.ok{w:A_}{v:B_}{l:C_ Int}(h:ph w v l):∀z∈l,o.dX z:=by
 intro z bA;obtain⟨i,U,rfl⟩:=List.mem_iff_getElem.1 bA;obtain⟨aN,cap,rfl,_⟩:=h.form;obtain⟨a,rfl⟩:=h.addr;exact(h.at i U).ok
def B4(w:A_)(a:Addr)(l:C_ Int):Prop := ∃v,w.cell? a=some v/\ph w v l
theorem B4.ext(w w':A_)(a:Addr)(l:C_ Int)(he:Ext w w')(h:B4 w a l):B4 w' a l:=let ⟨v,h1,I⟩:=h; ⟨v,he.cell h1,I.ext he⟩
abbrev v7(w:A_)(v:B_)(l:C_ (C_ Int)):Prop:=bm 1 B4 w v l
theorem v7.ext{w w':A_}{v:B_}{l:C_ (C_ Int)}(he:Ext w w')(h:v7 w v l):v7 w' v l:=bm.ext B4.ext he h
end a8
namespace o
open Go Go.RowKit a8
structure qA(w:World)(cs:List Value)(v:Env):Prop where
 ex:∃v0 v1 v2 v3,cs=[v0,v1,v2,v3,.int .i64 v.self]/\v7 w v0 v.vars/\ph w v1 v.lens/\ph w v2 v.locals/\v7 w v3 v.at_/\dX v.self
theorem qA.ext{w w':A_}{cs:C_ B_}{v:Env}(he:Ext w w')(h:qA w cs v):qA w' cs v :=
 let ⟨v0,v1,v2,v3,e,ad,h1,I,ab,aC⟩:=h.ex
 ⟨v0,v1,v2,v3,e,ad.ext he,h1.ext he,I.ext he,ab.ext he,aC⟩
def qA.form{w:A_}{cs:C_ B_}{v:Env}(h:qA w cs v):∃a0 bz db c1 a2 c2 a3 bu,cs=[.slice a0 v.vars.length bz,.slice db v.lens.length c1,.slice a2 v.locals.length c2,.slice a3 v.at_.length bu,.I v.self] /\
  v7 w (.slice a0 v.vars.length bz) v.vars/\ph w (.slice db v.lens.length c1) v.lens/\ph w (.slice a2 v.locals.length c2) v.locals/\v7 w (.slice a3 v.at_.length bu) v.at_/\dX v.self /\
  v.vars.length<=9223372036854775807/\v.lens.length<=9223372036854775807/\v.locals.length<=9223372036854775807/\v.at_.length<=9223372036854775807:=by
 obtain⟨v0,v1,v2,v3,rfl,ad,h1,I,ab,aC⟩:=h.ex;obtain⟨a0,bz,rfl,eu⟩:=ad.form;obtain⟨db,c1,rfl,dz⟩:=h1.form;obtain⟨a2,c2,rfl,dJ⟩:=I.form;obtain⟨a3,bu,rfl,dR⟩:=ab.form;exact⟨a0,bz,db,c1,a2,c2,a3,bu,rfl,ad,h1,I,ab,aC,eu,dz,dJ,dR⟩
end o
namespace a8
open Go Go.RowKit
theorem bm.one{α:Type}{sz:Nat}{R:A_->Addr->α->Prop}{w:A_}{v:B_}{xs:C_ α}(h:bm sz R w v xs):v.oneCell'=true:=by
 obtain⟨aN,c,rfl,_⟩:=h.form;rfl
def afZ(_:A_)(cs:C_ B_)(n:Int):Prop:=cs=[Value.int .i64 n]/\o.dX n
instance awY:Rel zP afZ 1 where
 out h:=⟨_,h.cells,rfl,h.ok⟩
 oZ h k:=by obtain⟨rfl,k⟩:=k;exact⟨h,k⟩
 len h:=by rw[h.1];rfl
 one h:=by rw[h.1];simp[Value.oneCell']
 ext _ h:=h
def agh(w:A_)(cs:C_ B_)(l:C_ Int):Prop := ∃v,cs=[v]/\ph w v l
instance aw5:Rel B4 agh 1 where
 out h:=by
  obtain⟨v,h1,I⟩:=h;exact⟨[v],λj u az=>by cases j with | zero=>simp at az;subst az;rw[add_zero];exact h1 | succ j=>simp at az,v,rfl,I⟩
 oZ h k:=by
  obtain⟨v,rfl,k⟩:=k
  have:=h 0 v rfl
  rw[add_zero] at this;exact⟨v,this,k⟩
 len h:=by obtain⟨v,rfl,_⟩:=h;rfl
 one h:=by obtain⟨v,rfl,h⟩:=h;simpa using h.one
 ext e h:=let ⟨v,h1,I⟩:=h; ⟨v,h1,I.ext e⟩
end a8
namespace o
open Go Go.RowKit a8
def agi(_:A_)(cs:C_ B_)(x:Scalar):Prop:=cs=x.enc/\jP x.name
def agj(_:A_)(cs:C_ B_)(x:Var):Prop:=cs=x.enc/\jP x.name
def afQ(_:A_)(cs:C_ B_)(x:dZ):Prop:=cs=x.enc/\jP x.name
def af3(_:A_)(cs:C_ B_)(x:Node):Prop:=cs=x.enc/\x.ok
instance aw6:Rel kj agi 2 where
 out h:=⟨_,h.cells,rfl,h.ok⟩
 oZ h k:=by obtain⟨rfl,k⟩:=k;exact⟨h,k⟩
 len h:=by rw[h.1];rfl
 one h:=by rw[h.1];simp[Scalar.enc,Value.oneCell']
 ext _ h:=h
instance aw7:Rel rv agj 6 where
 out h:=⟨_,h.cells,rfl,h.ok⟩
 oZ h k:=by obtain⟨rfl,k⟩:=k;exact⟨h,k⟩
 len h:=by rw[h.1];rfl
 one h:=by rw[h.1];simp[Var.enc,Value.oneCell']
 ext _ h:=h
instance awV:Rel ru afQ 6 where
 out h:=⟨_,h.cells,rfl,h.ok⟩
 oZ h k:=by obtain⟨rfl,k⟩:=k;exact⟨h,k⟩
 len h:=by rw[h.1];rfl
 one h:=by rw[h.1];simp[dZ.enc,Value.oneCell']
 ext _ h:=h
instance aw0:Rel zQ af3 2 where
 out h:=⟨_,h.cells,rfl,h.ok⟩
 oZ h k:=by obtain⟨rfl,k⟩:=k;exact⟨h,k⟩
 len h:=by rw[h.1];rfl
 one h:=by rw[h.1];simp[Node.enc,Value.oneCell']
 ext _ h:=h
def Ec(w:A_)(cs:C_ B_)(x:Act):Prop := ∃bK bY,cs=x.enc bK bY/\eS w bK x.index/\eS w bY x.value
theorem Ec.ext{w w':A_}{cs:C_ B_}{c:Act}(he:Ext w w')(h:Ec w cs c):Ec w' cs c:=let ⟨bK,bY,h1,I,ab⟩:=h; ⟨bK,bY,h1,I.ext he,ab.ext he⟩
instance awT:Rel zM Ec 5 where
 out h:=let ⟨bK,bY,h1,I,ab⟩:=h; ⟨_,h1,bK,bY,rfl,I,ab⟩
 oZ h k:=by obtain⟨bK,bY,rfl,I,ab⟩:=k;exact⟨bK,bY,h,I,ab⟩
 len h:=by obtain⟨bK,bY,rfl,I,ab⟩:=h;rfl
 one h:=by obtain⟨bK,bY,rfl,I,ab⟩:=h;simp[Act.enc,I.one,ab.one];simp[Value.oneCell']
 ext e h:=h.ext e
instance awW:Rel zN BQ 6 where
 out h:=let ⟨ad,bK,bY,h1,I,ab⟩:=h; ⟨_,h1,ad,bK,bY,rfl,I,ab⟩
 oZ h k:=by obtain⟨ad,bK,bY,rfl,I,ab⟩:=k;exact⟨ad,bK,bY,h,I,ab⟩
 len h:=by obtain⟨ad,bK,bY,rfl,I,ab⟩:=h;rfl
 one h:=by obtain⟨ad,bK,bY,rfl,I,ab⟩:=h;simp[dI.enc,I.one,ab.one];simp[Value.oneCell']
 ext e h:=h.ext e
instance aw3:Rel B2 yc 5 where
 out h:=let ⟨ad,bK,bY,h1,I,ab⟩:=h; ⟨_,h1,ad,bK,bY,rfl,I,ab⟩
 oZ h k:=by obtain⟨ad,bK,bY,rfl,I,ab⟩:=k;exact⟨ad,bK,bY,h,I,ab⟩
 len h:=by obtain⟨ad,bK,bY,rfl,I,ab⟩:=h;rfl
 one h:=by obtain⟨ad,bK,bY,rfl,I,ab⟩:=h;simp[dt.enc,I.one,ab.one];simp[Value.oneCell']
 ext e h:=h.ext e
def Ik(w:A_)(cs:C_ B_)(x:lE):Prop:=jP x.name/\∃gP,cs=x.enc gP/\eS w gP x.expr
theorem Ik.ext{w w':A_}{cs:C_ B_}{c:lE}(he:Ext w w')(h:Ik w cs c):Ik w' cs c:=let ⟨ad,bK,h1,I⟩:=h; ⟨ad,bK,h1,I.ext he⟩
instance aw4:Rel B3 Ik 2 where
 out h:=let ⟨ad,bK,h1,I⟩:=h; ⟨_,h1,ad,bK,rfl,I⟩
 oZ h k:=by obtain⟨ad,bK,rfl,I⟩:=k;exact⟨ad,bK,h,I⟩
 len h:=by obtain⟨ad,bK,rfl,I⟩:=h;rfl
 one h:=by obtain⟨ad,bK,rfl,I⟩:=h;simp[lE.enc,I.one];simp[Value.oneCell']
 ext e h:=h.ext e
def aeO:C_ jX:=[.i,.i]
end o
namespace a8
def aW{A B:Prop}(k:B)(h:x5 B->A:=by
 intro q;simp -dsimp only[dg,cH,Nat.reduceAdd,Nat.reduceEqDiff,reduceIte,reduceCtorEq,dm];exact q.out):A:=h ⟨k⟩
end a8