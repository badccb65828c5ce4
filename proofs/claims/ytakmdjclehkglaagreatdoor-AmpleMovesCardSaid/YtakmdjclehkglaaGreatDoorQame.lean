/- Parts. -/
import Derived.Test.YtakmdjclehkglaaGreatDoorQamd
import Derived.Test.YtakmdjclehkglaaGreatDoorChecked
set_option linter.all false
set_option maxRecDepth 100000
set_option maxHeartbeats 1600000
namespace Go.Proofs.R
open Go ba Go.Proofs
abbrev T.z:F_:=0
abbrev T.a:F_:=3
abbrev T.k:F_:=4
abbrev T.a4:F_:=5
abbrev T.n:F_:=9
abbrev T.wC:F_:=20
abbrev T.rP:F_:=22
abbrev T.tB:F_:=23
abbrev T.tC:F_:=24
abbrev T.wD:F_:=25
abbrev T.am:F_:=26
abbrev T.f:F_:=28
abbrev T.b:F_:=29
abbrev T.rQ:F_:=34
abbrev T.g:F_:=36
abbrev T.j:F_:=39
abbrev T.c:F_:=42
abbrev T.a5:F_:=43
abbrev T.h:F_:=47
abbrev T.x:F_:=50
abbrev T.p:F_:=55
abbrev T.t:F_:=57
abbrev T.u2:F_:=58
abbrev T.q:F_:=60
abbrev T.X3:F_:=61
abbrev T.l:F_:=63
abbrev T.d:F_:=65
abbrev T.e:F_:=72
abbrev T.y:F_:=74
abbrev T.m:F_:=76
abbrev T.nW:F_:=101
abbrev T.nU:F_:=102
abbrev T.sB:F_:=103
abbrev T.oS:F_:=111
abbrev T.sC:F_:=114
abbrev T.ap:F_:=121
abbrev T.gu:F_:=126
abbrev T.u:F_:=140
abbrev T.v:F_:=144
abbrev T.ur:F_:=151
abbrev T.w:F_:=161
abbrev T.X6:F_:=165
abbrev T.wA:F_:=172
abbrev T.iN:F_:=175
abbrev T.i:F_:=181
abbrev T.r:F_:=183
abbrev T.a9:F_:=186
abbrev T.s:F_:=190
abbrev T.gM:F_:=202
abbrev T.adk:F_:=208
abbrev T.ac:F_:=221
abbrev T.hh:F_:=238
abbrev T.tE:F_:=239
abbrev T.nV:F_:=242
abbrev T.nY:F_:=247
abbrev T.tF:F_:=252
abbrev T.pE:F_:=263
abbrev T.yx:F_:=268
abbrev T.yy:F_:=307
abbrev T.a0:F_:=308
abbrev T.db:F_:=309
abbrev T.a2:F_:=310
abbrev T.a3:F_:=311
abbrev F.Hm:E_:=4
abbrev F.qQ:E_:=8
abbrev F.MM:E_:=9
abbrev F.Hn:E_:=10
abbrev F.MP:E_:=11
abbrev F.IZ:E_:=12
abbrev F.ML:E_:=13
abbrev F.DS:E_:=14
abbrev F.Hk:E_:=15
abbrev F.Li:E_:=16
abbrev F.L6:E_:=18
abbrev F.LV:E_:=19
abbrev F.Ma:E_:=20
abbrev F.iN:E_:=22
abbrev F.bx:E_:=23
abbrev F.d:E_:=24
abbrev F.c:E_:=25
abbrev F.m:E_:=26
abbrev F.r:E_:=27
abbrev F.bP:E_:=28
abbrev F.bV:E_:=29
abbrev F.cQ:E_:=30
abbrev F.MN:E_:=31
abbrev F.dm:E_:=32
abbrev F.f:E_:=33
abbrev F.b:E_:=34
abbrev F.Mm:E_:=35
abbrev F.Mq:E_:=36
abbrev F.Mo:E_:=37
abbrev F.Hj:E_:=38
abbrev F.LM:E_:=39
abbrev F.Mn:E_:=40
abbrev F.Mv:E_:=41
abbrev F.LL:E_:=42
abbrev F.Mt:E_:=43
abbrev F.Ms:E_:=44
abbrev F.L7:E_:=45
abbrev F.L5:E_:=46
abbrev F.L0:E_:=47
abbrev F.L2:E_:=48
abbrev F.LY:E_:=49
abbrev F.L3:E_:=50
abbrev F.LX:E_:=51
abbrev F.L9:E_:=52
abbrev F.tE:E_:=55
abbrev F.nY:E_:=56
abbrev F.tF:E_:=57
abbrev F.co:E_:=58
abbrev F.Jd:E_:=59
abbrev F.pE:E_:=60
abbrev F.yK:E_:=61
abbrev F.gh:E_:=62
abbrev F.cs:E_:=63
abbrev F.yx:E_:=64
abbrev F.yy:E_:=65
abbrev F.s:E_:=66
abbrev F.a0:E_:=67
abbrev F.t:E_:=68
abbrev F.db:E_:=69
abbrev F.oW:E_:=70
abbrev F.h:E_:=71
abbrev F.n:E_:=72
abbrev F.mT:E_:=73
abbrev F.eZ:E_:=74
abbrev F.Jf:E_:=75
abbrev F.MG:E_:=76
abbrev F.MO:E_:=77
abbrev F.MH:E_:=78
abbrev F.Ml:E_:=79
abbrev F.c1:E_:=80
abbrev F.c2:E_:=81
abbrev F.Mk:E_:=82
abbrev F.LU:E_:=83
abbrev F.Lq:E_:=84
abbrev F.Mb:E_:=85
abbrev F.Mr:E_:=86
abbrev F.Mw:E_:=87
abbrev F.L4:E_:=88
abbrev F.LH:E_:=89
abbrev F.LI:E_:=90
abbrev F.L1:E_:=91
abbrev F.LZ:E_:=92
abbrev F.LG:E_:=93
abbrev F.LR:E_:=94
abbrev F.LS:E_:=95
abbrev F.LF:E_:=96
abbrev F.LW:E_:=97
abbrev F.Lm:E_:=98
abbrev F.Lr:E_:=99
abbrev F.Md:E_:=100
abbrev F.Me:E_:=101
abbrev F.Jk:E_:=102
abbrev F.a:E_:=103
abbrev F.Jl:E_:=104
abbrev F.i:E_:=105
abbrev F.Jm:E_:=106
abbrev F.Jn:E_:=107
abbrev F.ds:E_:=108
abbrev F.Jo:E_:=109
abbrev F.Jp:E_:=110
abbrev F.Jq:E_:=111
abbrev F.Jr:E_:=112
abbrev F.u:E_:=113
abbrev F.Js:E_:=114
abbrev F.g5:E_:=115
abbrev F.v:E_:=116
abbrev F.Jt:E_:=117
abbrev F.a2:E_:=118
abbrev F.w:E_:=119
abbrev F.Ju:E_:=120
abbrev F.d0:E_:=121
abbrev F.d1:E_:=122
abbrev F.d2:E_:=123
abbrev F.d3:E_:=124
abbrev F.d4:E_:=125
abbrev F.d5:E_:=126
abbrev F.d6:E_:=127
abbrev F.d7:E_:=128
abbrev F.d8:E_:=129
abbrev F.a3:E_:=130
abbrev F.j:E_:=131
abbrev F.d9:E_:=132
abbrev F.jt:E_:=133
abbrev F.vb:E_:=134
abbrev F.ae:E_:=135
abbrev F.Jx:E_:=136
abbrev F.MK:E_:=137
abbrev F.MJ:E_:=138
abbrev F.Mx:E_:=139
abbrev F.Mz:E_:=140
abbrev F.Mp:E_:=141
abbrev F.g6:E_:=142
abbrev F.Ls:E_:=143
abbrev F.LC:E_:=144
abbrev F.Lx:E_:=145
abbrev F.Lw:E_:=146
abbrev F.Mc:E_:=147
abbrev F.Mh:E_:=148
abbrev F.Mu:E_:=149
abbrev F.Mg:E_:=150
abbrev F.LD:E_:=151
abbrev F.L8:E_:=152
abbrev F.LJ:E_:=153
abbrev F.Hh:E_:=154
abbrev F.Hi:E_:=155
abbrev F.LK:E_:=156
abbrev F.Ln:E_:=157
abbrev F.Ly:E_:=158
abbrev F.Lz:E_:=159
abbrev F.LB:E_:=160
abbrev F.nU:E_:=161
abbrev F.sB:E_:=162
abbrev F.sC:E_:=163
abbrev F.x:E_:=164
abbrev F.y:E_:=165
abbrev F.CT:E_:=166
abbrev F.wY:E_:=167
abbrev F.ej:E_:=168
abbrev F.a9:E_:=169
abbrev F.gM:E_:=170
abbrev F.bG:E_:=171
abbrev F.aD:E_:=172
abbrev F.aO:E_:=173
abbrev F.bo:E_:=174
abbrev F.bb:E_:=175
abbrev F.hh:E_:=176
abbrev F.bC:E_:=177
abbrev F.Fb:E_:=178
abbrev F.Fc:E_:=179
abbrev F.z:E_:=180
abbrev F.b5:E_:=181
abbrev F.cL:E_:=182
abbrev F.eK:E_:=183
abbrev F.fO:E_:=184
abbrev F.ju:E_:=185
abbrev F.yQ:E_:=186
abbrev F.AE:E_:=187
abbrev F.be:E_:=188
abbrev F.oS:E_:=189
abbrev F.fd:E_:=190
abbrev F.U:E_:=191
abbrev F.ay:E_:=192
abbrev F.aG:E_:=193
abbrev F.cI:E_:=194
abbrev F.p:E_:=195
abbrev F.JE:E_:=196
abbrev F.JF:E_:=197
abbrev F.JG:E_:=198
abbrev F.JH:E_:=199
abbrev F.MI:E_:=200
abbrev F.My:E_:=201
abbrev F.MB:E_:=202
abbrev F.MA:E_:=203
abbrev F.MC:E_:=204
abbrev F.ME:E_:=205
abbrev F.MF:E_:=206
abbrev F.Lv:E_:=207
abbrev F.Lt:E_:=208
abbrev F.Lj:E_:=209
abbrev F.Lg:E_:=210
abbrev F.Lh:E_:=211
abbrev F.Mf:E_:=212
abbrev F.Mi:E_:=213
abbrev F.Mj:E_:=214
abbrev F.LO:E_:=215
abbrev F.LN:E_:=216
abbrev F.DR:E_:=217
abbrev F.BA:E_:=218
abbrev F.Lo:E_:=219
abbrev F.Lu:E_:=220
abbrev F.Hg:E_:=221
abbrev F.Lp:E_:=222
abbrev F.he:E_:=223
abbrev F.Ff:E_:=224
abbrev F.f2:E_:=225
abbrev F.f3:E_:=226
abbrev F.f4:E_:=227
abbrev F.f5:E_:=228
abbrev F.g7:E_:=229
abbrev F.g8:E_:=230
abbrev F.g9:E_:=231
abbrev F.aY:E_:=232
abbrev F.f6:E_:=233
abbrev F.f7:E_:=234
abbrev F.f8:E_:=235
abbrev F.f9:E_:=236
abbrev F.ac:E_:=237
abbrev F.JO:E_:=238
abbrev F.JP:E_:=239
abbrev F.gc:E_:=240
abbrev F.ax:E_:=243
abbrev F.JQ:E_:=246
abbrev F.ge:E_:=247
abbrev F.MD:E_:=248
abbrev F.Lk:E_:=249
abbrev F.LP:E_:=250
abbrev F.LQ:E_:=251
abbrev F.LA:E_:=252
abbrev F.ak:E_:=253
abbrev F.FL:E_:=254
abbrev F.JR:E_:=255
abbrev F.Fg:E_:=256
abbrev F.bi:E_:=257
abbrev F.JS:E_:=258
abbrev F.an:E_:=259
abbrev F.nV:E_:=260
abbrev F.vi:E_:=261
abbrev F.rP:E_:=262
abbrev F.tB:E_:=263
abbrev F.tC:E_:=264
abbrev F.e:E_:=265
abbrev F.nW:E_:=266
abbrev F.gu:E_:=267
abbrev F.rQ:E_:=268
abbrev F.wC:E_:=269
abbrev F.wD:E_:=270
abbrev F.am:E_:=271
abbrev F.go:E_:=272
abbrev F.Fh:E_:=273
abbrev F.JU:E_:=274
abbrev F.JV:E_:=275
abbrev F.JW:E_:=288
abbrev F.gs:E_:=289
abbrev F.gt:E_:=290
abbrev F.Ll:E_:=291
abbrev F.JX:E_:=292
abbrev F.Fi:E_:=293
abbrev F.qb:E_:=294
abbrev F.k:E_:=295
abbrev F.JY:E_:=296
abbrev F.JZ:E_:=311
abbrev F.cU:E_:=335
abbrev F.J0:E_:=336
abbrev F.Fj:E_:=337
abbrev F.wJ:E_:=338
abbrev F.Fl:E_:=339
abbrev F.J1:E_:=340
abbrev F.g0:E_:=341
abbrev F.g1:E_:=342
abbrev F.g2:E_:=343
abbrev F.g3:E_:=344
abbrev F.u2:E_:=345
abbrev F.nZ:E_:=346
abbrev F.g4:E_:=347
abbrev G.apF:Nat:=0
def _root_.Cx{A:Prop}(h:A:=by kernel_rfl):A:=h
def l3:Tryz.prog.follows .mixedOrders=true:=Cx
def wo{f:E_}{L:ny}{args:C_ B_}{R:B_->A_->Prop}{w:A_}(an:lY Tryz.prog f=some L)(h:e5 Tryz.prog L.code (tO L.res R ⟨⟩) (jb args 0) w ⟨⟩)(aY:args.length<=L.n:=by exact Nat.le_of_ble_eq_true rfl):aW Tryz.prog f args.toArray w R:=_g l3 an aY h
def Cv{c d:e6}(h:∀X:e6->Prop,X d->X c:=by
 intro X q
 conv=>arg 1;whnf
 try simp only[bh,aeA,Nj,SO,Yt,Qf,ZT,Fu,S9,mc,x2,UD,Hs,v8,Ph,Ih,agd,Px,K2,wF,JN,M4,Qe,rT,Ty,O4,T8,ahq,ahp,Tryz.underlying3,Tryz.underlying4,Tryz.underlying9,Tryz.underlying22,Tryz.underlying23,Tryz.underlying24,Tryz.underlying25,Tryz.underlying26,Tryz.underlying28,Tryz.underlying29,Tryz.underlying34,Tryz.underlying36,Tryz.underlying39,Tryz.underlying42,Tryz.underlying43,Tryz.underlying47,Tryz.underlying50,Tryz.underlying55,Tryz.underlying57,Tryz.underlying58,Tryz.underlying60,Tryz.underlying61,Tryz.underlying63,Tryz.underlying65,Tryz.underlying72,Tryz.underlying74,Tryz.underlying76,Tryz.underlying80,Tryz.underlying101,Tryz.underlying111,Tryz.underlying114,Tryz.underlying121,Tryz.underlying126,Tryz.underlying130,Tryz.underlying133,Tryz.underlying140,Tryz.underlying144,Tryz.underlying148,Tryz.underlying151,Tryz.underlying155,Tryz.underlying161,Tryz.underlying165,Tryz.underlying172,Tryz.underlying175,Tryz.underlying179,Tryz.underlying181,Tryz.underlying183,Tryz.underlying186,Tryz.underlying190,Tryz.underlying202,Tryz.underlying204,Tryz.underlying208,Tryz.underlying221,Tryz.underlying238,Tryz.underlying239,Tryz.underlying240,Tryz.underlying242,Tryz.underlying245,Tryz.underlying247,Tryz.underlying252,Tryz.underlying263,Tryz.underlying265,Tryz.underlying268,Tryz.underlying307,Tryz.underlying308,Tryz.underlying309,Tryz.underlying310,Tryz.underlying311,Tryz.underlying324,Tryz.underlying326,Tryz.type0,Tryz.type3,Tryz.type4,Tryz.type9,Tryz.type22,Tryz.type23,Tryz.type24,Tryz.type25,Tryz.type26,Tryz.type28,Tryz.type29,Tryz.type36,Tryz.type39,Tryz.type42,Tryz.type43,Tryz.type47,Tryz.type50,Tryz.type55,Tryz.type57,Tryz.type58,Tryz.type60,Tryz.type61,Tryz.type63,Tryz.type65,Tryz.type72,Tryz.type74,Tryz.type76,Tryz.type80,Tryz.type101,Tryz.type111,Tryz.type121,Tryz.type126,Tryz.type130,Tryz.type133,Tryz.type140,Tryz.type144,Tryz.type151,Tryz.type161,Tryz.type165,Tryz.type172,Tryz.type175,Tryz.type181,Tryz.type183,Tryz.type186,Tryz.type190,Tryz.type202,Tryz.type208,Tryz.type221,Tryz.type238,Tryz.type239,Tryz.type240,Tryz.type242,Tryz.type245,Tryz.type247,Tryz.type252,Tryz.type263,Tryz.type268,Tryz.type307,Tryz.type308,Tryz.type309,Tryz.type310,Tryz.type311,Tryz.type324,Tryz.type326,Tryz.t0,Tryz.t3,Tryz.t4,Tryz.t9,Tryz.t22,Tryz.t23,Tryz.t24,Tryz.t25,Tryz.t26,Tryz.t28,Tryz.t29,Tryz.t36,Tryz.t39,Tryz.t42,Tryz.t43,Tryz.t47,Tryz.t50,Tryz.t55,Tryz.t57,Tryz.t58,Tryz.t60,Tryz.t61,Tryz.t63,Tryz.t65,Tryz.t72,Tryz.t74,Tryz.t76,Tryz.t80,Tryz.t101,Tryz.t111,Tryz.t121,Tryz.t126,Tryz.t130,Tryz.t133,Tryz.t140,Tryz.t144,Tryz.t151,Tryz.t161,Tryz.t165,Tryz.t172,Tryz.t175,Tryz.t181,Tryz.t183,Tryz.t186,Tryz.t190,Tryz.t202,Tryz.t208,Tryz.t221,Tryz.t238,Tryz.t239,Tryz.t240,Tryz.t242,Tryz.t245,Tryz.t247,Tryz.t252,Tryz.t263,Tryz.t268,Tryz.t307,Tryz.t308,Tryz.t309,Tryz.t310,Tryz.t311,Tryz.t324,Tryz.t326,Nat.reduceAdd,Nat.reduceEqDiff,reduceIte]
 try dsimp only[aQ,cE,kI,cS,p0,du,iv,hG,ee,aU,fK,fu,eJ,iw,ys,mg,dR,iT,B3,iU,ks,yd,pv,cT,kr,iu,qG,N5,EA,oG,wg,we,sq,mf,yc,List.map_cons,List.map_nil]
 exact q):c=d:=h (· = d) rfl
def bk{f:E_}{n:Nat}{r:C_ nz}{c d:e6}{args:C_ B_}{R:B_->A_->Prop}{w:A_}(an:lY Tryz.prog f=some ⟨n,r,c⟩)(h:e5 Tryz.prog d (tO r R ⟨⟩) (jb args 0) w ⟨⟩)(e:c=d:=by exact Cv)(aY:args.length<=n:=by exact Nat.le_of_ble_eq_true rfl):aW Tryz.prog f args.toArray w R:=_g l3 (an.trans (congrArg (λc=>some (⟨n,r,c⟩:ny)) e)) aY h
abbrev bd(f:E_)(c:ny):Prop:=lY Tryz.prog f=some c
def bf{f:E_}{c:ny}(h:lY Tryz.prog f=some c:=by kernel_rfl):bd f c:=h
noncomputable abbrev zA_:=λt f=>bh Tryz.prog t (bj f)
def E.Hm:bd F.Hm ⟨15,[.tmp 4],zA_ [(1,.s (.q 0 2 (.q 3 2 (.a 2 (.f 5 (.f 6 (.t 7 (.f 8 (.q 9 2 .d) .n)) .n) .n) .n))))] Tryz.f4⟩:=bf
def E.qQ:bd F.qQ ⟨83,[.tmp 4],zA_ [(3,.s (.t 0 (.t 2 (.t 4 (.a 1 (.a 3 (.f 5 (.t 6 (.a 7 (.a 8 (.f 9 (.f 10 (.t 11 .d) .n) .n) .n) (.a 8 (.a 7 (.f 9 (.f 10 (.t 11 .d) .n) .n) .n) .n))) (.a 7 (.f 5 (.t 6 (.a 8 (.f 9 (.f 10 (.t 11 .d) .n) .n) .n)) (.a 8 (.f 5 (.t 6 (.f 9 (.f 10 (.t 11 .d) .n) .n)) .n) .n)) (.a 8 (.f 5 (.t 6 (.a 7 (.f 9 (.f 10 (.t 11 .d) .n) .n) .n)) (.a 7 (.f 5 (.t 6 (.f 9 (.f 10 (.t 11 .d) .n) .n)) .n) .n)) .n))) (.a 7 (.a 3 (.f 5 (.t 6 (.a 8 (.f 9 (.f 10 (.t 11 .d) .n) .n) .n)) (.a 8 (.f 5 (.t 6 (.f 9 (.f 10 (.t 11 .d) .n) .n)) .n) .n)) (.a 8 (.a 3 (.f 5 (.t 6 (.f 9 (.f 10 (.t 11 .d) .n) .n)) .n) .n) .n)) (.a 8 (.a 3 (.f 5 (.t 6 (.a 7 (.f 9 (.f 10 (.t 11 .d) .n) .n) .n)) (.a 7 (.f 5 (.t 6 (.f 9 (.f 10 (.t 11 .d) .n) .n)) .n) .n)) (.a 7 (.a 3 (.f 5 (.t 6 (.f 9 (.f 10 (.t 11 .d) .n) .n)) .n) .n) .n)) .n))) (.a 7 (.a 1 (.a 3 (.f 5 (.t 6 (.a 8 (.f 9 (.f 10 (.t 11 .d) .n) .n) .n)) (.a 8 (.f 5 (.t 6 (.f 9 (.f 10 (.t 11 .d) .n) .n)) .n) .n)) (.a 8 (.a 3 (.f 5 (.t 6 (.f 9 (.f 10 (.t 11 .d) .n) .n)) .n) .n) .n)) (.a 8 (.a 1 (.a 3 (.f 5 (.t 6 (.f 9 (.f 10 (.t 11 .d) .n) .n)) .n) .n) .n) .n)) (.a 8 (.a 1 (.a 3 (.f 5 (.t 6 (.a 7 (.f 9 (.f 10 (.t 11 .d) .n) .n) .n)) (.a 7 (.f 5 (.t 6 (.f 9 (.f 10 (.t 11 .d) .n) .n)) .n) .n)) (.a 7 (.a 3 (.f 5 (.t 6 (.f 9 (.f 10 (.t 11 .d) .n) .n)) .n) .n) .n)) (.a 7 (.a 1 (.a 3 (.f 5 (.t 6 (.f 9 (.f 10 (.t 11 .d) .n) .n)) .n) .n) .n) .n)) .n)))))))] Tryz.f8⟩:=bf
def E.MM:bd F.MM ⟨38,[.tmp 4],zA_ [(7,.w)] Tryz.f9⟩:=bf
def E.Hn:bd F.Hn ⟨48,[.tmp 0],zA_ [] Tryz.f10⟩:=bf
def E.MP:bd F.MP ⟨55,[.tmp 4],zA_ [(6,.w)] Tryz.f11⟩:=bf
def E.IZ:bd F.IZ ⟨22,[.tmp 4],zA_ [] Tryz.f12⟩:=bf
def E.ML:bd F.ML ⟨54,[.tmp 4],zA_ [] Tryz.f13⟩:=bf
def E.DS:bd F.DS ⟨23,[.tmp 4],zA_ [] Tryz.f14⟩:=bf
def E.Hk:bd F.Hk ⟨37,[.tmp 2],zA_ [(7,.w)] Tryz.f15⟩:=bf
def E.Li:bd F.Li ⟨26,[.tmp 4],zA_ [(6,.w)] Tryz.f16⟩:=bf
def E.L6:bd F.L6 ⟨9,[.iZ 6 2],zA_ [] Tryz.f18⟩:=bf
def E.LV:bd F.LV ⟨63,[.iZ 4 2],zA_ [] Tryz.f19⟩:=bf
def E.Ma:bd F.Ma ⟨14,[.tmp 4],zA_ [(1,.s (.t 0 (.a 1 (.q 2 3 (.t 6 (.a 5 (.f 7 (.q 8 2 .d) .n) .n))) .n)))] Tryz.f20⟩:=bf
theorem E.bx:bd F.bx ⟨15,[.tmp 4],zA_ [] Tryz.f23⟩:=bf
theorem E.c:bd F.c ⟨6,[.tmp 2],zA_ [] Tryz.f25⟩:=bf
theorem E.m:bd F.m ⟨15,[.iZ 6 2],zA_ [] Tryz.f26⟩:=bf
theorem E.r:bd F.r ⟨28,[.tmp 5],zA_ [(1,.w)] Tryz.f27⟩:=bf
theorem E.bV:bd F.bV ⟨50,[.tmp 4],zA_ [(6,.s (.q 0 2 (.q 3 4 (.a 2 (.f 7 (.a 8 (.f 9 .d .n) .n) (.a 8 (.f 7 (.f 9 .d .n) .n) .n)) (.a 8 (.a 2 (.f 7 (.f 9 .d .n) .n) .n) .n)))))] Tryz.f29⟩:=bf
theorem E.cQ:bd F.cQ ⟨29,[.tmp 6],zA_ [] Tryz.f30⟩:=bf
def E.MN:bd F.MN ⟨44,[.tmp 8],zA_ [(8,.w),(10,.w)] Tryz.f31⟩:=bf
theorem E.dm:bd F.dm ⟨18,[.tmp 4],zA_ [] Tryz.f32⟩:=bf
theorem E.b:bd F.b ⟨18,[.tmp 4],zA_ [(1,.w)] Tryz.f34⟩:=bf
def E.Mm:bd F.Mm ⟨13,[.iZ 13 2,.tmp 3],zA_ [(3,.s (.q 0 2 (.a 2 (.f 3 (.f 4 (.t 5 .d) .n) .n) .n)))] Tryz.f35⟩:=bf
def E.Mq:bd F.Mq ⟨11,[.tmp 4],zA_ [] Tryz.f36⟩:=bf
def E.Mo:bd F.Mo ⟨72,[.tmp 4],zA_ [(8,.s (.q 0 2 (.q 3 3 (.a 2 (.f 6 (.t 7 .d) .n) .n)))),(10,.s (.q 0 8 (.a 8 (.f 9 (.t 10 (.f 11 (.f 12 (.t 13 .d) .n) .n)) .n) .n)))] Tryz.f37⟩:=bf
def E.Hj:bd F.Hj ⟨43,[.tmp 2],zA_ [(8,.w)] Tryz.f38⟩:=bf
def E.LM:bd F.LM ⟨31,[.tmp 4],zA_ [] Tryz.f39⟩:=bf
def E.Mn:bd F.Mn ⟨28,[.iZ 6 4],zA_ [(2,.s (.q 0 17 (.f 17 .d .n)))] Tryz.f40⟩:=bf
def E.Mv:bd F.Mv ⟨96,[.tmp 6,.tmp 7],zA_ [(3,.w),(6,.s (.q 0 9 (.a 9 (.f 10 (.q 11 5 .d) .n) .n))),(13,.s (.q 0 9 (.f 9 (.q 10 5 .d) .n))),(17,.s (.q 0 10 (.f 10 (.q 11 2 .d) .n)))] Tryz.f41⟩:=bf
def E.LL:bd F.LL ⟨40,[.tmp 2,.tmp 3],zA_ [(5,.w)] Tryz.f42⟩:=bf
def E.Mt:bd F.Mt ⟨30,[.tmp 8],zA_ [(2,.s (.q 1 3 (.t 5 (.q 7 6 (.f 0 (.f 4 (.f 6 (.f 13 (.t 14 .d) .n) .n) .n) .n)))))] Tryz.f43⟩:=bf
def E.Ms:bd F.Ms ⟨27,[.tmp 6],zA_ [] Tryz.f44⟩:=bf
def E.L7:bd F.L7 ⟨7,[.tmp 2],zA_ [] Tryz.f45⟩:=bf
def E.L5:bd F.L5 ⟨99,[.iZ 6 2],zA_ [(12,.s (.q 0 7 (.a 7 (.f 8 (.t 9 (.f 10 .d .n)) .n) .n))),(13,.s (.q 0 7 (.a 7 (.f 8 (.t 9 (.f 10 .d .n)) .n) .n)))] Tryz.f46⟩:=bf
def E.L0:bd F.L0 ⟨93,[.iZ 4 2],zA_ [(7,.w),(10,.s (.q 0 2 (.q 3 6 (.a 2 (.f 9 .d .n) .n)))),(15,.w),(18,.s (.q 0 2 (.q 3 6 (.a 2 (.f 9 .d .n) .n))))] Tryz.f47⟩:=bf
def E.L2:bd F.L2 ⟨66,[.iZ 4 4],zA_ [(4,.s (.q 0 3 (.a 3 (.f 4 (.q 5 7 .d) .n) .n))),(7,.s (.q 0 2 (.q 3 2 (.a 2 (.f 5 .d .n) .n)))),(12,.s (.t 0 (.q 2 6 (.a 1 (.f 8 .d .n) .n))))] Tryz.f48⟩:=bf
def E.LY:bd F.LY ⟨90,[.tmp 2,.tmp 3,.tmp 4],zA_ [(5,.w),(9,.c (.dB [aU 36 7,ks .add T.a 37 36 1,fu 38 2 1,eJ 39 38,aU 40 9,iw 41 6 39 40,fu 42 2 41,eJ 43 42,cS 44 (.xM (aQ 43) (cE 0)),cS 45 (.zz (aQ 44) (cE 4)),iU .add T.a 46 37 45,aU 7 46])),(13,.w)] Tryz.f49⟩:=bf
def E.L3:bd F.L3 ⟨45,[.tmp 4],zA_ [(6,.s (.q 0 2 (.q 3 2 (.a 2 (.f 5 .d .n) .n))))] Tryz.f50⟩:=bf
def E.LX:bd F.LX ⟨7,[.tmp 2],zA_ [] Tryz.f51⟩:=bf
def E.L9:bd F.L9 ⟨45,[.tmp 6],zA_ [(7,.w)] Tryz.f52⟩:=bf
noncomputable def C.tE:ny:=⟨88,[],zA_ [(2,.c (.fS [aU 18 5,aU 19 4] (some 20) F.a [(aQ 18),(cE 1),(aQ 19),(cE 0)])),(6,.c (.dB [aU 28 1,fu 29 0 7,eJ 30 29,hG (.kE .string (aQ 28) (aQ 30) (kI true))])),(13,.c (.fS [aU 51 5,aU 52 8] (some 53) F.a [(aQ 51),(cE 2),(aQ 52),(cE 0)])),(14,.c (.fS [aU 54 1,fu 55 0 9,eJ 56 55,aU 57 8] (some 58) F.i [(aQ 54),(aQ 56),(cE 2),(aQ 57)])),(21,.c (.fS [aU 79 5,aU 80 10] (some 81) F.a [(aQ 79),(cE 3),(aQ 80),(cE 0)])),(22,.c (.fS [aU 82 1,fu 83 0 11,eJ 84 83,aU 85 10] (some 86) F.i [(aQ 82),(aQ 84),(cE 3),(aQ 85)]))] Tryz.f55⟩
theorem E.tE:lY Tryz.prog F.tE=some C.tE:=Cx
noncomputable def C.nY:ny:=⟨105,[],zA_ [(1,.c (.dB [du 18 .vR,aU 4 18])),(2,.c (.dB [aU 19 1,du 20 (.raw (.range T.sB (aQ 19)) T.z)])),(3,.c (.dB [du 21 (.raw (.next (aQ 20) false) T.z),cS 22 (.ext (aQ 21) 0)])),(4,.c (.dB [du 23 (.raw (.entry (aQ 20)) T.z),cS 24 (.ext (aQ 23) 0),aU 5 24])),(5,.c (.dB [aU 25 4,aU 26 5,hG (.kE .string (aQ 25) (aQ 26) (kI true))])),(9,.c (.dB [aU 34 4,fu 35 0 7,eJ 36 35,hG (.kE .string (aQ 34) (aQ 36) (kI true))])),(15,.c (.fS [aU 48 8] (some 49) F.a [(cE 11),(cE 4),(aQ 48),(cE 0)])),(16,.s (.q 0 3 (.a 3 (.f 4 (.q 5 7 .d) .n) .n))),(17,.c (.fS [aU 59 12,aU 60 8,aU 61 10,cS 62 (.bin .mul T.a (cE 16) (aQ 61)),aU 63 11,iU .add T.a 64 62 63] (some 65) F.a [(aQ 59),(cE 4),(aQ 60),(aQ 64)])),(18,.c (.fS [aU 66 1,fu 67 0 9,eJ 68 67,aU 69 8] (some 70) F.i [(aQ 66),(aQ 68),(cE 4),(aQ 69)])),(22,.c (.dB [aU 79 4,fu 80 0 14,eJ 81 80,p0 82 (.pe .string (.bool false) false (aQ 79) (aQ 81))])),(23,.c (.fS [aU 83 8,aU 84 13,cS 85 (.bin .add T.a (cE 16) (aQ 84))] (some 86) F.a [(cE 7),(cE 4),(aQ 83),(aQ 85)])),(28,.c (.fS [fu 101 3 2,eJ 102 101,mg 103 102] (some 104) F.a [(cE 11),(cE 4),(aQ 103),(cE 0)]))] Tryz.f56⟩
theorem E.nY:lY Tryz.prog F.nY=some C.nY:=Cx
noncomputable def C.tF:ny:=⟨51,[],zA_ [(6,.c (.fS [aU 22 5] (some 23) F.a [(cE 11),(cE 5),(aQ 22),(cE 0)])),(8,.c (.fS [aU 29 5] (some 30) F.a [(cE 6),(cE 5),(aQ 29),(cE 0)])),(9,.c (.fS [aU 31 1,fu 32 0 6,eJ 33 32,aU 34 5] (some 35) F.i [(aQ 31),(aQ 33),(cE 5),(aQ 34)])),(11,.c (.fS [aU 43 8,aU 44 5] (some 45) F.a [(aQ 43),(cE 5),(aQ 44),(cE 0)])),(13,.c (.fS [aU 48 5] (some 49) F.a [(cE 9),(cE 5),(aQ 48),(cE 0)]))] Tryz.f57⟩
theorem E.tF:lY Tryz.prog F.tF=some C.tF:=Cx
def E.co:bd F.co ⟨14,[.tmp 2],zA_ [(3,.s (.t 0 (.q 2 2 (.a 1 (.a 4 (.t 5 (.f 6 (.t 7 .d) .n)) .n) .n))))] Tryz.f58⟩:=bf
def E.Jd:bd F.Jd ⟨61,[.tmp 4],zA_ [] Tryz.f59⟩:=bf
def E.pE:bd F.pE ⟨4,[.tmp 2],zA_ [] Tryz.f60⟩:=bf
def E.gh:bd F.gh ⟨7,[.tmp 2],zA_ [] Tryz.f62⟩:=bf
theorem E.cs:bd F.cs ⟨142,[.iZ 6 2,.tmp 3],zA_ [(12,.s (.w (.q 0 5 (.a 5 (.a 6 (.f 7 (.t 8 (.f 9 .d .n)) .n) .n) .n)))),(18,.c (.dB [fu 65 1 11,eJ 66 65,fu 67 3 11,eJ 68 67,cS 69 (.zz (aQ 68) (cE 0)),fu 70 4 11,eJ 71 70,cS 72 (.xM (aQ 71) (cE 0)),cS 73 (.ib [B3,dR,dR,dR,dR,dR] [(0,1),(1,1),(2,1),(3,1),(4,1),(5,1)] [(1,(aQ 66)),(3,(aQ 69)),(4,(aQ 72))]),fu 74 0 1,eJ 75 74,iv 76 (.fn F.a2 [(aQ 73),(aQ 75)]),du 13 (.new T.i (.agg #[dR,dR,dR])),hG (.mc 3 (aQ 13) (aQ 76))])),(23,.s (.w (.q 0 5 (.a 5 (.a 6 (.f 7 (.t 8 (.f 9 .d .n)) .n) .n) .n)))),(35,.s (.w (.q 0 5 (.a 5 (.a 6 (.f 7 (.t 8 (.f 9 .d .n)) .n) .n) .n)))),(37,.s (.f 0 (.f 1 (.f 2 (.t 3 .d) .n) (.f 2 (.f 1 (.t 3 .d) .n) .n)) (.f 1 (.f 0 (.f 2 (.t 3 .d) .n) .n) .n)))] Tryz.f63⟩:=bf
def E.yx:bd F.yx ⟨27,[.tmp 2],zA_ [] Tryz.f64⟩:=bf
def E.yy:bd F.yy ⟨8,[.tmp 6],zA_ [] Tryz.f65⟩:=bf
theorem E.s:bd F.s ⟨8,[.tmp 3],zA_ [] Tryz.f66⟩:=bf
theorem E.a0:bd F.a0 ⟨24,[.tmp 4],zA_ [] Tryz.f67⟩:=bf
theorem E.t:bd F.t ⟨22,[.iZ 6 6],zA_ [(1,.s (.q 0 15 (.f 15 .d .n)))] Tryz.f68⟩:=bf
theorem E.db:bd F.db ⟨57,[.tmp 4,.tmp 5],zA_ [(4,.c (.dB [du 22 .vR,du 23 .vR,aU 9 22,aU 10 23]))] Tryz.f69⟩:=bf
def E.oW:bd F.oW ⟨45,[.tmp 2],zA_ [(3,.s (.t 0 (.t 2 (.a 1 (.f 3 (.a 4 (.f 5 (.t 6 .d) .n) .n) (.a 4 (.f 3 (.f 5 (.t 6 .d) .n) .n) .n)) (.a 4 (.a 1 (.f 3 (.f 5 (.t 6 .d) .n) .n) .n) .n)))))] Tryz.f70⟩:=bf
theorem E.n:bd F.n ⟨8,[.tmp 3],zA_ [] Tryz.f72⟩:=bf
def E.mT:bd F.mT ⟨20,[.tmp 4,.tmp 5],zA_ [] Tryz.f73⟩:=bf
def E.eZ:bd F.eZ ⟨16,[.tmp 4],zA_ [] Tryz.f74⟩:=bf
def E.Jf:bd F.Jf ⟨40,[.tmp 6],zA_ [(5,.s (.q 0 2 (.q 3 5 (.a 2 (.f 8 (.t 9 .d) .n) .n))))] Tryz.f75⟩:=bf
def E.MG:bd F.MG ⟨98,[.tmp 6],zA_ [(6,.s (.q 0 9 (.a 9 (.f 10 .d .n) .n))),(9,.s (.t 0 (.t 2 (.a 1 (.f 3 (.q 4 2 .d) .n) .n)))),(13,.w),(17,.w)] Tryz.f76⟩:=bf
def E.MO:bd F.MO ⟨61,[.tmp 6],zA_ [(7,.s (.q 0 21 (.a 21 (.f 22 .d .n) .n)))] Tryz.f77⟩:=bf
def E.MH:bd F.MH ⟨72,[.tmp 4],zA_ [(6,.s (.q 0 3 (.q 4 5 (.q 15 5 (.a 3 (.q 9 2 (.a 11 (.q 12 2 (.a 14 (.t 20 (.a 21 (.a 22 (.f 23 .d .n) .n) (.a 22 (.a 21 (.f 23 .d .n) .n) .n))) (.a 22 (.a 14 (.t 20 (.a 21 (.f 23 .d .n) .n)) .n) .n))) (.a 22 (.a 11 (.q 12 2 (.a 14 (.t 20 (.a 21 (.f 23 .d .n) .n)) .n)) .n) .n))) (.a 22 (.a 3 (.q 9 2 (.a 11 (.q 12 2 (.a 14 (.t 20 (.a 21 (.f 23 .d .n) .n)) .n)) .n)) .n) .n))))))] Tryz.f78⟩:=bf
def E.Ml:bd F.Ml ⟨37,[.tmp 6],zA_ [] Tryz.f79⟩:=bf
theorem E.c1:bd F.c1 ⟨46,[.tmp 4],zA_ [] Tryz.f80⟩:=bf
def E.Mk:bd F.Mk ⟨12,[.iZ 13 4],zA_ [(1,.s (.q 0 3 (.t 4 (.a 3 (.a 5 (.t 6 (.f 7 .d .n)) .n) .n))))] Tryz.f82⟩:=bf
def E.LU:bd F.LU ⟨32,[.tmp 4],zA_ [] Tryz.f83⟩:=bf
def E.Lq:bd F.Lq ⟨107,[.tmp 4,.tmp 5],zA_ [(18,.w),(20,.w),(22,.w)] Tryz.f84⟩:=bf
def E.Mb:bd F.Mb ⟨129,[.iZ 5 8],zA_ [(6,.w),(7,.s (.q 0 2 (.q 3 14 (.a 2 (.a 17 (.a 18 (.f 19 (.t 20 (.f 21 .d .n)) .n) .n) .n) .n)))),(11,.s (.q 0 10 (.a 10 (.f 11 (.t 12 (.f 13 .d .n)) .n) .n))),(15,.s (.q 0 6 (.a 6 (.a 7 (.f 8 (.t 9 (.f 10 .d .n)) .n) .n) .n))),(18,.w),(19,.s (.q 0 8 (.f 8 (.t 9 (.f 10 .d .n)) .n)))] Tryz.f85⟩:=bf
def E.Mr:bd F.Mr ⟨201,[.tmp 8,.tmp 9],zA_ [(5,.s (.q 0 6 (.q 7 11 (.a 6 (.f 18 (.q 19 4 .d) .n) .n)))),(12,.s (.q 0 10 (.f 10 (.q 11 4 .d) .n))),(17,.s (.q 0 13 (.f 13 (.q 14 4 .d) .n))),(19,.s (.q 0 13 (.f 13 (.q 14 4 .d) .n))),(21,.w),(23,.w)] Tryz.f86⟩:=bf
def E.Mw:bd F.Mw ⟨16,[.tmp 6],zA_ [] Tryz.f87⟩:=bf
def E.L4:bd F.L4 ⟨177,[.tmp 2],zA_ [(5,.w),(7,.w),(15,.c (.sL [fu 83 3 9,eJ 84 83,cS 85 (.zz (cE 0) (aQ 84)),fu 86 4 9,eJ 87 86,cS 88 (.xM (cE 0) (aQ 87)),aU 10 85,aU 11 88])),(17,.w),(26,.s (.q 0 9 (.a 9 (.f 10 .d .n) .n))),(31,.w)] Tryz.f88⟩:=bf
def E.LH:bd F.LH ⟨55,[.tmp 2,.tmp 3],zA_ [(11,.w)] Tryz.f89⟩:=bf
def E.LI:bd F.LI ⟨56,[.tmp 6,.tmp 7],zA_ [(11,.w)] Tryz.f90⟩:=bf
def E.L1:bd F.L1 ⟨18,[.tmp 4],zA_ [] Tryz.f91⟩:=bf
def E.LZ:bd F.LZ ⟨151,[.tmp 6],zA_ [] Tryz.f92⟩:=bf
def E.LG:bd F.LG ⟨96,[.tmp 4,.tmp 5],zA_ [(11,.w),(15,.w)] Tryz.f93⟩:=bf
def E.LR:bd F.LR ⟨148,[.tmp 4,.tmp 5,.tmp 6],zA_ [(20,.w),(26,.w),(32,.w)] Tryz.f94⟩:=bf
def E.LS:bd F.LS ⟨42,[.iZ 6 4],zA_ [] Tryz.f95⟩:=bf
def E.LF:bd F.LF ⟨12,[.tmp 4],zA_ [] Tryz.f96⟩:=bf
def E.LW:bd F.LW ⟨13,[.tmp 4],zA_ [] Tryz.f97⟩:=bf
def E.Lm:bd F.Lm ⟨41,[.tmp 2],zA_ [(1,.c (.dB [aU 5 0,cS 6 (.bin .eql T.n (aQ 5) (.const B3)),aU 7 6,ee 7 false (aU 8 0),ee 7 false (cS 9 (.qq (aQ 8))),ee 7 false (ks .gtr T.a 10 9 16),pv 11 7 10,aU 12 11,ee 12 false (aU 13 0),ee 12 false (cS 14 (.bin .eql T.n (aQ 13) (.const (.string ⟨#[115,101,108,102]⟩)))),pv 15 12 14,aU 16 15,ee 16 false (aU 17 0),ee 16 false (cS 18 (.bin .eql T.n (aQ 17) (.const (.string ⟨#[110,111,110,101]⟩)))),pv 19 16 18,aU 20 19,ee 20 false (aU 21 0),ee 20 false (cS 22 (.bin .eql T.n (aQ 21) (.const (.string ⟨#[108,101,110]⟩)))),pv 23 20 22,aU 24 23,ee 24 false (aU 25 0),ee 24 false (cS 26 (.bin .eql T.n (aQ 25) (.const (.string ⟨#[97,116]⟩)))),pv 27 24 26])),(4,.c (.dB [aU 33 4,ks .eql T.a 34 33 1,aU 35 34,ee 35 true (aU 36 3),ee 35 true (aU 37 0),ee 35 true (cS 38 (.qq (aQ 37))),ee 35 true (iU .eql T.a 39 36 38),yd 40 35 39,aU 2 40]))] Tryz.f98⟩:=bf
def E.Lr:bd F.Lr ⟨107,[.tmp 4,.tmp 5],zA_ [(18,.w),(20,.w),(22,.w)] Tryz.f99⟩:=bf
def E.Md:bd F.Md ⟨82,[.tmp 6],zA_ [(2,.w)] Tryz.f100⟩:=bf
def E.Me:bd F.Me ⟨34,[.tmp 4],zA_ [(4,.w)] Tryz.f101⟩:=bf
def E.Jk:bd F.Jk ⟨11,[.tmp 2,.tmp 3],zA_ [] Tryz.f102⟩:=bf
noncomputable def C.a:ny:=⟨17,[],zA_ [(1,.c (.uE [aU 10 0,aU 11 1,aU 12 2,aU 13 3,cS 14 (.ib [dR,dR,dR,dR] [(0,1),(1,1),(2,1),(3,1)] [(0,(aQ 10)),(1,(aQ 11)),(2,(aQ 12)),(3,(aQ 13))]),cS 15 (.ib [dR,dR,dR,dR] [(0,4)] [(0,(aQ 14))]),cS 16 (.DU T.nW (aQ 15))] (aQ 16)))] Tryz.f103⟩
theorem E.a:lY Tryz.prog F.a=some C.a:=Cx
def E.Jl:bd F.Jl ⟨17,[.tmp 6,.tmp 7],zA_ [(1,.c (.dB [eJ 8 3,mg 9 8,aU 10 2,cS 11 (.xM (aQ 10) (cE 0)),cS 12 (.xN F.x [] [(aQ 3)]),cS 13 (.xN F.y [] [(aQ 3),(aQ 4)]),iv 14 (.fn F.nU [(aQ 9),(aQ 11),(aQ 12),(aQ 13)]),cS 15 (.ext (aQ 14) 0),cS 16 (.ext (aQ 14) 1),aU 6 15,aU 7 16]))] Tryz.f104⟩:=bf
noncomputable def C.i:ny:=⟨16,[],zA_ [(0,.c (.dB [aU 8 0,aU 9 1,p0 10 (.pe .string (.bool false) false (aQ 8) (aQ 9))])),(1,.c (.fS [aU 11 2,aU 12 3] (some 13) F.a [(cE 7),(aQ 11),(aQ 12),(cE 0)])),(2,.c (.dB [aU 14 0,aU 15 1,hG (.kE .string (aQ 14) (aQ 15) (kI true))]))] Tryz.f105⟩
theorem E.i:lY Tryz.prog F.i=some C.i:=Cx
def E.Jm:bd F.Jm ⟨13,[.tmp 4,.tmp 5],zA_ [] Tryz.f106⟩:=bf
def E.Jn:bd F.Jn ⟨64,[.tmp 4,.tmp 5,.tmp 6],zA_ [] Tryz.f107⟩:=bf
def E.ds:bd F.ds ⟨33,[.iZ 6 4],zA_ [(3,.s (.q 0 6 (.f 6 (.f 7 .d .n) .n)))] Tryz.f108⟩:=bf
def E.Jo:bd F.Jo ⟨79,[.tmp 2,.tmp 3,.tmp 4],zA_ [(10,.c (.dB [aU 36 7,fu 37 2 11,eJ 38 37,cS 39 (.xM (aQ 38) (cE 0)),cS 40 (.zz (aQ 39) (cE 4)),cS 41 (.bin .add T.a (cE 1) (aQ 40)),iU .add T.a 42 36 41,aU 7 42]))] Tryz.f109⟩:=bf
def E.Jp:bd F.Jp ⟨34,[.tmp 2],zA_ [(1,.c (.dB [aU 5 0,cS 6 (.bin .eql T.n (aQ 5) (.const B3)),aU 7 6,ee 7 false (aU 8 0),ee 7 false (cS 9 (.qq (aQ 8))),ee 7 false (ks .gtr T.a 10 9 16),pv 11 7 10,aU 12 11,ee 12 false (aU 13 0),ee 12 false (cS 14 (.nK (aQ 13) (cE 0))),ee 12 false (cS 15 (.CH .i32 (aQ 14))),ee 12 false (iv 16 (.fn F.Fb [(aQ 15)])),ee 12 false (cS 17 (.un .not (aQ 16))),pv 18 12 17,aU 19 18,ee 19 false (aU 20 0),ee 19 false (iv 21 (.fn F.Fc [(aQ 20),(.func F.z)])),ee 19 false (aU 22 0),ee 19 false (cS 23 (.qq (aQ 22))),ee 19 false (iU .lss T.a 24 21 23),pv 25 19 24])),(5,.c (.dB [cS 29 (.Bv 4 (aQ 26) (aQ 27)),aU 4 29]))] Tryz.f110⟩:=bf
def E.Jq:bd F.Jq ⟨15,[.tmp 4,.tmp 5],zA_ [] Tryz.f111⟩:=bf
def E.Jr:bd F.Jr ⟨106,[.tmp 6],zA_ [(2,.w),(3,.w),(4,.w)] Tryz.f112⟩:=bf
def E.u:bd F.u ⟨39,[],zA_ [] Tryz.f113⟩:=bf
def E.Js:bd F.Js ⟨32,[.tmp 4],zA_ [] Tryz.f114⟩:=bf
def E.v:bd F.v ⟨50,[.tmp 8],zA_ [(5,.s (.w (.q 0 4 (.q 6 4 (.a 4 (.a 5 (.t 12 (.a 10 (.f 11 (.f 13 (.t 14 (.f 15 .d .n)) .n) .n) .n)) (.a 10 (.a 5 (.t 12 (.f 11 (.f 13 (.t 14 (.f 15 .d .n)) .n) .n)) .n) .n)) (.a 10 (.a 4 (.a 5 (.t 12 (.f 11 (.f 13 (.t 14 (.f 15 .d .n)) .n) .n)) .n) .n) .n))))))] Tryz.f116⟩:=bf
def E.Jt:bd F.Jt ⟨18,[.tmp 4],zA_ [] Tryz.f117⟩:=bf
theorem E.a2:bd F.a2 ⟨19,[.iZ 3 4],zA_ [] Tryz.f118⟩:=bf
theorem E.w:bd F.w ⟨38,[],zA_ [(4,.s (.q 0 8 (.t 10 (.a 8 (.t 9 (.q 11 5 (.f 16 (.q 17 2 .d) .n))) .n))))] Tryz.f119⟩:=bf
def E.Ju:bd F.Ju ⟨41,[.tmp 4],zA_ [(4,.w),(6,.w)] Tryz.f120⟩:=bf
def E.d0:bd F.d0 ⟨61,[.tmp 4,.iZ 6 5,.tmp 6],zA_ [(6,.s (.q 0 2 (.t 3 (.q 5 5 (.a 2 (.a 4 (.t 10 (.f 11 (.t 12 .d) .n)) .n) .n))))),(7,.s (.q 0 25 (.f 25 (.t 26 .d) .n)))] Tryz.f121⟩:=bf
theorem E.d1:bd F.d1 ⟨18,[],zA_ [(3,.c (.dB [aU 11 0,aU 12 1,aU 13 6,iU .add T.a 14 12 13,p0 15 (.pe (.int .i64) dR false (aQ 11) (aQ 14)),ks .add T.a 16 15 1,hG (.kE (.int .i64) (aQ 11) (aQ 14) (aQ 16))]))] Tryz.f122⟩:=bf
theorem E.d2:bd F.d2 ⟨14,[.tmp 2],zA_ [(1,.w)] Tryz.f123⟩:=bf
theorem E.d3:bd F.d3 ⟨9,[],zA_ [] Tryz.f124⟩:=bf
theorem E.d4:bd F.d4 ⟨40,[],zA_ [(5,.s (.q 0 10 (.f 10 .d .n)))] Tryz.f125⟩:=bf
theorem E.d5:bd F.d5 ⟨66,[],zA_ [(5,.s (.q 0 16 (.f 16 .d .n))),(7,.s (.q 0 2 (.q 4 2 (.a 2 (.t 3 (.t 6 (.f 7 .d .n))) .n)))),(12,.s (.q 0 2 (.q 4 2 (.a 2 (.t 3 (.t 6 (.f 7 .d .n))) .n))))] Tryz.f126⟩:=bf
def E.d6:bd F.d6 ⟨6,[.tmp 2],zA_ [] Tryz.f127⟩:=bf
def E.d7:bd F.d7 ⟨29,[.tmp 2],zA_ [] Tryz.f128⟩:=bf
def E.d8:bd F.d8 ⟨87,[],zA_ [(5,.w)] Tryz.f129⟩:=bf
theorem E.a3:bd F.a3 ⟨6,[],zA_ [] Tryz.f130⟩:=bf
def E.d9:bd F.d9 ⟨17,[.tmp 2,.tmp 3],zA_ [(3,.s (.q 0 2 (.t 3 (.t 5 (.a 2 (.a 4 (.a 6 (.t 7 (.f 8 (.q 9 2 .d) .n)) .n) .n) .n)))))] Tryz.f132⟩:=bf
theorem E.jt:bd F.jt ⟨90,[.tmp 6,.tmp 7],zA_ [(1,.s (.q 0 2 (.q 3 8 (.a 2 (.a 11 (.a 12 (.t 13 .d) .n) .n) (.a 11 (.a 2 (.a 12 (.t 13 .d) .n) .n) .n))))),(4,.w),(16,.s (.q 0 8 (.f 8 .d .n)))] Tryz.f133⟩:=bf
def E.vb:bd F.vb ⟨31,[.tmp 4],zA_ [] Tryz.f134⟩:=bf
def E.ae:bd F.ae ⟨34,[.iZ 6 4],zA_ [(2,.s (.q 0 21 (.f 21 .d .n)))] Tryz.f135⟩:=bf
def E.Jx:bd F.Jx ⟨39,[.tmp 8],zA_ [(4,.c (.rz (.take (aU 29 11) (.take (aU 30 12) (.take (aU 31 13) (.take (cS 32 (.jk 1 (aQ 29) (some (aQ 30)) (some (aQ 31)) none)) (.take (aU 33 1) (.take (aU 34 12) (.take (aU 35 13) (.take (cS 36 (.jk 1 (aQ 33) (some (aQ 34)) (some (aQ 35)) none)) (.fi (du 37 (.raw (.call ⟨.builtin .copy,#[(aQ 32),(aQ 36)],#[T.b,T.b]⟩) T.a)) .done .nil)))))))))))] Tryz.f136⟩:=bf
def E.MK:bd F.MK ⟨27,[.tmp 2],zA_ [] Tryz.f137⟩:=bf
def E.MJ:bd F.MJ ⟨24,[.tmp 4],zA_ [] Tryz.f138⟩:=bf
def E.Mx:bd F.Mx ⟨57,[.tmp 2],zA_ [(12,.s (.q 0 6 (.f 6 (.t 7 .d) .n)))] Tryz.f139⟩:=bf
def E.Mz:bd F.Mz ⟨191,[.tmp 4,.tmp 5],zA_ [(5,.s (.q 0 5 (.q 6 5 (.a 5 (.a 11 (.f 12 (.t 13 .d) .n) .n) (.a 11 (.a 5 (.f 12 (.t 13 .d) .n) .n) .n))))),(18,.s (.q 0 18 (.f 18 (.f 19 (.t 20 .d) .n) .n))),(20,.s (.q 0 10 (.f 10 (.f 11 (.t 12 .d) .n) .n))),(23,.s (.q 0 15 (.f 15 (.f 16 (.t 17 .d) .n) .n))),(25,.s (.q 0 14 (.f 14 (.t 15 .d) .n))),(27,.s (.w (.q 0 2 (.q 3 9 (.a 2 (.f 12 (.f 13 (.t 14 .d) .n) .n) (.f 12 (.a 2 (.f 13 (.t 14 .d) .n) .n) .n))))))] Tryz.f140⟩:=bf
def E.Mp:bd F.Mp ⟨17,[.tmp 6],zA_ [] Tryz.f141⟩:=bf
def E.Ls:bd F.Ls ⟨26,[.tmp 2],zA_ [] Tryz.f143⟩:=bf
def E.LC:bd F.LC ⟨100,[.tmp 4,.tmp 5],zA_ [(21,.w)] Tryz.f144⟩:=bf
def E.Lx:bd F.Lx ⟨61,[.tmp 6,.tmp 7],zA_ [] Tryz.f145⟩:=bf
def E.Lw:bd F.Lw ⟨80,[.tmp 6,.tmp 7],zA_ [] Tryz.f146⟩:=bf
def E.Mc:bd F.Mc ⟨50,[.tmp 8],zA_ [] Tryz.f147⟩:=bf
def E.Mh:bd F.Mh ⟨19,[.tmp 2,.tmp 3,.tmp 4],zA_ [(4,.s (.q 0 4 (.q 5 3 (.a 4 (.q 8 3 .d) .n))))] Tryz.f148⟩:=bf
def E.Mu:bd F.Mu ⟨32,[.tmp 8,.tmp 9],zA_ [] Tryz.f149⟩:=bf
def E.Mg:bd F.Mg ⟨29,[.tmp 4,.tmp 5],zA_ [] Tryz.f150⟩:=bf
def E.LD:bd F.LD ⟨17,[.tmp 4,.tmp 5],zA_ [(2,.w)] Tryz.f151⟩:=bf
def E.L8:bd F.L8 ⟨7,[.tmp 2],zA_ [] Tryz.f152⟩:=bf
def E.LJ:bd F.LJ ⟨69,[.tmp 4],zA_ [(5,.w)] Tryz.f153⟩:=bf
def E.Hh:bd F.Hh ⟨37,[.tmp 4],zA_ [] Tryz.f154⟩:=bf
def E.Hi:bd F.Hi ⟨22,[.tmp 4],zA_ [] Tryz.f155⟩:=bf
def E.LK:bd F.LK ⟨92,[.tmp 6,.tmp 7],zA_ [(15,.w)] Tryz.f156⟩:=bf
def E.Ln:bd F.Ln ⟨99,[.tmp 4,.tmp 5],zA_ [(2,.c (.dB [aU 10 0,aU 11 1,cS 12 (.nK (aQ 10) (aQ 11)),iv 13 (.fn F.DR [(aQ 12)])])),(3,.c (.dB [aU 14 6,aU 15 0,cS 16 (.qq (aQ 15)),iU .lss T.a 17 14 16,aU 18 17,ee 18 true (aU 19 0),ee 18 true (aU 20 6),ee 18 true (cS 21 (.nK (aQ 19) (aQ 20))),ee 18 true (iv 22 (.fn F.DR [(aQ 21)])),ee 18 true (aU 23 22),ee 23 false (aU 24 0),ee 23 false (aU 25 6),ee 23 false (cS 26 (.nK (aQ 24) (aQ 25))),ee 23 false (iv 27 (.fn F.BA [(aQ 26)])),ee 18 true (pv 28 23 27),ee 18 true (aU 29 28),ee 29 false (aU 30 0),ee 29 false (aU 31 6),ee 29 false (cS 32 (.nK (aQ 30) (aQ 31))),ee 29 false (cS 33 (.bin .eql T.a4 (aQ 32) (.const (.int .u8 95)))),ee 18 true (pv 34 29 33),yd 35 18 34])),(6,.c (.dB [aU 41 0,aU 42 1,cS 43 (.nK (aQ 41) (aQ 42)),iv 44 (.fn F.BA [(aQ 43)])])),(7,.c (.dB [aU 45 6,aU 46 0,cS 47 (.qq (aQ 46)),iU .lss T.a 48 45 47,aU 49 48,ee 49 true (aU 50 0),ee 49 true (aU 51 6),ee 49 true (cS 52 (.nK (aQ 50) (aQ 51))),ee 49 true (iv 53 (.fn F.BA [(aQ 52)])),yd 54 49 53])),(14,.c (.sL [aU 67 0,cS 68 (.qq (aQ 67)),aU 69 1,iU .sub T.a 70 68 69,aU 71 7,aU 72 8,iw 73 1 71 72,eJ 74 73,cS 75 (.qq (aQ 74)),iU .geq T.a 76 70 75,aU 77 76,ee 77 true (aU 78 0),ee 77 true (aU 79 1),ee 77 true (aU 80 1),ee 77 true (aU 81 7),ee 77 true (aU 82 8),ee 77 true (iw 83 1 81 82),ee 77 true (eJ 84 83),ee 77 true (cS 85 (.qq (aQ 84))),ee 77 true (iU .add T.a 86 80 85),ee 77 true (cS 87 (.BR (aQ 78) (some (aQ 79)) (some (aQ 86)))),ee 77 true (aU 88 7),ee 77 true (aU 89 8),ee 77 true (iw 90 1 88 89),ee 77 true (eJ 91 90),ee 77 true (iU .eql T.n 92 87 91),yd 93 77 92])),(15,.c (.dB [aU 94 7,aU 95 8,iw 96 1 94 95,eJ 97 96,cS 98 (.qq (aQ 97)),aU 4 98,fK 5 (cE 3)]))] Tryz.f157⟩:=bf
def E.Ly:bd F.Ly ⟨118,[.tmp 4,.tmp 5],zA_ [(27,.w)] Tryz.f158⟩:=bf
def E.Lz:bd F.Lz ⟨51,[.tmp 6,.tmp 7],zA_ [] Tryz.f159⟩:=bf
def E.LB:bd F.LB ⟨27,[.tmp 6,.tmp 7],zA_ [] Tryz.f160⟩:=bf
def E.nU:bd F.nU ⟨44,[.tmp 8,.tmp 9],zA_ [(1,.c (.dB [du 14 .vR,aU 10 14])),(12,.c (.dB [aU 34 10,aU 35 12,p0 36 (.pe .string (.bool false) false (aQ 34) (aQ 35)),aU 33 36])),(16,.c (.dB [aU 41 10,aU 42 12,hG (.kE .string (aQ 41) (aQ 42) (kI true))]))] Tryz.f161⟩:=bf
def E.sB:bd F.sB ⟨9,[.tmp 3],zA_ [] Tryz.f162⟩:=bf
def E.sC:bd F.sC ⟨18,[.tmp 3],zA_ [] Tryz.f163⟩:=bf
theorem E.x:bd F.x ⟨9,[.tmp 3],zA_ [] Tryz.f164⟩:=bf
theorem E.y:bd F.y ⟨51,[.tmp 4],zA_ [] Tryz.f165⟩:=bf
def E.CT:bd F.CT ⟨18,[.tmp 4],zA_ [] Tryz.f166⟩:=bf
def E.wY:bd F.wY ⟨23,[.tmp 4,.tmp 5],zA_ [(2,.w)] Tryz.f167⟩:=bf
theorem E.ej:bd F.ej ⟨22,[.tmp 4],zA_ [] Tryz.f168⟩:=bf
def E.a9:bd F.a9 ⟨9,[.tmp 3],zA_ [] Tryz.f169⟩:=bf
def E.gM:bd F.gM ⟨36,[.tmp 4],zA_ [] Tryz.f170⟩:=bf
theorem E.bG:bd F.bG ⟨36,[.tmp 4],zA_ [] Tryz.f171⟩:=bf
theorem E.aD:bd F.aD ⟨40,[.tmp 4,.tmp 5],zA_ [] Tryz.f172⟩:=bf
theorem E.aO:bd F.aO ⟨12,[.iZ 6 4],zA_ [(1,.s (.t 0 (.t 2 (.f 1 (.t 4 (.f 3 (.f 5 (.t 6 (.f 7 .d .n)) .n) (.f 5 (.f 3 (.t 6 (.f 7 .d .n)) .n) .n))) (.f 3 (.f 1 (.t 4 (.f 5 (.t 6 (.f 7 .d .n)) .n)) .n) .n)))))] Tryz.f173⟩:=bf
theorem E.bo:bd F.bo ⟨60,[.tmp 6,.tmp 7],zA_ [] Tryz.f174⟩:=bf
def E.hh:bd F.hh ⟨9,[.tmp 3],zA_ [] Tryz.f176⟩:=bf
def E.bC:bd F.bC ⟨45,[.iZ 6 2],zA_ [(1,.s (.q 0 2 (.q 3 2 (.q 6 2 (.a 2 (.t 9 (.a 5 (.f 8 (.f 10 (.t 11 (.f 12 (.t 13 (.f 14 .d .n)) .n)) .n) .n) .n)) .n)))))] Tryz.f177⟩:=bf
def E.Fb:bd F.Fb ⟨17,[.tmp 2],zA_ [] Tryz.f178⟩:=bf
def E.Fc:bd F.Fc ⟨20,[.tmp 4],zA_ [(1,.c (.dB [aU 7 0,du 8 (.BP (aQ 7))])),(2,.c (.dB [du 9 (.BF (aQ 8)),cS 10 (.ext (aQ 9) 0)])),(6,.c (.dB [aU 18 0,cS 19 (.qq (aQ 18)),aU 4 19]))] Tryz.f179⟩:=bf
def E.z:bd F.z ⟨13,[.tmp 2],zA_ [] Tryz.f180⟩:=bf
def E.b5:bd F.b5 ⟨52,[.tmp 8,.tmp 9],zA_ [] Tryz.f181⟩:=bf
def E.cL:bd F.cL ⟨12,[.tmp 4,.tmp 5],zA_ [] Tryz.f182⟩:=bf
def E.eK:bd F.eK ⟨74,[.tmp 6,.tmp 7],zA_ [] Tryz.f183⟩:=bf
def E.fO:bd F.fO ⟨33,[.tmp 4,.tmp 5],zA_ [] Tryz.f184⟩:=bf
def E.ju:bd F.ju ⟨38,[.tmp 4,.tmp 5],zA_ [] Tryz.f185⟩:=bf
def E.yQ:bd F.yQ ⟨7,[.tmp 2],zA_ [] Tryz.f186⟩:=bf
def E.AE:bd F.AE ⟨21,[],zA_ [] Tryz.f187⟩:=bf
def E.be:bd F.be ⟨77,[],zA_ [(7,.s (.q 0 2 (.q 4 2 (.a 2 (.t 3 (.t 6 (.f 7 .d .n))) .n)))),(9,.s (.q 0 10 (.f 10 .d .n))),(15,.s (.q 0 9 (.f 9 .d .n)))] Tryz.f188⟩:=bf
def E.oS:bd F.oS ⟨56,[],zA_ [(2,.s (.q 0 15 (.f 15 .d .n))),(3,.s (.q 0 15 (.f 15 (.f 16 .d .n) .n)))] Tryz.f189⟩:=bf
def E.fd:bd F.fd ⟨26,[],zA_ [(0,.s (.q 0 19 (.f 19 .d .n)))] Tryz.f190⟩:=bf
def E.JE:bd F.JE ⟨18,[.tmp 4,.tmp 5],zA_ [] Tryz.f196⟩:=bf
def E.JF:bd F.JF ⟨56,[.tmp 2],zA_ [] Tryz.f197⟩:=bf
def E.JG:bd F.JG ⟨20,[.tmp 2,.tmp 3],zA_ [(5,.w)] Tryz.f198⟩:=bf
def E.JH:bd F.JH ⟨33,[.tmp 4,.tmp 5],zA_ [(1,.w)] Tryz.f199⟩:=bf
def E.MI:bd F.MI ⟨28,[.tmp 4],zA_ [(7,.w)] Tryz.f200⟩:=bf
def E.My:bd F.My ⟨89,[.tmp 6],zA_ [(7,.w),(17,.w)] Tryz.f201⟩:=bf
def E.MB:bd F.MB ⟨47,[.tmp 4,.iZ 6 5,.tmp 6],zA_ [(4,.s (.q 0 5 (.q 6 2 (.q 14 2 (.a 5 (.q 8 2 (.t 18 (.a 10 (.q 11 2 (.a 13 (.t 16 (.a 17 (.f 19 (.t 20 .d) .n) .n)) .n)) .n))) .n)))))] Tryz.f202⟩:=bf
def E.MA:bd F.MA ⟨120,[.tmp 8],zA_ [(8,.s (.q 0 10 (.f 10 (.f 11 (.t 12 .d) .n) .n))),(10,.s (.q 0 16 (.f 16 (.f 17 (.t 18 .d) .n) .n))),(12,.s (.q 0 13 (.f 13 (.f 14 (.t 15 .d) .n) .n))),(14,.s (.q 0 10 (.f 10 (.f 11 (.t 12 .d) .n) .n))),(19,.w)] Tryz.f203⟩:=bf
def E.MC:bd F.MC ⟨35,[.tmp 10],zA_ [(2,.s (.q 0 6 (.t 7 (.a 6 (.q 8 2 (.a 10 (.q 11 2 (.f 13 (.t 14 .d) .n)) .n)) .n)))),(3,.s (.q 0 7 (.a 7 (.f 8 (.t 9 .d) .n) .n)))] Tryz.f204⟩:=bf
def E.ME:bd F.ME ⟨19,[.tmp 4],zA_ [] Tryz.f205⟩:=bf
def E.MF:bd F.MF ⟨46,[.tmp 2],zA_ [] Tryz.f206⟩:=bf
def E.Lv:bd F.Lv ⟨18,[.tmp 4,.tmp 5],zA_ [] Tryz.f207⟩:=bf
def E.Lt:bd F.Lt ⟨4,[.tmp 2],zA_ [] Tryz.f208⟩:=bf
def E.Lj:bd F.Lj ⟨14,[.tmp 4,.tmp 5],zA_ [] Tryz.f209⟩:=bf
def E.Lg:bd F.Lg ⟨14,[.tmp 4,.tmp 5],zA_ [] Tryz.f210⟩:=bf
def E.Lh:bd F.Lh ⟨14,[.tmp 4,.tmp 5],zA_ [] Tryz.f211⟩:=bf
def E.Mf:bd F.Mf ⟨23,[.tmp 2],zA_ [] Tryz.f212⟩:=bf
def E.Mi:bd F.Mi ⟨31,[.tmp 4],zA_ [] Tryz.f213⟩:=bf
def E.Mj:bd F.Mj ⟨37,[.tmp 2],zA_ [] Tryz.f214⟩:=bf
def E.LO:bd F.LO ⟨21,[.tmp 6],zA_ [] Tryz.f215⟩:=bf
def E.LN:bd F.LN ⟨96,[.tmp 6],zA_ [(19,.w)] Tryz.f216⟩:=bf
def E.DR:bd F.DR ⟨17,[.tmp 2],zA_ [] Tryz.f217⟩:=bf
def E.BA:bd F.BA ⟨9,[.tmp 2],zA_ [] Tryz.f218⟩:=bf
def E.Lo:bd F.Lo ⟨2,[.tmp 0],zA_ [] Tryz.f219⟩:=bf
def E.Lu:bd F.Lu ⟨41,[.iZ 6 6,.tmp 7],zA_ [(1,.w)] Tryz.f220⟩:=bf
def E.Hg:bd F.Hg ⟨7,[.tmp 2],zA_ [] Tryz.f221⟩:=bf
def E.Lp:bd F.Lp ⟨32,[.iZ 6 4,.tmp 5],zA_ [(1,.w)] Tryz.f222⟩:=bf
def E.Ff:bd F.Ff ⟨9,[.tmp 3],zA_ [] Tryz.f224⟩:=bf
def E.f2:bd F.f2 ⟨28,[.tmp 4],zA_ [] Tryz.f225⟩:=bf
def E.f3:bd F.f3 ⟨23,[.tmp 6],zA_ [] Tryz.f226⟩:=bf
def E.f4:bd F.f4 ⟨11,[.tmp 2],zA_ [] Tryz.f227⟩:=bf
def E.f5:bd F.f5 ⟨85,[.tmp 4],zA_ [] Tryz.f228⟩:=bf
def E.f6:bd F.f6 ⟨47,[.tmp 2],zA_ [(10,.s (.q 0 2 (.q 3 2 (.a 2 (.t 6 (.f 5 (.f 7 (.t 8 (.f 9 .d .n)) .n) .n)) .n))))] Tryz.f233⟩:=bf
def E.f7:bd F.f7 ⟨9,[.tmp 2],zA_ [] Tryz.f234⟩:=bf
def E.f8:bd F.f8 ⟨14,[.tmp 0],zA_ [(1,.c (.dB [du 1 .vR,cS 2 (.ib [dR,dR,dR,.nilFunc] [(0,1),(1,1),(2,1),(3,1)] [(0,(cE 1)),(1,(cE 1)),(2,(cE 1)),(3,(.func F.nV))]),hG (.kE (.int .i64) (aQ 1) (cE 9) (aQ 2)),cS 3 (.ib [dR,dR,dR,.nilFunc] [(0,1),(1,1),(2,1),(3,1)] [(0,(cE 1)),(1,(cE 0)),(2,(cE 0)),(3,(.func F.rP))]),hG (.kE (.int .i64) (aQ 1) (cE 10) (aQ 3)),cS 4 (.ib [dR,dR,dR,.nilFunc] [(0,1),(1,1),(2,1),(3,1)] [(0,(cE 2)),(1,(cE 0)),(2,(cE 0)),(3,(.func F.ac))]),hG (.kE (.int .i64) (aQ 1) (cE 11) (aQ 4)),cS 5 (.ib [dR,dR,dR,.nilFunc] [(0,1),(1,1),(2,1),(3,1)] [(0,(cE 2)),(1,(cE 0)),(2,(cE 0)),(3,(.func F.tB))]),hG (.kE (.int .i64) (aQ 1) (cE 12) (aQ 5)),cS 6 (.ib [dR,dR,dR,.nilFunc] [(0,1),(1,1),(2,1),(3,1)] [(0,(cE 2)),(1,(cE 0)),(2,(cE 0)),(3,(.func F.tC))]),hG (.kE (.int .i64) (aQ 1) (cE 13) (aQ 6)),iv 7 (.fn F.e [(cE (-1)),(.func F.nW)]),hG (.kE (.int .i64) (aQ 1) (cE 14) (aQ 7)),iv 8 (.fn F.e [(cE (-1)),(.func F.gu)]),hG (.kE (.int .i64) (aQ 1) (cE 15) (aQ 8)),iv 9 (.fn F.e [(cE 0),(.func F.rQ)]),hG (.kE (.int .i64) (aQ 1) (cE 16) (aQ 9)),iv 10 (.fn F.e [(cE 0),(.func F.wC)]),hG (.kE (.int .i64) (aQ 1) (cE 17) (aQ 10)),iv 11 (.fn F.e [(cE 1),(.func F.wD)]),hG (.kE (.int .i64) (aQ 1) (cE 18) (aQ 11)),iv 12 (.fn F.e [(cE 1),(.func F.am)]),hG (.kE (.int .i64) (aQ 1) (cE 19) (aQ 12)),aU 13 1,aU 0 13]))] Tryz.f235⟩:=bf
def E.f9:bd F.f9 ⟨94,[.tmp 8],zA_ [(1,.w),(8,.c (.rz (.take (aU 33 0) (.take (cS 34 (.xO (aQ 33))) (.take (fu 35 1 34) (.take (eJ 36 35) (.take (fu 37 0 5) (.take (eJ 38 37) (.take (p0 39 (.pe (.int .i64) (.agg #[dR,dR,dR,.nilFunc]) true (aQ 36) (aQ 38))) (.take (aU 32 39) (.take (cS 40 (.ext (aQ 32) 0)) (.take (cS 41 (.ext (aQ 32) 1)) (.alt (du 12 (.new T.nY (.agg #[dR,dR,dR,.nilFunc]))) (.fi (hG (.mc 4 (aQ 12) (aQ 40))) (.take (aU 13 41) .done) .nil) .nil))))))))))))),(10,.w),(14,.s (.q 0 14 (.a 14 (.f 15 (.q 16 2 (.f 18 .d .n)) .n) .n)))] Tryz.f236⟩:=bf
def E.ac:bd F.ac ⟨12,[.tmp 4,.tmp 5],zA_ [] Tryz.f237⟩:=bf
def E.JO:bd F.JO ⟨96,[.tmp 4,.tmp 5],zA_ [(7,.w),(11,.w)] Tryz.f238⟩:=bf
def E.JP:bd F.JP ⟨45,[.tmp 6,.tmp 7,.tmp 8],zA_ [(3,.w),(4,.w)] Tryz.f239⟩:=bf
def E.gc:bd F.gc ⟨15,[.tmp 2],zA_ [(1,.w)] Tryz.f240⟩:=bf
def E.JQ:bd F.JQ ⟨15,[.tmp 4,.tmp 5],zA_ [] Tryz.f246⟩:=bf
def E.ge:bd F.ge ⟨208,[.iZ 5 2],zA_ [(6,.s (.q 0 17 (.a 17 (.q 18 2 (.a 20 (.f 21 (.t 22 (.f 23 .d .n)) .n) .n)) .n))),(11,.s (.q 0 9 (.a 9 (.f 10 (.t 11 (.f 12 .d .n)) .n) .n))),(16,.s (.q 0 4 (.a 4 (.a 5 (.f 6 (.t 7 (.f 8 .d .n)) .n) .n) .n))),(21,.s (.q 0 27 (.f 27 .d .n))),(23,.s (.q 0 13 (.a 13 (.f 14 .d .n) .n))),(24,.w),(25,.s (.q 0 23 (.f 23 .d .n)))] Tryz.f247⟩:=bf
def E.MD:bd F.MD ⟨24,[.tmp 4],zA_ [(3,.w)] Tryz.f248⟩:=bf
def E.Lk:bd F.Lk ⟨22,[.tmp 6,.tmp 7],zA_ [] Tryz.f249⟩:=bf
def E.LP:bd F.LP ⟨39,[.tmp 4],zA_ [(9,.w)] Tryz.f250⟩:=bf
def E.LQ:bd F.LQ ⟨25,[.tmp 6,.tmp 7],zA_ [] Tryz.f251⟩:=bf
def E.LA:bd F.LA ⟨14,[.tmp 4],zA_ [] Tryz.f252⟩:=bf
def E.FL:bd F.FL ⟨12,[.tmp 3],zA_ [] Tryz.f254⟩:=bf
def E.JR:bd F.JR ⟨10,[.tmp 4],zA_ [] Tryz.f255⟩:=bf
def E.Fg:bd F.Fg ⟨39,[.iZ 6 6,.tmp 7,.tmp 8],zA_ [(3,.w)] Tryz.f256⟩:=bf
def E.bi:bd F.bi ⟨25,[.tmp 4,.tmp 5],zA_ [(3,.w)] Tryz.f257⟩:=bf
def E.JS:bd F.JS ⟨32,[.tmp 6],zA_ [] Tryz.f258⟩:=bf
def E.nV:bd F.nV ⟨9,[.tmp 4,.tmp 5],zA_ [] Tryz.f260⟩:=bf
def E.vi:bd F.vi ⟨4,[.tmp 2],zA_ [] Tryz.f261⟩:=bf
def E.rP:bd F.rP ⟨10,[.tmp 4,.tmp 5],zA_ [] Tryz.f262⟩:=bf
def E.tB:bd F.tB ⟨12,[.tmp 4,.tmp 5],zA_ [] Tryz.f263⟩:=bf
def E.tC:bd F.tC ⟨12,[.tmp 4,.tmp 5],zA_ [] Tryz.f264⟩:=bf
theorem E.e:bd F.e ⟨8,[.iZ 4 4],zA_ [] Tryz.f265⟩:=bf
def E.nW:bd F.nW ⟨8,[.tmp 4],zA_ [] Tryz.f266⟩:=bf
def E.gu:bd F.gu ⟨8,[.tmp 4],zA_ [] Tryz.f267⟩:=bf
def E.rQ:bd F.rQ ⟨8,[.tmp 4],zA_ [] Tryz.f268⟩:=bf
def E.wC:bd F.wC ⟨8,[.tmp 4],zA_ [] Tryz.f269⟩:=bf
def E.wD:bd F.wD ⟨11,[.tmp 4],zA_ [] Tryz.f270⟩:=bf
def E.am:bd F.am ⟨11,[.tmp 4],zA_ [] Tryz.f271⟩:=bf
def E.go:bd F.go ⟨26,[.tmp 4],zA_ [(5,.c (.dB [aU 18 1,aU 19 0,p0 20 (.pe (.int .i64) (.agg #[dR,dR,dR,.nilFunc]) true (aQ 18) (aQ 19)),aU 17 20,cS 21 (.ext (aQ 17) 0),cS 22 (.ext (aQ 17) 1),du 5 (.new T.nY (.agg #[dR,dR,dR,.nilFunc])),hG (.mc 4 (aQ 5) (aQ 21)),aU 6 22]))] Tryz.f272⟩:=bf
def E.Fh:bd F.Fh ⟨8,[.tmp 4],zA_ [] Tryz.f273⟩:=bf
def E.JU:bd F.JU ⟨24,[.tmp 6,.tmp 7],zA_ [] Tryz.f274⟩:=bf
def E.JV:bd F.JV ⟨21,[.tmp 4,.tmp 5],zA_ [] Tryz.f275⟩:=bf
def E.JW:bd F.JW ⟨12,[.tmp 4,.tmp 5],zA_ [] Tryz.f288⟩:=bf
def E.gs:bd F.gs ⟨117,[.tmp 6,.tmp 7],zA_ [(13,.w),(26,.w)] Tryz.f289⟩:=bf
def E.gt:bd F.gt ⟨26,[.tmp 4,.tmp 5],zA_ [(1,.w)] Tryz.f290⟩:=bf
def E.Ll:bd F.Ll ⟨9,[.tmp 2],zA_ [] Tryz.f291⟩:=bf
def E.JX:bd F.JX ⟨32,[.tmp 6,.tmp 7],zA_ [] Tryz.f292⟩:=bf
def E.Fi:bd F.Fi ⟨8,[.tmp 4],zA_ [] Tryz.f293⟩:=bf
def E.qb:bd F.qb ⟨8,[.tmp 4],zA_ [] Tryz.f294⟩:=bf
theorem E.k:bd F.k ⟨12,[.tmp 5,.tmp 6],zA_ [] Tryz.f295⟩:=bf
def E.JY:bd F.JY ⟨18,[.tmp 2],zA_ [] Tryz.f296⟩:=bf
def E.JZ:bd F.JZ ⟨18,[.tmp 4,.tmp 5],zA_ [] Tryz.f311⟩:=bf
def E.cU:bd F.cU ⟨34,[.tmp 4],zA_ [(2,.s (.q 0 17 (.f 17 (.q 18 2 .d) .n)))] Tryz.f335⟩:=bf
def E.J0:bd F.J0 ⟨42,[.tmp 6],zA_ [] Tryz.f336⟩:=bf
def E.Fj:bd F.Fj ⟨80,[.tmp 4],zA_ [(3,.w),(5,.s (.q 0 18 (.f 18 (.t 19 .d) .n)))] Tryz.f337⟩:=bf
def E.wJ:bd F.wJ ⟨40,[.tmp 4],zA_ [(2,.s (.q 0 23 (.f 23 (.q 24 2 .d) .n)))] Tryz.f338⟩:=bf
def E.Fl:bd F.Fl ⟨99,[.tmp 4],zA_ [(2,.s (.q 0 13 (.a 13 (.f 14 .d .n) .n))),(3,.w),(6,.w),(8,.c (.dB [aU 89 1,cS 90 (.xO (aQ 89)),fu 91 2 90,eJ 92 91,aU 93 10,aU 94 11,cS 95 (.jk 1 (aQ 92) (some (aQ 93)) (some (aQ 94)) none),aU 96 12,du 97 (.raw (.call ⟨.builtin .copy,#[(aQ 95),(aQ 96)],#[T.b,T.b]⟩) T.a)]))] Tryz.f339⟩:=bf
def E.J1:bd F.J1 ⟨26,[.tmp 4,.tmp 5],zA_ [] Tryz.f340⟩:=bf
def E.g0:bd F.g0 ⟨24,[.tmp 2],zA_ [] Tryz.f341⟩:=bf
theorem E.g1:bd F.g1 ⟨17,[.tmp 4],zA_ [(3,.c (.dB [aU 12 5,cS 13 (.jk 1 (aQ 12) (some (cE 1)) none none),aU 14 1,du 15 (.raw (.call ⟨.builtin .copy,#[(aQ 13),(aQ 14)],#[T.b,T.b]⟩) T.a)]))] Tryz.f342⟩:=bf
theorem E.g2:bd F.g2 ⟨24,[.tmp 2],zA_ [(4,.c (.rz (.take (aU 11 3) (.take (aU 12 0) (.take (aU 13 0) (.take (cS 14 (.ox 1 (aQ 13) (cE 0))) (.take (eJ 15 14) (.take (cS 16 (.bin .add T.a (cE 1) (aQ 15))) (.take (aU 17 0) (.take (cS 18 (.ox 1 (aQ 17) (cE 0))) (.take (eJ 19 18) (.take (cS 20 (.bin .add T.a (cE 1) (aQ 19))) (.take (cS 21 (.jk 1 (aQ 12) (some (cE 1)) (some (aQ 16)) (some (aQ 20)))) (.fi (du 22 (.raw (.call ⟨.builtin .copy,#[(aQ 11),(aQ 21)],#[T.b,T.b]⟩) T.a)) .done .nil))))))))))))))] Tryz.f343⟩:=bf
theorem E.g3:bd F.g3 ⟨15,[.tmp 6],zA_ [] Tryz.f344⟩:=bf
def E.u2:bd F.u2 ⟨5,[.tmp 2],zA_ [] Tryz.f345⟩:=bf
def E.nZ:bd F.nZ ⟨67,[.tmp 4],zA_ [(1,.w),(3,.c (.dB [aU 33 1,cS 34 (.xO (aQ 33)),fu 35 2 34,eJ 36 35,aU 37 5,aU 38 6,cS 39 (.jk 1 (aQ 36) (some (aQ 37)) (some (aQ 38)) none),aU 40 7,du 41 (.raw (.call ⟨.builtin .copy,#[(aQ 39),(aQ 40)],#[T.b,T.b]⟩) T.a)])),(4,.s (.q 0 23 (.f 23 (.q 24 2 .d) .n)))] Tryz.f346⟩:=bf
theorem E.g4:bd F.g4 ⟨19,[.tmp 2,.tmp 3,.tmp 4],zA_ [(4,.s (.q 0 4 (.q 5 3 (.a 4 (.q 8 3 .d) .n))))] Tryz.f347⟩:=bf
theorem E.f:bd F.f ⟨42,[.tmp 4], (cT [fK 4 (.const iT)] (cT [aU 8 0,aU 9 1,oG 10 F.c2 [8,9],aU 5 10] (.seq (cT [aU 11 5,ks .eql T.a 12 11 (-1)] (kr 12 (cT [aU 13 0,aU 4 13] .ret) .skip)) (.seq (cT [aU 14 5,ks .add T.a 15 14 1,aU 6 15] (.cy 0 (.loop (.seq (cT [aU 16 6,aU 17 0,mg 18 17,iU .lss T.a 19 16 18] (kr 19 .skip (.exit 0))) (.seq (.cy 1 (cT [aU 22 0,aU 23 6,iw 24 3 22 23,iu 25 3 24,du 7 (.new T.j (.agg #[dR,dR,iT])),qG 3 7 25] (cT [aU 26 1,iu 27 3 7,iv 28 (.val (aQ 26) [(aQ 27)]),cS 29 (.un .not (aQ 28))] (kr 29 (cT [aU 30 0,aU 31 5,iu 32 3 7,iw 33 3 30 31,qG 3 33 32] (.dB [aU 34 5,ks .add T.a 35 34 1,aU 5 35])) .skip)))) (.dB [aU 20 6,ks .add T.a 21 20 1,aU 6 21])))))) (cT [aU 36 0,aU 37 5,cS 38 (.jk 3 (aQ 36) (some (aQ 37)) none none),hG (.raw (.call ⟨.builtin .clear,#[(aQ 38)],#[T.rQ]⟩) T.z)] (cT [aU 39 0,aU 40 5,cS 41 (.jk 3 (aQ 39) none (some (aQ 40)) none),aU 4 41] .ret))))))⟩:=bf
def E.yK:bd F.yK ⟨5,[.tmp 2], (cT [fK 2 (.const iT)] (cT [aU 3 0,iv 4 (.fn F.g5 [(.const iT),(aQ 3)]),aU 2 4] .ret))⟩:=bf
theorem E.h:bd F.h ⟨9,[.tmp 4], (cT [fK 4 (kI false)] (cT [aU 5 0,aU 6 1,oG 7 F.j [5,6],ks .geq T.a 8 7 0,aU 4 8] .ret))⟩:=bf
theorem E.c2:bd F.c2 ⟨19,[.tmp 4], (cT [fK 4 (cE 0)] (.seq (cT [aU 6 0,mg 7 6,fK 8 (cE 0)] (.cy 0 (.loop (cT [iU .lss T.a 9 8 7] (wg 9 0
 (.seq (.cy 1 (cT [aU 10 8,aU 5 10] (cT [aU 11 1,aU 12 0,aU 13 5,iw 14 3 12 13,iu 15 3 14,iv 16 (.val (aQ 11) [(aQ 15)])] (kr 16 (cT [aU 17 5,aU 4 17] .ret) .skip)))) (we T.a 18 8))))))) (cT [fK 4 (cE (-1))] .ret)))⟩:=bf
theorem E.j:bd F.j ⟨19,[.tmp 4], (cT [fK 4 (cE 0)] (.seq (cT [aU 6 0,mg 7 6,fK 8 (cE 0)] (.cy 0 (.loop (cT [iU .lss T.a 9 8 7] (wg 9 0
 (.seq (.cy 1 (cT [aU 10 8,aU 5 10] (cT [aU 11 1,aU 12 0,aU 13 5,iw 14 1 12 13,eJ 15 14,iv 16 (.val (aQ 11) [(aQ 15)])] (kr 16 (cT [aU 17 5,aU 4 17] .ret) .skip)))) (we T.a 18 8))))))) (cT [fK 4 (cE (-1))] .ret)))⟩:=bf
theorem E.g6:bd F.g6 ⟨8,[.tmp 2], (cT [fK 2 (.const iT)] (.seq (cT [aU 3 0,cS 4 (.bin .eql T.b (aQ 3) (.const iT))] (kr 4 (cT [fK 2 (.const iT)] .ret) .skip)) (cT [du 5 (.ku T.a 0 1 [] []),aU 6 0,du 7 (.app T.b T.a 1 8 (aQ 5) (aQ 6)),aU 2 7] .ret)))⟩:=bf
theorem E.bb:bd F.bb ⟨9,[.tmp 4], (cT [fK 4 (kI false)] (cT [aU 5 0,aU 6 1,oG 7 F.g7 [5,6],ks .geq T.a 8 7 0,aU 4 8] .ret))⟩:=bf
theorem E.p:bd F.p ⟨61,[.tmp 2], (cT [fK 2 (.const iT)] (.seq (cT [aU 6 0,mg 7 6,ks .lss T.a 8 7 2] (kr 8 (cT [aU 9 0,aU 2 9] .ret) .skip)) (.seq (cT [fK 3 (cE 1)] (.cy 0 (.loop (.seq (cT [aU 10 3,aU 11 0,mg 12 11,iU .lss T.a 13 10 12] (kr 13 .skip (.exit 0))) (.seq (.cy 1 (.seq (.sL [aU 16 0,aU 17 3,iw 18 2 16 17,iu 19 2 18,aU 20 0,aU 21 3,ks .sub T.a 22 21 1,iw 23 2 20 22,iu 24 2 23,iU .eql T.e 25 19 24]) (kr 25 (cT [aU 26 0,aU 27 3,cS 28 (.jk 2 (aQ 26) (some (aQ 27)) none none),aU 4 28] (.seq (cT [fK 5 (cE 1)] (.cy 2 (.loop (.seq (cT [aU 29 5,aU 30 4,mg 31 30,iU .lss T.a 32 29 31] (kr 32 .skip (.exit 2))) (.seq (.cy 3 (.seq (.sL [aU 35 4,aU 36 5,iw 37 2 35 36,iu 38 2 37,aU 39 4,aU 40 5,ks .sub T.a 41 40 1,iw 42 2 39 41,iu 43 2 42,iU .neq T.e 44 38 43]) (kr 44 (cT [aU 45 0,aU 46 3,aU 47 4,aU 48 5,iw 49 2 47 48,iu 50 2 49,iw 51 2 45 46,qG 2 51 50] (.dB [aU 52 3,ks .add T.a 53 52 1,aU 3 53])) .skip))) (.dB [aU 33 5,ks .add T.a 34 33 1,aU 5 34])))))) (cT [aU 54 0,aU 55 3,cS 56 (.jk 2 (aQ 54) (some (aQ 55)) none none),hG (.raw (.call ⟨.builtin .clear,#[(aQ 56)],#[T.t]⟩) T.z)] (cT [aU 57 0,aU 58 3,cS 59 (.jk 2 (aQ 57) none (some (aQ 58)) none),aU 2 59] .ret)))) .skip))) (.dB [aU 14 3,ks .add T.a 15 14 1,aU 3 15])))))) (cT [aU 60 0,aU 2 60] .ret))))⟩:=bf
theorem E.he:bd F.he ⟨9,[.tmp 4], (cT [fK 4 (kI false)] (cT [aU 5 0,aU 6 1,oG 7 F.ak [5,6],ks .geq T.a 8 7 0,aU 4 8] .ret))⟩:=bf
def E.g7:bd F.g7 ⟨19,[.tmp 4], (cT [fK 4 (cE 0)] (.seq (cT [aU 6 0,mg 7 6,fK 8 (cE 0)] (.cy 0 (.loop (cT [iU .lss T.a 9 8 7] (wg 9 0
 (.seq (.cy 1 (cT [aU 10 8,aU 5 10] (cT [aU 11 1,aU 12 0,aU 13 5,iw 14 6 12 13,iu 15 6 14,iv 16 (.val (aQ 11) [(aQ 15)])] (kr 16 (cT [aU 17 5,aU 4 17] .ret) .skip)))) (we T.a 18 8))))))) (cT [fK 4 (cE (-1))] .ret)))⟩:=bf
def E.g8:bd F.g8 ⟨8,[.tmp 2], (cT [fK 2 (.const iT)] (.seq (cT [aU 3 0,cS 4 (.bin .eql T.rP (aQ 3) (.const iT))] (kr 4 (cT [fK 2 (.const iT)] .ret) .skip)) (cT [du 5 (.ku T.wA 0 2 [] []),aU 6 0,du 7 (.app T.rP T.wA 2 24 (aQ 5) (aQ 6)),aU 2 7] .ret)))⟩:=bf
theorem E.g9:bd F.g9 ⟨8,[.tmp 2], (cT [fK 2 (.const iT)] (.seq (cT [aU 3 0,cS 4 (.bin .eql T.tB (aQ 3) (.const iT))] (kr 4 (cT [fK 2 (.const iT)] .ret) .skip)) (cT [du 5 (.ku T.m 0 6 [] []),aU 6 0,du 7 (.app T.tB T.m 6 56 (aQ 5) (aQ 6)),aU 2 7] .ret)))⟩:=bf
theorem E.aY:bd F.aY ⟨8,[.tmp 2], (cT [fK 2 (.const iT)] (.seq (cT [aU 3 0,cS 4 (.bin .eql T.tC (aQ 3) (.const iT))] (kr 4 (cT [fK 2 (.const iT)] .ret) .skip)) (cT [du 5 (.ku T.u 0 6 [] []),aU 6 0,du 7 (.app T.tC T.u 6 56 (aQ 5) (aQ 6)),aU 2 7] .ret)))⟩:=bf
theorem E.ak:bd F.ak ⟨19,[.tmp 4], (cT [fK 4 (cE 0)] (.seq (cT [aU 6 0,mg 7 6,fK 8 (cE 0)] (.cy 0 (.loop (cT [iU .lss T.a 9 8 7] (wg 9 0
 (.seq (.cy 1 (cT [aU 10 8,aU 5 10] (cT [aU 11 1,aU 12 0,aU 13 5,iw 14 6 12 13,iu 15 6 14,iv 16 (.val (aQ 11) [(aQ 15)])] (kr 16 (cT [aU 17 5,aU 4 17] .ret) .skip)))) (we T.a 18 8))))))) (cT [fK 4 (cE (-1))] .ret)))⟩:=bf
theorem E.an:bd F.an ⟨8,[.tmp 2], (cT [fK 2 (.const iT)] (.seq (cT [aU 3 0,cS 4 (.bin .eql T.t (aQ 3) (.const iT))] (kr 4 (cT [fK 2 (.const iT)] .ret) .skip)) (cT [du 5 (.ku T.e 0 2 [] []),aU 6 0,du 7 (.app T.t T.e 2 16 (aQ 5) (aQ 6)),aU 2 7] .ret)))⟩:=bf
end Go.Proofs.R
namespace ba
open Go Go.RowKit
section
variable{α:Type}{P:Program}{f:FuncId}{t BX:TypeId}{sz:Nat}{enc:α->List Value}
def Py(cH t:F_)(sz b:Nat):ny:=⟨8,[.tmp 2],
 (.seq (.dB [fK 2 (.const (.slice none 0 0))])
 (.seq (.seq (.dB [aU 3 0,cS 4 (.bin .eql cH (aQ 3) (.const (.slice none 0 0)))])
 (.cond (aQ 4) (.seq (.dB [fK 2 (.const (.slice none 0 0))])
 .ret)
 .skip))
 (.seq (.dB [du 5 (.ku t 0 sz [] []),aU 6 0,du 7 (.app cH t sz b (aQ 5) (aQ 6)),aU 2 7])
 .ret)))⟩
def YC{R:A_->Addr->α->Prop}{C:A_->C_ B_->α->Prop}[Rel R C sz]{cH:F_}{b:Nat}(hm:P.follows .mixedOrders=true)(de:lY P f=some (Py cH t sz b))(GX:P.underlying cH=some (.slice t))
  (v:B_)(xs:C_ α)(w:A_)(h:bm sz R w v xs)(ak:xs.length*b<=140737488355328) :
  aW P f #[v] w λbU w'=>(∃cb:C_ (fv sz),cb.length=xs.length/\pA t sz w.heap.size w' bU cb/\∀i (h1:i<cb.length) (J:i<xs.length),C w' cb[i].1 xs[i])/\Ext w w':=by
 obtain⟨bN,c1,rfl,bx⟩:=h.form;refine _g hm de (args:=[_]) (Nat.le_of_ble_eq_true rfl) ?_;dsimp only[Py,aQ,cE,kI,cS,p0,du,iv,hG,ee,aU,fK,fu,eJ,iw,ys,mg];refine aa ?_;refine AB6 GX ?_;refine aa ?_;refine N_ (λg=>?_) (λg=>?_)
 .refine aa ?_
  have:xs=[]:=by
   obtain⟨aN,cap,e,J,ab,aF,a7⟩:=h.ex;injection e with bG aD aO
   subst bG;by_cases ah:xs=[]
   .exact ah
   .have:=aF ah
    cases bN<;>simp_all
  subst this;exact⟨⟨[],rfl,aK.nil _ _ _ _ _,λi h=>by cases h⟩,Ext.refl _⟩
 obtain⟨a,rfl⟩:∃a,bN=some a:=by cases bN with | none=>cases g | some a=>exact⟨a,rfl⟩
 obtain⟨cb,aE,gx,br⟩:=h.cells;refine aa ?_;intro w1 bx cN af al;refine aa ?_;have aS:pA t sz w.heap.size w1 (.slice (some ⟨bx,0,none⟩) 0 0) []:=aK.empty cN al;refine _U (ys:=cb) aS k8 (bm.flat k8 (λ_ _ h=>h) (bm.ext Flat.ext af gx)) (by rw[aE]) yN (by rw[AI2,S6,aE];exact ak) (by have:=gx.len;have e:=h.len;rw[AI2,aE];omega) (by exact af.size) λbU w' nc aG _=>?_;obtain⟨aN,cap,rfl,_⟩:=nc.form;have ai:Ext w w':=af.grown aG λk hk=>by injection hk with hk;subst hk;exact cN
 refine aa ?_;exact⟨⟨cb,aE,by simpa using nc,λi h1 J=>Rel.ext (R:=R) ai (br i h1 J)⟩,ai⟩
def er.clone{R:A_->Addr->α->Prop}{C:A_->C_ B_->α->Prop}[Rel R C sz]{w w':A_}{v:B_}{xs:C_ α}{cb:C_ (fv sz)}(aE:cb.length=xs.length)(aS:pA t sz w.heap.size w' v cb)
  (ax:∀{w w':A_} {cs x},C w cs x->C w' cs x)(an:∀i (h1:i<cb.length) (J:i<xs.length),C w' cb[i].1 xs[i]):er w (λw=>bm sz R w v xs) w':=λaz m=>by
 have dy:=aK.mod aS m λk hk a=>by have:=(aS.lt k hk).1;omega
 exact bm.D1 aE (dy.iR k8) λi h1 J=>ax (an i h1 J)
def I6{R:A_->Addr->α->Prop}{C:A_->C_ B_->α->Prop}[Rel R C sz]{cH:F_}{b:Nat}(hm:P.follows .mixedOrders=true)(de:lY P f=some (Py cH t sz b))(GX:P.underlying cH=some (.slice t))
  (ax:∀{w w':A_} {cs x},C w cs x->C w' cs x)(v:B_)(xs:C_ α)(w:A_)(h:bm sz R w v xs)(ak:xs.length*b<=140737488355328) :
  aW P f #[v] w λbU w'=>(∃aN c,bU = .slice aN xs.length c)/\er w (λw=>bm sz R w bU xs) w'/\Ext w w' :=
 (YC hm de GX v xs w h ak).mono λbU w' ⟨⟨cb,aE,aS,an⟩,he⟩=>by
  have aw:=er.clone (R:=R) aE aS ax an;obtain⟨aN,c,e,_⟩:=aw.here.form;exact⟨⟨aN,c,e⟩,aw,he⟩
def SM(BX:F_)(sz:Nat):ny:=⟨19,[.tmp 4],
 (.seq (.dB [fK 4 (cE 0)])
 (.seq (.seq (.dB [aU 6 0,mg 7 6,fK 8 (cE 0)])
 (.cy 0 (.loop (.seq (.dB [cS 9 (.bin .lss BX (aQ 8) (aQ 7))])
 (.seq (.cond (aQ 9) .skip
 (.exit 0))
 (.seq (.cy 1 (.seq (.dB [aU 10 8,aU 5 10])
 (.seq (.dB [aU 11 1,aU 12 0,aU 13 5,iw 14 sz 12 13,p0 15 (.lj sz (aQ 14)),iv 16 (.val (aQ 11) [(aQ 15)])])
 (.cond (aQ 16) (.seq (.dB [aU 17 5,aU 4 17])
 .ret)
 .skip))))
 (.dB [cS 18 (.bin .add BX (aQ 8) (cE 1)),aU 8 18])))))))
 (.seq (.dB [fK 4 (cE (-1))])
 .ret)))⟩
def mu(p:α->Bool):C_ α->Nat->Int
 | [],_ => -1
 | x :: r,i=>if p x then i else mu p r (i+1)
def P7{p:α->Bool}{l:C_ α}{k:Nat}(h:k<l.length):mu p (l.drop k) k=if p l[k] then (k:Int) else mu p (l.drop (k+1)) (k+1):=by
 rw[AF0 h];rfl
theorem JI{p:α->Bool}:∀{l:C_ α} {i:Nat},(0<=mu p l i↔l.any p=true)
 | [],_=>by simp[mu]
 | x :: r,i=>by
  simp only[mu,List.any_cons];by_cases h:p x=true
  .rw[if_pos h];simp[h]
  .rw[if_neg h,JI];simp[h]
def SN{R:A_->Addr->α->Prop}{C:A_->C_ B_->α->Prop}[Rel R C sz](hm:P.follows .mixedOrders=true)(de:lY P f=some (SM BX sz))
  (v:B_)(xs:C_ α)(w:A_)(h:bm sz R w v xs)(g:E_)(aG:okF P g=true)(first cap:C_ B_)(p:α->Bool)
  (au:∀(i:Nat) (U:i<xs.length) (cs:C_ B_) (w':A_),Ext w w'->C w' cs xs[i]->aW P g (first++[Value.agg cs.toArray]++cap).toArray w' λv bO=>v = .bool (p xs[i])/\Ext w' bO) :
  aW P f #[v,.func (.func g) first.toArray cap.toArray] w λbU w'=>bU = .I (mu p xs 0)/\Ext w w':=by
 obtain⟨bN,c1,rfl,bx⟩:=h.form;refine _g hm de (args:=[_,_]) (Nat.le_of_ble_eq_true rfl) ?_;dsimp only[SM,aQ,cE,kI,cS,p0,du,iv,hG,ee,aU,fK,fu,eJ,iw,ys,mg];refine aa ?_;refine L_ 8 xs.length [0,1,7] (λ_=>[]) () (λk _ w'=>Ext w w'/\mu p xs 0=mu p (xs.drop k) k) a6 a6 ⟨Ext.refl _,CC⟩ ?_;rintro k _ S az hk ⟨ai,aP⟩;refine aa ?_;apply I_<;>intro g1
 .have a1:k<xs.length:=Aw
  obtain⟨a,rfl⟩:=h.addr;obtain⟨cs,gx,br⟩:=Rel.out (h.at k a1);have hlen:=Rel.len (R:=R) br;rw[P7 a1] at aP;refine aa ?_;refine Z_ (gx.ext ai) hlen ?_;refine aa ?_;refine V_ aG (au k a1 cs az ai (Rel.ext (R:=R) ai br)) ?_;rintro _ aM ⟨rfl,ag⟩;refine aa ?_;refine N_ (λg2=>?_) (λg2=>?_)
  .refine aa ?_;exact⟨by rw[aP,if_pos g2],ai.trans ag⟩
  .refine aa ?_;exact⟨a1,aJ,(),trivial,ai.trans ag,by rw[aP,if_neg (by simp[g2])]⟩
 .refine aa ?_;exact⟨by rw[aP,AE9 Aw];rfl,ai⟩
def YO(BX:F_)(g:E_):ny:=⟨9,[.tmp 4],
 (.seq (.dB [fK 4 (kI false)])
 (.seq (.dB [aU 5 0,aU 6 1,iv 7 (.fn g [(aQ 5),(aQ 6)]),cS 8 (.bin .geq BX (aQ 7) (cE 0)),aU 4 8])
 .ret))⟩
def YP{R:A_->Addr->α->Prop}{C:A_->C_ B_->α->Prop}[Rel R C sz]{ve:E_}{aun:F_}(hm:P.follows .mixedOrders=true)(J5:lY P ve=some (YO aun f))(de:lY P f=some (SM BX sz))
  (v:B_)(xs:C_ α)(w:A_)(h:bm sz R w v xs)(g:E_)(aG:okF P g=true)(first cap:C_ B_)(p:α->Bool)
  (au:∀(i:Nat) (U:i<xs.length) (cs:C_ B_) (w':A_),Ext w w'->C w' cs xs[i]->aW P g (first++[Value.agg cs.toArray]++cap).toArray w' λv bO=>v = .bool (p xs[i])/\Ext w' bO) :
  aW P ve #[v,.func (.func g) first.toArray cap.toArray] w λbU w'=>bU = .bool (xs.any p)/\Ext w w':=by
 refine _g hm J5 (args:=[_,_]) (Nat.le_of_ble_eq_true rfl) ?_;dsimp only[YO,aQ,cE,kI,cS,p0,du,iv,hG,ee,aU,fK,fu,eJ,iw,ys,mg];refine aa ?_;refine J_ (SN hm de v xs w h g aG first cap p au) ?_;rintro _ az ⟨rfl,ai⟩;refine aa ?_;refine⟨?_,ai⟩;congr 1;rw[AG4,decide_eq_true_eq];exact JI
end
end ba
namespace ba
open Go Go.RowKit
structure Ac(w:World)(a:Addr)(n:Int):Prop where
 cells:ff w a [Value.int .i64 n]
 ok:o.dZ n
theorem Ac.ext(w w':A_)(a:Addr)(n:Int)(he:Ext w w')(h:Ac w a n):Ac w' a n:=⟨h.cells.ext he,h.ok⟩
instance axp:px Ac (λn=>[Value.int .i64 n]):=⟨λ_ _ _ h=>h.cells⟩
abbrev py(w:A_)(v:B_)(l:C_ Int):Prop:=bm 1 Ac w v l
theorem py.ext{w w':A_}{v:B_}{l:C_ Int}(he:Ext w w')(h:py w v l):py w' v l:=bm.ext Ac.ext he h
def py.ok{w:A_}{v:B_}{l:C_ Int}(h:py w v l):∀z∈l,o.dZ z:=by
 intro z bB;obtain⟨i,U,rfl⟩:=List.mem_iff_getElem.1 bB;obtain⟨aN,cap,rfl,_⟩:=h.form;obtain⟨a,rfl⟩:=h.addr;exact(h.at i U).ok
def Co(w:A_)(a:Addr)(l:C_ Int):Prop := ∃v,w.cell? a=some v/\py w v l
theorem Co.ext(w w':A_)(a:Addr)(l:C_ Int)(he:Ext w w')(h:Co w a l):Co w' a l:=let ⟨v,h1,J⟩:=h; ⟨v,he.cell h1,J.ext he⟩
abbrev wx(w:A_)(v:B_)(l:C_ (C_ Int)):Prop:=bm 1 Co w v l
theorem wx.ext{w w':A_}{v:B_}{l:C_ (C_ Int)}(he:Ext w w')(h:wx w v l):wx w' v l:=bm.ext Co.ext he h
end ba
namespace o
open Go Go.RowKit ba
structure qI(w:World)(cs:List Value)(v:Env):Prop where
 ex:∃v0 v1 v2 v3,cs=[v0,v1,v2,v3,.int .i64 v.self]/\wx w v0 v.vars/\py w v1 v.lens/\py w v2 v.locals/\wx w v3 v.at_/\dZ v.self
theorem qI.ext{w w':A_}{cs:C_ B_}{v:Env}(he:Ext w w')(h:qI w cs v):qI w' cs v :=
 let ⟨v0,v1,v2,v3,e,ad,h1,J,ab,aF⟩:=h.ex
 ⟨v0,v1,v2,v3,e,ad.ext he,h1.ext he,J.ext he,ab.ext he,aF⟩
def qI.form{w:A_}{cs:C_ B_}{v:Env}(h:qI w cs v):∃a0 bz db c1 a2 c2 a3 bw,cs=[.slice a0 v.vars.length bz,.slice db v.lens.length c1,.slice a2 v.locals.length c2,.slice a3 v.at_.length bw,.I v.self] /\
  wx w (.slice a0 v.vars.length bz) v.vars/\py w (.slice db v.lens.length c1) v.lens/\py w (.slice a2 v.locals.length c2) v.locals/\wx w (.slice a3 v.at_.length bw) v.at_/\dZ v.self /\
  v.vars.length<=9223372036854775807/\v.lens.length<=9223372036854775807/\v.locals.length<=9223372036854775807/\v.at_.length<=9223372036854775807:=by
 obtain⟨v0,v1,v2,v3,rfl,ad,h1,J,ab,aF⟩:=h.ex;obtain⟨a0,bz,rfl,eB⟩:=ad.form;obtain⟨db,c1,rfl,dD⟩:=h1.form;obtain⟨a2,c2,rfl,dO⟩:=J.form;obtain⟨a3,bw,rfl,dU⟩:=ab.form;exact⟨a0,bz,db,c1,a2,c2,a3,bw,rfl,ad,h1,J,ab,aF,eB,dD,dO,dU⟩
end o
namespace ba
open Go Go.RowKit
theorem bm.one{α:Type}{sz:Nat}{R:A_->Addr->α->Prop}{w:A_}{v:B_}{xs:C_ α}(h:bm sz R w v xs):v.oneCell'=true:=by
 obtain⟨aN,c,rfl,_⟩:=h.form;rfl
def agp(_:A_)(cs:C_ B_)(n:Int):Prop:=cs=[Value.int .i64 n]/\o.dZ n
instance axA:Rel Ac agp 1 where
 out h:=⟨_,h.cells,rfl,h.ok⟩
 pb h k:=by obtain⟨rfl,k⟩:=k;exact⟨h,k⟩
 len h:=by rw[h.1];rfl
 one h:=by rw[h.1];simp[Value.oneCell']
 ext _ h:=h
def agH(w:A_)(cs:C_ B_)(l:C_ Int):Prop := ∃v,cs=[v]/\py w v l
instance axH:Rel Co agH 1 where
 out h:=by
  obtain⟨v,h1,J⟩:=h;exact⟨[v],λj u ay=>by cases j with | zero=>simp at ay;subst ay;rw[add_zero];exact h1 | succ j=>simp at ay,v,rfl,J⟩
 pb h k:=by
  obtain⟨v,rfl,k⟩:=k
  have:=h 0 v rfl
  rw[add_zero] at this;exact⟨v,this,k⟩
 len h:=by obtain⟨v,rfl,_⟩:=h;rfl
 one h:=by obtain⟨v,rfl,h⟩:=h;simpa using h.one
 ext e h:=let ⟨v,h1,J⟩:=h; ⟨v,h1,J.ext e⟩
end ba
namespace o
open Go Go.RowKit ba
def agI(_:A_)(cs:C_ B_)(x:Scalar):Prop:=cs=x.enc/\jV x.name
def agJ(_:A_)(cs:C_ B_)(x:Var):Prop:=cs=x.enc/\jV x.name
def agh(_:A_)(cs:C_ B_)(x:ea):Prop:=cs=x.enc/\jV x.name
def agv(_:A_)(cs:C_ B_)(x:Node):Prop:=cs=x.enc/\x.ok
instance axI:Rel kt agI 2 where
 out h:=⟨_,h.cells,rfl,h.ok⟩
 pb h k:=by obtain⟨rfl,k⟩:=k;exact⟨h,k⟩
 len h:=by rw[h.1];rfl
 one h:=by rw[h.1];simp[Scalar.enc,Value.oneCell']
 ext _ h:=h
instance axJ:Rel rL agJ 6 where
 out h:=⟨_,h.cells,rfl,h.ok⟩
 pb h k:=by obtain⟨rfl,k⟩:=k;exact⟨h,k⟩
 len h:=by rw[h.1];rfl
 one h:=by rw[h.1];simp[Var.enc,Value.oneCell']
 ext _ h:=h
instance axx:Rel rK agh 6 where
 out h:=⟨_,h.cells,rfl,h.ok⟩
 pb h k:=by obtain⟨rfl,k⟩:=k;exact⟨h,k⟩
 len h:=by rw[h.1];rfl
 one h:=by rw[h.1];simp[ea.enc,Value.oneCell']
 ext _ h:=h
instance axC:Rel Ad agv 2 where
 out h:=⟨_,h.cells,rfl,h.ok⟩
 pb h k:=by obtain⟨rfl,k⟩:=k;exact⟨h,k⟩
 len h:=by rw[h.1];rfl
 one h:=by rw[h.1];simp[Node.enc,Value.oneCell']
 ext _ h:=h
def EB(w:A_)(cs:C_ B_)(x:Act):Prop := ∃bK bY,cs=x.enc bK bY/\eW w bK x.index/\eW w bY x.value
theorem EB.ext{w w':A_}{cs:C_ B_}{c:Act}(he:Ext w w')(h:EB w cs c):EB w' cs c:=let ⟨bK,bY,h1,J,ab⟩:=h; ⟨bK,bY,h1,J.ext he,ab.ext he⟩
instance axv:Rel z8 EB 5 where
 out h:=let ⟨bK,bY,h1,J,ab⟩:=h; ⟨_,h1,bK,bY,rfl,J,ab⟩
 pb h k:=by obtain⟨bK,bY,rfl,J,ab⟩:=k;exact⟨bK,bY,h,J,ab⟩
 len h:=by obtain⟨bK,bY,rfl,J,ab⟩:=h;rfl
 one h:=by obtain⟨bK,bY,rfl,J,ab⟩:=h;simp[Act.enc,J.one,ab.one];simp[Value.oneCell']
 ext e h:=h.ext e
instance axy:Rel Aa B9 6 where
 out h:=let ⟨ad,bK,bY,h1,J,ab⟩:=h; ⟨_,h1,ad,bK,bY,rfl,J,ab⟩
 pb h k:=by obtain⟨ad,bK,bY,rfl,J,ab⟩:=k;exact⟨ad,bK,bY,h,J,ab⟩
 len h:=by obtain⟨ad,bK,bY,rfl,J,ab⟩:=h;rfl
 one h:=by obtain⟨ad,bK,bY,rfl,J,ab⟩:=h;simp[dG.enc,J.one,ab.one];simp[Value.oneCell']
 ext e h:=h.ext e
instance axF:Rel Cm yq 5 where
 out h:=let ⟨ad,bK,bY,h1,J,ab⟩:=h; ⟨_,h1,ad,bK,bY,rfl,J,ab⟩
 pb h k:=by obtain⟨ad,bK,bY,rfl,J,ab⟩:=k;exact⟨ad,bK,bY,h,J,ab⟩
 len h:=by obtain⟨ad,bK,bY,rfl,J,ab⟩:=h;rfl
 one h:=by obtain⟨ad,bK,bY,rfl,J,ab⟩:=h;simp[dv.enc,J.one,ab.one];simp[Value.oneCell']
 ext e h:=h.ext e
def II(w:A_)(cs:C_ B_)(x:lS):Prop:=jV x.name/\∃gX,cs=x.enc gX/\eW w gX x.expr
theorem II.ext{w w':A_}{cs:C_ B_}{c:lS}(he:Ext w w')(h:II w cs c):II w' cs c:=let ⟨ad,bK,h1,J⟩:=h; ⟨ad,bK,h1,J.ext he⟩
instance axG:Rel Cn II 2 where
 out h:=let ⟨ad,bK,h1,J⟩:=h; ⟨_,h1,ad,bK,rfl,J⟩
 pb h k:=by obtain⟨ad,bK,rfl,J⟩:=k;exact⟨ad,bK,h,J⟩
 len h:=by obtain⟨ad,bK,rfl,J⟩:=h;rfl
 one h:=by obtain⟨ad,bK,rfl,J⟩:=h;simp[lS.enc,J.one];simp[Value.oneCell']
 ext e h:=h.ext e
def afe:C_ j4:=[.i,.i]
end o
namespace ba
def aX{A B:Prop}(k:B)(h:yk B->A:=by
 intro q;simp -dsimp only[dg,cK,Nat.reduceAdd,Nat.reduceEqDiff,reduceIte,reduceCtorEq,dq];exact q.out):A:=h ⟨k⟩
end ba