/- Parts. -/
import Derived.Test.YtakmdjclehkglaaGreatDoorQawd
import Derived.Test.YtakmdjclehkglaaGreatDoorChecked
set_option linter.all false
set_option maxRecDepth 100000
set_option maxHeartbeats 1600000
section
namespace Go.Proofs.R
open Go a7 Go.Proofs
abbrev T.z:F_:=0
abbrev T.a:F_:=3
abbrev T.m:F_:=4
abbrev T.a3:F_:=5
abbrev T.n:F_:=9
abbrev T.ap:F_:=20
abbrev T.gD:F_:=21
abbrev T.rX:F_:=22
abbrev T.sU:F_:=23
abbrev T.sV:F_:=24
abbrev T.sZ:F_:=25
abbrev T.jI:F_:=26
abbrev T.f:F_:=28
abbrev T.b:F_:=29
abbrev T.Nt:F_:=34
abbrev T.g:F_:=36
abbrev T.j:F_:=39
abbrev T.c:F_:=42
abbrev T.a4:F_:=43
abbrev T.h:F_:=47
abbrev T.x:F_:=50
abbrev T.p:F_:=55
abbrev T.t:F_:=57
abbrev T.as:F_:=58
abbrev T.s:F_:=60
abbrev T.s0:F_:=61
abbrev T.k:F_:=63
abbrev T.d:F_:=65
abbrev T.e:F_:=72
abbrev T.y:F_:=74
abbrev T.l:F_:=76
abbrev T.avI:F_:=80
abbrev T.pr:F_:=101
abbrev T.a5:F_:=102
abbrev T.nh:F_:=103
abbrev T.Bj:F_:=105
abbrev T.vy:F_:=111
abbrev T.rV:F_:=114
abbrev T.p8:F_:=121
abbrev T.h7:F_:=126
abbrev T.atF:F_:=133
abbrev T.u:F_:=140
abbrev T.v:F_:=144
abbrev T.awd:F_:=148
abbrev T.tD:F_:=151
abbrev T.Bk:F_:=155
abbrev T.w:F_:=161
abbrev T.xM:F_:=165
abbrev T.p7:F_:=172
abbrev T.oM:F_:=175
abbrev T.Bl:F_:=179
abbrev T.i:F_:=181
abbrev T.q:F_:=183
abbrev T.rW:F_:=186
abbrev T.r:F_:=190
abbrev T.a9:F_:=202
abbrev T.ac:F_:=221
abbrev T.Bm:F_:=238
abbrev T.xN:F_:=239
abbrev T.ni:F_:=242
abbrev T.xO:F_:=247
abbrev T.a0:F_:=252
abbrev T.cZ:F_:=263
abbrev T.bi:F_:=265
abbrev T.a2:F_:=268
abbrev T.qX:F_:=307
abbrev T.sX:F_:=308
abbrev T.mJ:F_:=309
abbrev T.am:F_:=310
abbrev T.Hh:F_:=311
abbrev T.Bn:F_:=326
abbrev F.FJ:E_:=6
abbrev F.Hm:E_:=8
abbrev F.FK:E_:=10
abbrev F.nX:E_:=12
abbrev F.K8:E_:=14
abbrev F.FG:E_:=15
abbrev F.J8:E_:=16
abbrev F.K7:E_:=17
abbrev F.KK:E_:=19
abbrev F.sZ:E_:=22
abbrev F.bv:E_:=23
abbrev F.d:E_:=24
abbrev F.c:E_:=25
abbrev F.l:E_:=26
abbrev F.q:E_:=27
abbrev F.cU:E_:=28
abbrev F.bJ:E_:=29
abbrev F.kW:E_:=30
abbrev F.mK:E_:=32
abbrev F.f:E_:=33
abbrev F.b:E_:=34
abbrev F.K9:E_:=35
abbrev F.Lc:E_:=36
abbrev F.Lb:E_:=37
abbrev F.KH:E_:=38
abbrev F.KB:E_:=39
abbrev F.La:E_:=40
abbrev F.Lh:E_:=41
abbrev F.KA:E_:=42
abbrev F.Lf:E_:=43
abbrev F.Le:E_:=44
abbrev F.KT:E_:=46
abbrev F.KO:E_:=47
abbrev F.KQ:E_:=48
abbrev F.KM:E_:=49
abbrev F.KR:E_:=50
abbrev F.KV:E_:=52
abbrev F.jI:E_:=55
abbrev F.as:E_:=56
abbrev F.s0:E_:=57
abbrev F.vG:E_:=58
abbrev F.ci:E_:=59
abbrev F.p8:E_:=60
abbrev F.Ht:E_:=61
abbrev F.Hu:E_:=62
abbrev F.cl:E_:=63
abbrev F.xM:E_:=64
abbrev F.oM:E_:=65
abbrev F.r:E_:=66
abbrev F.xN:E_:=67
abbrev F.s:E_:=68
abbrev F.xO:E_:=69
abbrev F.n1:E_:=70
abbrev F.h:E_:=71
abbrev F.m:E_:=72
abbrev F.DR:E_:=73
abbrev F.co:E_:=74
abbrev F.DS:E_:=75
abbrev F.x1:E_:=80
abbrev F.gd:E_:=81
abbrev F.K6:E_:=82
abbrev F.KJ:E_:=83
abbrev F.Kg:E_:=84
abbrev F.KX:E_:=85
abbrev F.Ld:E_:=86
abbrev F.Li:E_:=87
abbrev F.KS:E_:=88
abbrev F.Kw:E_:=89
abbrev F.Kx:E_:=90
abbrev F.KP:E_:=91
abbrev F.KN:E_:=92
abbrev F.Kv:E_:=93
abbrev F.KG:E_:=94
abbrev F.KI:E_:=95
abbrev F.Ku:E_:=96
abbrev F.KL:E_:=97
abbrev F.Kc:E_:=98
abbrev F.Kh:E_:=99
abbrev F.KZ:E_:=100
abbrev F.K0:E_:=101
abbrev F.HF:E_:=102
abbrev F.a:E_:=103
abbrev F.HG:E_:=104
abbrev F.i:E_:=105
abbrev F.HH:E_:=106
abbrev F.HI:E_:=107
abbrev F.HJ:E_:=108
abbrev F.HK:E_:=109
abbrev F.HL:E_:=110
abbrev F.HN:E_:=111
abbrev F.HO:E_:=112
abbrev F.t:E_:=113
abbrev F.dl:E_:=114
abbrev F.BO:E_:=115
abbrev F.u:E_:=116
abbrev F.HP:E_:=117
abbrev F.a0:E_:=118
abbrev F.v:E_:=119
abbrev F.HQ:E_:=120
abbrev F.HR:E_:=121
abbrev F.HS:E_:=122
abbrev F.HT:E_:=123
abbrev F.ds:E_:=124
abbrev F.HV:E_:=125
abbrev F.HW:E_:=126
abbrev F.HX:E_:=127
abbrev F.HY:E_:=128
abbrev F.zn:E_:=129
abbrev F.cZ:E_:=130
abbrev F.j:E_:=131
abbrev F.zo:E_:=132
abbrev F.HZ:E_:=133
abbrev F.d0:E_:=134
abbrev F.n:E_:=135
abbrev F.d1:E_:=136
abbrev F.ID:E_:=142
abbrev F.Ki:E_:=143
abbrev F.Ks:E_:=144
abbrev F.Kn:E_:=145
abbrev F.Km:E_:=146
abbrev F.KY:E_:=147
abbrev F.K3:E_:=148
abbrev F.Lg:E_:=149
abbrev F.K2:E_:=150
abbrev F.Kt:E_:=151
abbrev F.KU:E_:=152
abbrev F.Ky:E_:=153
abbrev F.FE:E_:=154
abbrev F.FF:E_:=155
abbrev F.Kz:E_:=156
abbrev F.Kd:E_:=157
abbrev F.Ko:E_:=158
abbrev F.Kp:E_:=159
abbrev F.Kr:E_:=160
abbrev F.a4:E_:=161
abbrev F.a5:E_:=162
abbrev F.nh:E_:=163
abbrev F.w:E_:=164
abbrev F.x:E_:=165
abbrev F.H2:E_:=166
abbrev F.r4:E_:=167
abbrev F.qc:E_:=168
abbrev F.rV:E_:=169
abbrev F.rW:E_:=170
abbrev F.el:E_:=171
abbrev F.em:E_:=172
abbrev F.gZ:E_:=173
abbrev F.H4:E_:=174
abbrev F.OQ:E_:=175
abbrev F.a9:E_:=176
abbrev F.H5:E_:=177
abbrev F.gD:E_:=178
abbrev F.gX:E_:=179
abbrev F.y:E_:=180
abbrev F.eq:E_:=181
abbrev F.qd:E_:=182
abbrev F.es:E_:=183
abbrev F.px:E_:=184
abbrev F.H8:E_:=185
abbrev F.bn:E_:=186
abbrev F.H9:E_:=187
abbrev F.Bj:E_:=188
abbrev F.z:E_:=189
abbrev F.ex:E_:=190
abbrev F.Yb:E_:=191
abbrev F.Yc:E_:=192
abbrev F.gs:E_:=193
abbrev F.gt:E_:=194
abbrev F.ae:E_:=195
abbrev F.BH:E_:=196
abbrev F.vS:E_:=197
abbrev F.dS:E_:=198
abbrev F.e1:E_:=199
abbrev F.Kl:E_:=207
abbrev F.Kj:E_:=208
abbrev F.J9:E_:=209
abbrev F.J6:E_:=210
abbrev F.J7:E_:=211
abbrev F.K1:E_:=212
abbrev F.K4:E_:=213
abbrev F.K5:E_:=214
abbrev F.KD:E_:=215
abbrev F.KC:E_:=216
abbrev F.Cu:E_:=217
abbrev F.Ah:E_:=218
abbrev F.Ke:E_:=219
abbrev F.Kk:E_:=220
abbrev F.FD:E_:=221
abbrev F.Kf:E_:=222
abbrev F.OR:E_:=223
abbrev F.be:E_:=224
abbrev F.Ic:E_:=225
abbrev F.Ie:E_:=226
abbrev F.Ig:E_:=227
abbrev F.Ih:E_:=228
abbrev F.IE:E_:=229
abbrev F.D7:E_:=230
abbrev F.IF:E_:=231
abbrev F.IG:E_:=232
abbrev F.Ik:E_:=233
abbrev F.vV:E_:=234
abbrev F.Il:E_:=235
abbrev F.Im:E_:=236
abbrev F.p7:E_:=237
abbrev F.fn:E_:=238
abbrev F.Io:E_:=239
abbrev F.Ip:E_:=240
abbrev F.D8:E_:=243
abbrev F.Ir:E_:=246
abbrev F.hC:E_:=247
abbrev F.Ka:E_:=249
abbrev F.KE:E_:=250
abbrev F.KF:E_:=251
abbrev F.Kq:E_:=252
abbrev F.uB:E_:=253
abbrev F.Iv:E_:=254
abbrev F.Iw:E_:=255
abbrev F.Bk:E_:=256
abbrev F.Bl:E_:=257
abbrev F.Ix:E_:=258
abbrev F.go:E_:=259
abbrev F.ac:E_:=260
abbrev F.Iy:E_:=261
abbrev F.ni:E_:=262
abbrev F.rX:E_:=263
abbrev F.sU:E_:=264
abbrev F.e:E_:=265
abbrev F.sV:E_:=266
abbrev F.pr:E_:=267
abbrev F.h7:E_:=268
abbrev F.qX:E_:=269
abbrev F.sX:E_:=270
abbrev F.mJ:E_:=271
abbrev F.f0:E_:=272
abbrev F.Bm:E_:=273
abbrev F.f1:E_:=274
abbrev F.f2:E_:=275
abbrev F.f3:E_:=288
abbrev F.f4:E_:=289
abbrev F.f5:E_:=290
abbrev F.Kb:E_:=291
abbrev F.f7:E_:=292
abbrev F.bi:E_:=293
abbrev F.Bn:E_:=294
abbrev F.k:E_:=295
abbrev F.f8:E_:=296
abbrev F.f9:E_:=311
abbrev F.DI:E_:=335
abbrev F.Iz:E_:=336
abbrev F.pv:E_:=337
abbrev F.cH:E_:=338
abbrev F.DK:E_:=339
abbrev F.IA:E_:=340
abbrev F.gc:E_:=341
abbrev F.IB:E_:=342
abbrev F.ge:E_:=343
abbrev F.iW:E_:=344
abbrev F.am:E_:=345
abbrev F.vC:E_:=346
abbrev F.IC:E_:=347
abbrev G.anI:Nat:=0
theorem _root_.Cq{A:Prop}(h:A:=by kernel_rfl):A:=h
theorem lz:Tryz.prog.follows .mixedOrders=true:=Cq
theorem vr{f:E_}{L:mG}{args:C_ B_}{R:B_->A_->Prop}{w:A_}(ai:lq Tryz.prog f=some L)(h:eQ Tryz.prog L.code (tg L.res R ⟨⟩) (iE args 0) w ⟨⟩)(aU:args.length<=L.n:=by exact Nat.le_of_ble_eq_true rfl):aW Tryz.prog f args.toArray w R:=_h lz ai aU h
theorem Be{c d:eR}(h:∀X:eR->Prop,X d->X c:=by
 intro X q
 conv=>arg 1;whnf
 try simp only[bd,acP,LI,Rc,WI,OP,X9,DT,Rx,l3,yO,Ln,vf,NJ,GG,aet,NZ,JR,xL,Iu,Ls,OO,q2,RX,Nu,Sr,afz,afy,Tryz.underlying3,Tryz.underlying4,Tryz.underlying9,Tryz.underlying22,Tryz.underlying23,Tryz.underlying24,Tryz.underlying25,Tryz.underlying26,Tryz.underlying28,Tryz.underlying29,Tryz.underlying34,Tryz.underlying36,Tryz.underlying39,Tryz.underlying42,Tryz.underlying43,Tryz.underlying47,Tryz.underlying50,Tryz.underlying55,Tryz.underlying57,Tryz.underlying58,Tryz.underlying60,Tryz.underlying61,Tryz.underlying63,Tryz.underlying65,Tryz.underlying72,Tryz.underlying74,Tryz.underlying76,Tryz.underlying80,Tryz.underlying101,Tryz.underlying111,Tryz.underlying114,Tryz.underlying121,Tryz.underlying126,Tryz.underlying130,Tryz.underlying133,Tryz.underlying140,Tryz.underlying144,Tryz.underlying148,Tryz.underlying151,Tryz.underlying155,Tryz.underlying161,Tryz.underlying165,Tryz.underlying172,Tryz.underlying175,Tryz.underlying179,Tryz.underlying181,Tryz.underlying183,Tryz.underlying186,Tryz.underlying190,Tryz.underlying202,Tryz.underlying204,Tryz.underlying208,Tryz.underlying221,Tryz.underlying238,Tryz.underlying239,Tryz.underlying240,Tryz.underlying242,Tryz.underlying245,Tryz.underlying247,Tryz.underlying252,Tryz.underlying263,Tryz.underlying265,Tryz.underlying268,Tryz.underlying307,Tryz.underlying308,Tryz.underlying309,Tryz.underlying310,Tryz.underlying311,Tryz.underlying324,Tryz.underlying326,Tryz.type0,Tryz.type3,Tryz.type4,Tryz.type9,Tryz.type22,Tryz.type23,Tryz.type24,Tryz.type25,Tryz.type26,Tryz.type28,Tryz.type29,Tryz.type36,Tryz.type39,Tryz.type42,Tryz.type43,Tryz.type47,Tryz.type50,Tryz.type55,Tryz.type57,Tryz.type58,Tryz.type60,Tryz.type61,Tryz.type63,Tryz.type65,Tryz.type72,Tryz.type74,Tryz.type76,Tryz.type80,Tryz.type101,Tryz.type111,Tryz.type121,Tryz.type126,Tryz.type130,Tryz.type133,Tryz.type140,Tryz.type144,Tryz.type151,Tryz.type161,Tryz.type165,Tryz.type172,Tryz.type175,Tryz.type181,Tryz.type183,Tryz.type186,Tryz.type190,Tryz.type202,Tryz.type208,Tryz.type221,Tryz.type238,Tryz.type239,Tryz.type240,Tryz.type242,Tryz.type245,Tryz.type247,Tryz.type252,Tryz.type263,Tryz.type268,Tryz.type307,Tryz.type308,Tryz.type309,Tryz.type310,Tryz.type311,Tryz.type324,Tryz.type326,Tryz.t0,Tryz.t3,Tryz.t4,Tryz.t9,Tryz.t22,Tryz.t23,Tryz.t24,Tryz.t25,Tryz.t26,Tryz.t28,Tryz.t29,Tryz.t36,Tryz.t39,Tryz.t42,Tryz.t43,Tryz.t47,Tryz.t50,Tryz.t55,Tryz.t57,Tryz.t58,Tryz.t60,Tryz.t61,Tryz.t63,Tryz.t65,Tryz.t72,Tryz.t74,Tryz.t76,Tryz.t80,Tryz.t101,Tryz.t111,Tryz.t121,Tryz.t126,Tryz.t130,Tryz.t133,Tryz.t140,Tryz.t144,Tryz.t151,Tryz.t161,Tryz.t165,Tryz.t172,Tryz.t175,Tryz.t181,Tryz.t183,Tryz.t186,Tryz.t190,Tryz.t202,Tryz.t208,Tryz.t221,Tryz.t238,Tryz.t239,Tryz.t240,Tryz.t242,Tryz.t245,Tryz.t247,Tryz.t252,Tryz.t263,Tryz.t268,Tryz.t307,Tryz.t308,Tryz.t309,Tryz.t310,Tryz.t311,Tryz.t324,Tryz.t326,Nat.reduceEqDiff,reduceIte]
 try dsimp only[aM,ct,kR,cD,pc,dC,h4,hp,dR,aN,fx,fw,ey,ik,ys,lJ,dD,iw,AK,iR,ki,xk,oF,cG,jY,h3,pV,Mv,C4,nL,vl,vk,rL,lI,xj,List.map_cons,List.map_nil]
 exact q):c=d:=h (· = d) rfl
theorem bl{f:E_}{n:Nat}{r:C_ mH}{c d:eR}{args:C_ B_}{R:B_->A_->Prop}{w:A_}(ai:lq Tryz.prog f=some ⟨n,r,c⟩)(h:eQ Tryz.prog d (tg r R ⟨⟩) (iE args 0) w ⟨⟩)(e:c=d:=by exact Be)(aU:args.length<=n:=by exact Nat.le_of_ble_eq_true rfl):aW Tryz.prog f args.toArray w R:=_h lz (ai.trans (congrArg (fun c=>some (⟨n,r,c⟩:mG)) e)) aU h
abbrev bb(f:E_)(c:mG):Prop:=lq Tryz.prog f=some c
theorem bc{f:E_}{c:mG}(h:lq Tryz.prog f=some c:=by kernel_rfl):bb f c:=h
theorem E.FJ:bb F.FJ ⟨96,[.tmp 4],bd Tryz.prog [] (bj Tryz.f6)⟩:=bc
theorem E.Hm:bb F.Hm ⟨83,[.tmp 4],bd Tryz.prog [(3,.s (.t 0 (.t 2 (.t 4 (.a 1 (.a 3 (.f 5 (.t 6 (.a 7 (.a 8 (.f 9 (.f 10 (.t 11 .d) .n) .n) .n) (.a 8 (.a 7 (.f 9 (.f 10 (.t 11 .d) .n) .n) .n) .n))) (.a 7 (.f 5 (.t 6 (.a 8 (.f 9 (.f 10 (.t 11 .d) .n) .n) .n)) (.a 8 (.f 5 (.t 6 (.f 9 (.f 10 (.t 11 .d) .n) .n)) .n) .n)) (.a 8 (.f 5 (.t 6 (.a 7 (.f 9 (.f 10 (.t 11 .d) .n) .n) .n)) (.a 7 (.f 5 (.t 6 (.f 9 (.f 10 (.t 11 .d) .n) .n)) .n) .n)) .n))) (.a 7 (.a 3 (.f 5 (.t 6 (.a 8 (.f 9 (.f 10 (.t 11 .d) .n) .n) .n)) (.a 8 (.f 5 (.t 6 (.f 9 (.f 10 (.t 11 .d) .n) .n)) .n) .n)) (.a 8 (.a 3 (.f 5 (.t 6 (.f 9 (.f 10 (.t 11 .d) .n) .n)) .n) .n) .n)) (.a 8 (.a 3 (.f 5 (.t 6 (.a 7 (.f 9 (.f 10 (.t 11 .d) .n) .n) .n)) (.a 7 (.f 5 (.t 6 (.f 9 (.f 10 (.t 11 .d) .n) .n)) .n) .n)) (.a 7 (.a 3 (.f 5 (.t 6 (.f 9 (.f 10 (.t 11 .d) .n) .n)) .n) .n) .n)) .n))) (.a 7 (.a 1 (.a 3 (.f 5 (.t 6 (.a 8 (.f 9 (.f 10 (.t 11 .d) .n) .n) .n)) (.a 8 (.f 5 (.t 6 (.f 9 (.f 10 (.t 11 .d) .n) .n)) .n) .n)) (.a 8 (.a 3 (.f 5 (.t 6 (.f 9 (.f 10 (.t 11 .d) .n) .n)) .n) .n) .n)) (.a 8 (.a 1 (.a 3 (.f 5 (.t 6 (.f 9 (.f 10 (.t 11 .d) .n) .n)) .n) .n) .n) .n)) (.a 8 (.a 1 (.a 3 (.f 5 (.t 6 (.a 7 (.f 9 (.f 10 (.t 11 .d) .n) .n) .n)) (.a 7 (.f 5 (.t 6 (.f 9 (.f 10 (.t 11 .d) .n) .n)) .n) .n)) (.a 7 (.a 3 (.f 5 (.t 6 (.f 9 (.f 10 (.t 11 .d) .n) .n)) .n) .n) .n)) (.a 7 (.a 1 (.a 3 (.f 5 (.t 6 (.f 9 (.f 10 (.t 11 .d) .n) .n)) .n) .n) .n) .n)) .n)))))))] (bj Tryz.f8)⟩:=bc
theorem E.FK:bb F.FK ⟨48,[.tmp 0],bd Tryz.prog [] (bj Tryz.f10)⟩:=bc
theorem E.nX:bb F.nX ⟨22,[.tmp 4],bd Tryz.prog [] (bj Tryz.f12)⟩:=bc
theorem E.K8:bb F.K8 ⟨23,[.tmp 4],bd Tryz.prog [] (bj Tryz.f14)⟩:=bc
theorem E.FG:bb F.FG ⟨37,[.tmp 2],bd Tryz.prog [(7,.w)] (bj Tryz.f15)⟩:=bc
theorem E.J8:bb F.J8 ⟨26,[.tmp 4],bd Tryz.prog [(6,.w)] (bj Tryz.f16)⟩:=bc
theorem E.K7:bb F.K7 ⟨81,[.tmp 8,.tmp 9],bd Tryz.prog [(2,.s (.t 0 (.t 1 (.t 2 (.t 3 (.t 4 (.a 5 (.t 6 (.t 7 (.t 8 (.t 9 (.t 10 (.t 11 (.t 12 (.t 13 (.t 14 (.t 15 (.t 16 (.t 17 (.t 18 (.t 19 (.t 20 (.t 21 (.t 22 (.t 23 (.t 24 (.t 25 (.t 26 (.t 28 (.t 29 (.a 27 (.f 30 (.t 31 (.t 32 .d)) .n) .n)))))))))))))))))))))))) .n))))))),(9,.s (.t 0 (.t 1 (.t 2 (.t 3 (.t 4 (.t 5 (.a 6 (.f 7 (.t 8 .d) .n) .n))))))))] (bj Tryz.f17)⟩:=bc
theorem E.KK:bb F.KK ⟨63,[.jm 4 2],bd Tryz.prog [] (bj Tryz.f19)⟩:=bc
theorem E.bv:bb F.bv ⟨15,[.tmp 4],bd Tryz.prog [] (bj Tryz.f23)⟩:=bc
theorem E.c:bb F.c ⟨6,[.tmp 2],bd Tryz.prog [] (bj Tryz.f25)⟩:=bc
theorem E.l:bb F.l ⟨15,[.jm 6 2],bd Tryz.prog [] (bj Tryz.f26)⟩:=bc
theorem E.q:bb F.q ⟨28,[.tmp 5],bd Tryz.prog [(1,.w)] (bj Tryz.f27)⟩:=bc
theorem E.bJ:bb F.bJ ⟨50,[.tmp 4],bd Tryz.prog [(6,.s (.t 0 (.t 1 (.t 3 (.t 4 (.t 5 (.t 6 (.a 2 (.f 7 (.a 8 (.f 9 .d .n) .n) (.a 8 (.f 7 (.f 9 .d .n) .n) .n)) (.a 8 (.a 2 (.f 7 (.f 9 .d .n) .n) .n) .n)))))))))] (bj Tryz.f29)⟩:=bc
theorem E.kW:bb F.kW ⟨29,[.tmp 6],bd Tryz.prog [] (bj Tryz.f30)⟩:=bc
theorem E.mK:bb F.mK ⟨18,[.tmp 4],bd Tryz.prog [] (bj Tryz.f32)⟩:=bc
theorem E.b:bb F.b ⟨18,[.tmp 4],bd Tryz.prog [(1,.w)] (bj Tryz.f34)⟩:=bc
theorem E.K9:bb F.K9 ⟨13,[.jm 13 2,.tmp 3],bd Tryz.prog [(3,.s (.t 0 (.t 1 (.a 2 (.f 3 (.f 4 (.t 5 .d) .n) .n) .n))))] (bj Tryz.f35)⟩:=bc
theorem E.Lc:bb F.Lc ⟨11,[.tmp 4],bd Tryz.prog [] (bj Tryz.f36)⟩:=bc
theorem E.Lb:bb F.Lb ⟨72,[.tmp 4],bd Tryz.prog [(8,.s (.t 0 (.t 1 (.t 3 (.t 4 (.t 5 (.a 2 (.f 6 (.t 7 .d) .n) .n))))))),(10,.s (.t 0 (.t 1 (.t 2 (.t 3 (.t 4 (.t 5 (.t 6 (.t 7 (.a 8 (.f 9 (.t 10 (.f 11 (.f 12 (.t 13 .d) .n) .n)) .n) .n))))))))))] (bj Tryz.f37)⟩:=bc
theorem E.KH:bb F.KH ⟨43,[.tmp 2],bd Tryz.prog [(8,.w)] (bj Tryz.f38)⟩:=bc
theorem E.KB:bb F.KB ⟨31,[.tmp 4],bd Tryz.prog [] (bj Tryz.f39)⟩:=bc
theorem E.La:bb F.La ⟨28,[.jm 6 4],bd Tryz.prog [(2,.s (.t 0 (.t 1 (.t 2 (.t 3 (.t 4 (.t 5 (.t 6 (.t 7 (.t 8 (.t 9 (.t 10 (.t 11 (.t 12 (.t 13 (.t 14 (.t 15 (.t 16 (.f 17 .d .n)))))))))))))))))))] (bj Tryz.f40)⟩:=bc
theorem E.Lh:bb F.Lh ⟨96,[.tmp 6,.tmp 7],bd Tryz.prog [(3,.w),(6,.s (.t 0 (.t 1 (.t 2 (.t 3 (.t 4 (.t 5 (.t 6 (.t 7 (.t 8 (.a 9 (.f 10 (.t 11 (.t 12 (.t 13 (.t 14 (.t 15 .d))))) .n) .n))))))))))),(13,.s (.t 0 (.t 1 (.t 2 (.t 3 (.t 4 (.t 5 (.t 6 (.t 7 (.t 8 (.f 9 (.t 10 (.t 11 (.t 12 (.t 13 (.t 14 .d))))) .n))))))))))),(17,.s (.t 0 (.t 1 (.t 2 (.t 3 (.t 4 (.t 5 (.t 6 (.t 7 (.t 8 (.t 9 (.f 10 (.t 11 (.t 12 .d)) .n))))))))))))] (bj Tryz.f41)⟩:=bc
theorem E.KA:bb F.KA ⟨40,[.tmp 2,.tmp 3],bd Tryz.prog [(5,.w)] (bj Tryz.f42)⟩:=bc
theorem E.Lf:bb F.Lf ⟨30,[.tmp 8],bd Tryz.prog [(2,.s (.t 1 (.t 2 (.t 3 (.t 5 (.t 7 (.t 8 (.t 9 (.t 10 (.t 11 (.t 12 (.f 0 (.f 4 (.f 6 (.f 13 (.t 14 .d) .n) .n) .n) .n))))))))))))] (bj Tryz.f43)⟩:=bc
theorem E.Le:bb F.Le ⟨27,[.tmp 6],bd Tryz.prog [] (bj Tryz.f44)⟩:=bc
theorem E.KT:bb F.KT ⟨99,[.jm 6 2],bd Tryz.prog [(12,.s (.t 0 (.t 1 (.t 2 (.t 3 (.t 4 (.t 5 (.t 6 (.a 7 (.f 8 (.t 9 (.f 10 .d .n)) .n) .n))))))))),(13,.s (.t 0 (.t 1 (.t 2 (.t 3 (.t 4 (.t 5 (.t 6 (.a 7 (.f 8 (.t 9 (.f 10 .d .n)) .n) .n)))))))))] (bj Tryz.f46)⟩:=bc
theorem E.KO:bb F.KO ⟨93,[.jm 4 2],bd Tryz.prog [(7,.w),(10,.s (.t 0 (.t 1 (.t 3 (.t 4 (.t 5 (.t 6 (.t 7 (.t 8 (.a 2 (.f 9 .d .n) .n)))))))))),(15,.w),(18,.s (.t 0 (.t 1 (.t 3 (.t 4 (.t 5 (.t 6 (.t 7 (.t 8 (.a 2 (.f 9 .d .n) .n))))))))))] (bj Tryz.f47)⟩:=bc
theorem E.KQ:bb F.KQ ⟨66,[.jm 4 4],bd Tryz.prog [(4,.s (.t 0 (.t 1 (.t 2 (.a 3 (.f 4 (.t 5 (.t 6 (.t 7 (.t 8 (.t 9 (.t 10 (.t 11 .d))))))) .n) .n))))),(7,.s (.t 0 (.t 1 (.t 3 (.t 4 (.a 2 (.f 5 .d .n) .n)))))),(12,.s (.t 0 (.t 2 (.t 3 (.t 4 (.t 5 (.t 6 (.t 7 (.a 1 (.f 8 .d .n) .n)))))))))] (bj Tryz.f48)⟩:=bc
theorem E.KM:bb F.KM ⟨90,[.tmp 2,.tmp 3,.tmp 4],bd Tryz.prog [(5,.w),(9,.c (.dm [aN 36 7,ki .add T.a 37 36 1,fw 38 2 1,ey 39 38,aN 40 9,ik 41 6 39 40,fw 42 2 41,ey 43 42,cD 44 (.wT (aM 43) (ct 0)),cD 45 (.yA (aM 44) (ct 4)),iR .add T.a 46 37 45,aN 7 46])),(13,.w)] (bj Tryz.f49)⟩:=bc
theorem E.KR:bb F.KR ⟨45,[.tmp 4],bd Tryz.prog [(6,.s (.t 0 (.t 1 (.t 3 (.t 4 (.a 2 (.f 5 .d .n) .n))))))] (bj Tryz.f50)⟩:=bc
theorem E.KV:bb F.KV ⟨45,[.tmp 6],bd Tryz.prog [(7,.w)] (bj Tryz.f52)⟩:=bc
noncomputable def C.jI:mG:=⟨88,[],bd Tryz.prog [(2,.c (.fC [aN 18 5,aN 19 4] (some 20) F.a [(aM 18),(ct 1),(aM 19),(ct 0)])),(6,.c (.dm [aN 28 1,fw 29 0 7,ey 30 29,hp (.kd .string (aM 28) (aM 30) (kR true))])),(13,.c (.fC [aN 51 5,aN 52 8] (some 53) F.a [(aM 51),(ct 2),(aM 52),(ct 0)])),(14,.c (.fC [aN 54 1,fw 55 0 9,ey 56 55,aN 57 8] (some 58) F.i [(aM 54),(aM 56),(ct 2),(aM 57)])),(21,.c (.fC [aN 79 5,aN 80 10] (some 81) F.a [(aM 79),(ct 3),(aM 80),(ct 0)])),(22,.c (.fC [aN 82 1,fw 83 0 11,ey 84 83,aN 85 10] (some 86) F.i [(aM 82),(aM 84),(ct 3),(aM 85)]))] (bj Tryz.f55)⟩
theorem E.jI:lq Tryz.prog F.jI=some C.jI:=Cq
noncomputable def C.as:mG:=⟨105,[],bd Tryz.prog [(1,.c (.dm [dC 18 .u3,aN 4 18])),(2,.c (.dm [aN 19 1,dC 20 (.raw (.range T.nh (aM 19)) T.z)])),(3,.c (.dm [dC 21 (.raw (.next (aM 20) false) T.z),cD 22 (.ext (aM 21) 0)])),(4,.c (.dm [dC 23 (.raw (.entry (aM 20)) T.z),cD 24 (.ext (aM 23) 0),aN 5 24])),(5,.c (.dm [aN 25 4,aN 26 5,hp (.kd .string (aM 25) (aM 26) (kR true))])),(9,.c (.dm [aN 34 4,fw 35 0 7,ey 36 35,hp (.kd .string (aM 34) (aM 36) (kR true))])),(15,.c (.fC [aN 48 8] (some 49) F.a [(ct 11),(ct 4),(aM 48),(ct 0)])),(16,.s (.t 0 (.t 1 (.t 2 (.a 3 (.f 4 (.t 5 (.t 6 (.t 7 (.t 8 (.t 9 (.t 10 (.t 11 .d))))))) .n) .n))))),(17,.c (.fC [aN 59 12,aN 60 8,aN 61 10,cD 62 (.bin .mul T.a (ct 16) (aM 61)),aN 63 11,iR .add T.a 64 62 63] (some 65) F.a [(aM 59),(ct 4),(aM 60),(aM 64)])),(18,.c (.fC [aN 66 1,fw 67 0 9,ey 68 67,aN 69 8] (some 70) F.i [(aM 66),(aM 68),(ct 4),(aM 69)])),(22,.c (.dm [aN 79 4,fw 80 0 14,ey 81 80,pc 82 (.ot .string (.bool false) false (aM 79) (aM 81))])),(23,.c (.fC [aN 83 8,aN 84 13,cD 85 (.bin .add T.a (ct 16) (aM 84))] (some 86) F.a [(ct 7),(ct 4),(aM 83),(aM 85)])),(28,.c (.fC [fw 101 3 2,ey 102 101,lJ 103 102] (some 104) F.a [(ct 11),(ct 4),(aM 103),(ct 0)]))] (bj Tryz.f56)⟩
theorem E.as:lq Tryz.prog F.as=some C.as:=Cq
noncomputable def C.s0:mG:=⟨51,[],bd Tryz.prog [(6,.c (.fC [aN 22 5] (some 23) F.a [(ct 11),(ct 5),(aM 22),(ct 0)])),(8,.c (.fC [aN 29 5] (some 30) F.a [(ct 6),(ct 5),(aM 29),(ct 0)])),(9,.c (.fC [aN 31 1,fw 32 0 6,ey 33 32,aN 34 5] (some 35) F.i [(aM 31),(aM 33),(ct 5),(aM 34)])),(11,.c (.fC [aN 43 8,aN 44 5] (some 45) F.a [(aM 43),(ct 5),(aM 44),(ct 0)])),(13,.c (.fC [aN 48 5] (some 49) F.a [(ct 9),(ct 5),(aM 48),(ct 0)]))] (bj Tryz.f57)⟩
theorem E.s0:lq Tryz.prog F.s0=some C.s0:=Cq
theorem E.vG:bb F.vG ⟨14,[.tmp 2],bd Tryz.prog [(3,.s (.t 0 (.t 2 (.t 3 (.a 1 (.a 4 (.t 5 (.f 6 (.t 7 .d) .n)) .n) .n)))))] (bj Tryz.f58)⟩:=bc
theorem E.ci:bb F.ci ⟨61,[.tmp 4],bd Tryz.prog [] (bj Tryz.f59)⟩:=bc
theorem E.p8:bb F.p8 ⟨4,[.tmp 2],bd Tryz.prog [] (bj Tryz.f60)⟩:=bc
theorem E.Hu:bb F.Hu ⟨7,[.tmp 2],bd Tryz.prog [] (bj Tryz.f62)⟩:=bc
theorem E.cl:bb F.cl ⟨142,[.jm 6 2,.tmp 3],bd Tryz.prog [(12,.s (.w (.t 0 (.t 1 (.t 2 (.t 3 (.t 4 (.a 5 (.a 6 (.f 7 (.t 8 (.f 9 .d .n)) .n) .n) .n)))))))),(18,.c (.dm [fw 65 1 11,ey 66 65,fw 67 3 11,ey 68 67,cD 69 (.yA (aM 68) (ct 0)),fw 70 4 11,ey 71 70,cD 72 (.wT (aM 71) (ct 0)),cD 73 (.gM [AK,dD,dD,dD,dD,dD] [(0,1),(1,1),(2,1),(3,1),(4,1),(5,1)] [(1,(aM 66)),(3,(aM 69)),(4,(aM 72))]),fw 74 0 1,ey 75 74,h4 76 (.fn F.a0 [(aM 73),(aM 75)]),dC 13 (.new T.i (.agg #[dD,dD,dD])),hp (.l3 3 (aM 13) (aM 76))])),(23,.s (.w (.t 0 (.t 1 (.t 2 (.t 3 (.t 4 (.a 5 (.a 6 (.f 7 (.t 8 (.f 9 .d .n)) .n) .n) .n)))))))),(35,.s (.w (.t 0 (.t 1 (.t 2 (.t 3 (.t 4 (.a 5 (.a 6 (.f 7 (.t 8 (.f 9 .d .n)) .n) .n) .n)))))))),(37,.s (.f 0 (.f 1 (.f 2 (.t 3 .d) .n) (.f 2 (.f 1 (.t 3 .d) .n) .n)) (.f 1 (.f 0 (.f 2 (.t 3 .d) .n) .n) .n)))] (bj Tryz.f63)⟩:=bc
theorem E.xM:bb F.xM ⟨27,[.tmp 2],bd Tryz.prog [] (bj Tryz.f64)⟩:=bc
theorem E.oM:bb F.oM ⟨8,[.tmp 6],bd Tryz.prog [] (bj Tryz.f65)⟩:=bc
theorem E.r:bb F.r ⟨8,[.tmp 3],bd Tryz.prog [] (bj Tryz.f66)⟩:=bc
theorem E.xN:bb F.xN ⟨24,[.tmp 4],bd Tryz.prog [] (bj Tryz.f67)⟩:=bc
theorem E.s:bb F.s ⟨22,[.jm 6 6],bd Tryz.prog [(1,.s (.t 0 (.t 1 (.t 2 (.t 3 (.t 4 (.t 5 (.t 6 (.t 7 (.t 8 (.t 9 (.t 10 (.t 11 (.t 12 (.t 13 (.t 14 (.f 15 .d .n)))))))))))))))))] (bj Tryz.f68)⟩:=bc
theorem E.xO:bb F.xO ⟨57,[.tmp 4,.tmp 5],bd Tryz.prog [(4,.c (.dm [dC 22 .u3,dC 23 .u3,aN 9 22,aN 10 23]))] (bj Tryz.f69)⟩:=bc
theorem E.n1:bb F.n1 ⟨45,[.tmp 2],bd Tryz.prog [(3,.s (.t 0 (.t 2 (.a 1 (.f 3 (.a 4 (.f 5 (.t 6 .d) .n) .n) (.a 4 (.f 3 (.f 5 (.t 6 .d) .n) .n) .n)) (.a 4 (.a 1 (.f 3 (.f 5 (.t 6 .d) .n) .n) .n) .n)))))] (bj Tryz.f70)⟩:=bc
theorem E.m:bb F.m ⟨8,[.tmp 3],bd Tryz.prog [] (bj Tryz.f72)⟩:=bc
theorem E.DR:bb F.DR ⟨20,[.tmp 4,.tmp 5],bd Tryz.prog [] (bj Tryz.f73)⟩:=bc
theorem E.co:bb F.co ⟨16,[.tmp 4],bd Tryz.prog [] (bj Tryz.f74)⟩:=bc
theorem E.DS:bb F.DS ⟨40,[.tmp 6],bd Tryz.prog [(5,.s (.t 0 (.t 1 (.t 3 (.t 4 (.t 5 (.t 6 (.t 7 (.a 2 (.f 8 (.t 9 .d) .n) .n)))))))))] (bj Tryz.f75)⟩:=bc
theorem E.x1:bb F.x1 ⟨46,[.tmp 4],bd Tryz.prog [] (bj Tryz.f80)⟩:=bc
theorem E.K6:bb F.K6 ⟨12,[.jm 13 4],bd Tryz.prog [(1,.s (.t 0 (.t 1 (.t 2 (.t 4 (.a 3 (.a 5 (.t 6 (.f 7 .d .n)) .n) .n))))))] (bj Tryz.f82)⟩:=bc
theorem E.KJ:bb F.KJ ⟨32,[.tmp 4],bd Tryz.prog [] (bj Tryz.f83)⟩:=bc
theorem E.Kg:bb F.Kg ⟨107,[.tmp 4,.tmp 5],bd Tryz.prog [(18,.w),(20,.w),(22,.w)] (bj Tryz.f84)⟩:=bc
theorem E.KX:bb F.KX ⟨129,[.jm 5 8],bd Tryz.prog [(6,.w),(7,.s (.t 0 (.t 1 (.t 3 (.t 4 (.t 5 (.t 6 (.t 7 (.t 8 (.t 9 (.t 10 (.t 11 (.t 12 (.t 13 (.t 14 (.t 15 (.t 16 (.a 2 (.a 17 (.a 18 (.f 19 (.t 20 (.f 21 .d .n)) .n) .n) .n) .n)))))))))))))))))),(11,.s (.t 0 (.t 1 (.t 2 (.t 3 (.t 4 (.t 5 (.t 6 (.t 7 (.t 8 (.t 9 (.a 10 (.f 11 (.t 12 (.f 13 .d .n)) .n) .n)))))))))))),(15,.s (.t 0 (.t 1 (.t 2 (.t 3 (.t 4 (.t 5 (.a 6 (.a 7 (.f 8 (.t 9 (.f 10 .d .n)) .n) .n) .n)))))))),(18,.w),(19,.s (.t 0 (.t 1 (.t 2 (.t 3 (.t 4 (.t 5 (.t 6 (.t 7 (.f 8 (.t 9 (.f 10 .d .n)) .n))))))))))] (bj Tryz.f85)⟩:=bc
theorem E.Ld:bb F.Ld ⟨201,[.tmp 8,.tmp 9],bd Tryz.prog [(5,.s (.t 0 (.t 1 (.t 2 (.t 3 (.t 4 (.t 5 (.t 7 (.t 8 (.t 9 (.t 10 (.t 11 (.t 12 (.t 13 (.t 14 (.t 15 (.t 16 (.t 17 (.a 6 (.f 18 (.t 19 (.t 20 (.t 21 (.t 22 .d)))) .n) .n))))))))))))))))))),(12,.s (.t 0 (.t 1 (.t 2 (.t 3 (.t 4 (.t 5 (.t 6 (.t 7 (.t 8 (.t 9 (.f 10 (.t 11 (.t 12 (.t 13 (.t 14 .d)))) .n)))))))))))),(17,.s (.t 0 (.t 1 (.t 2 (.t 3 (.t 4 (.t 5 (.t 6 (.t 7 (.t 8 (.t 9 (.t 10 (.t 11 (.t 12 (.f 13 (.t 14 (.t 15 (.t 16 (.t 17 .d)))) .n))))))))))))))),(19,.s (.t 0 (.t 1 (.t 2 (.t 3 (.t 4 (.t 5 (.t 6 (.t 7 (.t 8 (.t 9 (.t 10 (.t 11 (.t 12 (.f 13 (.t 14 (.t 15 (.t 16 (.t 17 .d)))) .n))))))))))))))),(21,.w),(23,.w)] (bj Tryz.f86)⟩:=bc
theorem E.Li:bb F.Li ⟨16,[.tmp 6],bd Tryz.prog [] (bj Tryz.f87)⟩:=bc
theorem E.KS:bb F.KS ⟨177,[.tmp 2],bd Tryz.prog [(5,.w),(7,.w),(15,.c (.r3 [fw 83 3 9,ey 84 83,cD 85 (.yA (ct 0) (aM 84)),fw 86 4 9,ey 87 86,cD 88 (.wT (ct 0) (aM 87)),aN 10 85,aN 11 88])),(17,.w),(26,.s (.t 0 (.t 1 (.t 2 (.t 3 (.t 4 (.t 5 (.t 6 (.t 7 (.t 8 (.a 9 (.f 10 .d .n) .n))))))))))),(31,.w)] (bj Tryz.f88)⟩:=bc
theorem E.Kw:bb F.Kw ⟨55,[.tmp 2,.tmp 3],bd Tryz.prog [(11,.w)] (bj Tryz.f89)⟩:=bc
theorem E.Kx:bb F.Kx ⟨56,[.tmp 6,.tmp 7],bd Tryz.prog [(11,.w)] (bj Tryz.f90)⟩:=bc
theorem E.KP:bb F.KP ⟨18,[.tmp 4],bd Tryz.prog [] (bj Tryz.f91)⟩:=bc
theorem E.KN:bb F.KN ⟨151,[.tmp 6],bd Tryz.prog [] (bj Tryz.f92)⟩:=bc
theorem E.Kv:bb F.Kv ⟨96,[.tmp 4,.tmp 5],bd Tryz.prog [(11,.w),(15,.w)] (bj Tryz.f93)⟩:=bc
theorem E.KG:bb F.KG ⟨148,[.tmp 4,.tmp 5,.tmp 6],bd Tryz.prog [(20,.w),(26,.w),(32,.w)] (bj Tryz.f94)⟩:=bc
theorem E.KI:bb F.KI ⟨42,[.jm 6 4],bd Tryz.prog [] (bj Tryz.f95)⟩:=bc
theorem E.Ku:bb F.Ku ⟨12,[.tmp 4],bd Tryz.prog [] (bj Tryz.f96)⟩:=bc
theorem E.KL:bb F.KL ⟨13,[.tmp 4],bd Tryz.prog [] (bj Tryz.f97)⟩:=bc
theorem E.Kc:bb F.Kc ⟨41,[.tmp 2],bd Tryz.prog [(1,.c (.dm [aN 5 0,cD 6 (.bin .eql T.n (aM 5) (.const AK)),aN 7 6,dR 7 false (aN 8 0),dR 7 false (cD 9 (.pK (aM 8))),dR 7 false (ki .gtr T.a 10 9 16),oF 11 7 10,aN 12 11,dR 12 false (aN 13 0),dR 12 false (cD 14 (.bin .eql T.n (aM 13) (.const (.string ⟨#[115,101,108,102]⟩)))),oF 15 12 14,aN 16 15,dR 16 false (aN 17 0),dR 16 false (cD 18 (.bin .eql T.n (aM 17) (.const (.string ⟨#[110,111,110,101]⟩)))),oF 19 16 18,aN 20 19,dR 20 false (aN 21 0),dR 20 false (cD 22 (.bin .eql T.n (aM 21) (.const (.string ⟨#[108,101,110]⟩)))),oF 23 20 22,aN 24 23,dR 24 false (aN 25 0),dR 24 false (cD 26 (.bin .eql T.n (aM 25) (.const (.string ⟨#[97,116]⟩)))),oF 27 24 26])),(4,.c (.dm [aN 33 4,ki .eql T.a 34 33 1,aN 35 34,dR 35 true (aN 36 3),dR 35 true (aN 37 0),dR 35 true (cD 38 (.pK (aM 37))),dR 35 true (iR .eql T.a 39 36 38),xk 40 35 39,aN 2 40]))] (bj Tryz.f98)⟩:=bc
theorem E.Kh:bb F.Kh ⟨107,[.tmp 4,.tmp 5],bd Tryz.prog [(18,.w),(20,.w),(22,.w)] (bj Tryz.f99)⟩:=bc
theorem E.KZ:bb F.KZ ⟨82,[.tmp 6],bd Tryz.prog [(2,.w)] (bj Tryz.f100)⟩:=bc
theorem E.K0:bb F.K0 ⟨34,[.tmp 4],bd Tryz.prog [(4,.w)] (bj Tryz.f101)⟩:=bc
theorem E.HF:bb F.HF ⟨11,[.tmp 2,.tmp 3],bd Tryz.prog [] (bj Tryz.f102)⟩:=bc
noncomputable def C.a:mG:=⟨17,[],bd Tryz.prog [(1,.c (.tQ [aN 10 0,aN 11 1,aN 12 2,aN 13 3,cD 14 (.gM [dD,dD,dD,dD] [(0,1),(1,1),(2,1),(3,1)] [(0,(aM 10)),(1,(aM 11)),(2,(aM 12)),(3,(aM 13))]),cD 15 (.gM [dD,dD,dD,dD] [(0,4)] [(0,(aM 14))]),cD 16 (.Cv T.pr (aM 15))] (aM 16)))] (bj Tryz.f103)⟩
theorem E.a:lq Tryz.prog F.a=some C.a:=Cq
theorem E.HG:bb F.HG ⟨17,[.tmp 6,.tmp 7],bd Tryz.prog [(1,.c (.dm [ey 8 3,lJ 9 8,aN 10 2,cD 11 (.wT (aM 10) (ct 0)),cD 12 (.wU F.w [] [(aM 3)]),cD 13 (.wU F.x [] [(aM 3),(aM 4)]),h4 14 (.fn F.a4 [(aM 9),(aM 11),(aM 12),(aM 13)]),cD 15 (.ext (aM 14) 0),cD 16 (.ext (aM 14) 1),aN 6 15,aN 7 16]))] (bj Tryz.f104)⟩:=bc
noncomputable def C.i:mG:=⟨16,[],bd Tryz.prog [(0,.c (.dm [aN 8 0,aN 9 1,pc 10 (.ot .string (.bool false) false (aM 8) (aM 9))])),(1,.c (.fC [aN 11 2,aN 12 3] (some 13) F.a [(ct 7),(aM 11),(aM 12),(ct 0)])),(2,.c (.dm [aN 14 0,aN 15 1,hp (.kd .string (aM 14) (aM 15) (kR true))]))] (bj Tryz.f105)⟩
theorem E.i:lq Tryz.prog F.i=some C.i:=Cq
theorem E.HH:bb F.HH ⟨13,[.tmp 4,.tmp 5],bd Tryz.prog [] (bj Tryz.f106)⟩:=bc
theorem E.HI:bb F.HI ⟨64,[.tmp 4,.tmp 5,.tmp 6],bd Tryz.prog [] (bj Tryz.f107)⟩:=bc
theorem E.HJ:bb F.HJ ⟨33,[.jm 6 4],bd Tryz.prog [(3,.s (.t 0 (.t 1 (.t 2 (.t 3 (.t 4 (.t 5 (.f 6 (.f 7 .d .n) .n))))))))] (bj Tryz.f108)⟩:=bc
theorem E.HK:bb F.HK ⟨79,[.tmp 2,.tmp 3,.tmp 4],bd Tryz.prog [(10,.c (.dm [aN 36 7,fw 37 2 11,ey 38 37,cD 39 (.wT (aM 38) (ct 0)),cD 40 (.yA (aM 39) (ct 4)),cD 41 (.bin .add T.a (ct 1) (aM 40)),iR .add T.a 42 36 41,aN 7 42]))] (bj Tryz.f109)⟩:=bc
theorem E.HL:bb F.HL ⟨34,[.tmp 2],bd Tryz.prog [(1,.c (.dm [aN 5 0,cD 6 (.bin .eql T.n (aM 5) (.const AK)),aN 7 6,dR 7 false (aN 8 0),dR 7 false (cD 9 (.pK (aM 8))),dR 7 false (ki .gtr T.a 10 9 16),oF 11 7 10,aN 12 11,dR 12 false (aN 13 0),dR 12 false (cD 14 (.mV (aM 13) (ct 0))),dR 12 false (cD 15 (.Bx .i32 (aM 14))),dR 12 false (h4 16 (.fn F.gD [(aM 15)])),dR 12 false (cD 17 (.un .not (aM 16))),oF 18 12 17,aN 19 18,dR 19 false (aN 20 0),dR 19 false (h4 21 (.fn F.gX [(aM 20),(.func F.y)])),dR 19 false (aN 22 0),dR 19 false (cD 23 (.pK (aM 22))),dR 19 false (iR .lss T.a 24 21 23),oF 25 19 24])),(5,.c (.dm [cD 29 (.Ac 4 (aM 26) (aM 27)),aN 4 29]))] (bj Tryz.f110)⟩:=bc
theorem E.HN:bb F.HN ⟨15,[.tmp 4,.tmp 5],bd Tryz.prog [] (bj Tryz.f111)⟩:=bc
theorem E.HO:bb F.HO ⟨106,[.tmp 6],bd Tryz.prog [(2,.w),(3,.w),(4,.w)] (bj Tryz.f112)⟩:=bc
theorem E.t:bb F.t ⟨39,[],bd Tryz.prog [] (bj Tryz.f113)⟩:=bc
theorem E.dl:bb F.dl ⟨32,[.tmp 4],bd Tryz.prog [] (bj Tryz.f114)⟩:=bc
theorem E.u:bb F.u ⟨50,[.tmp 8],bd Tryz.prog [(5,.s (.w (.t 0 (.t 1 (.t 2 (.t 3 (.t 6 (.t 7 (.t 8 (.t 9 (.a 4 (.a 5 (.t 12 (.a 10 (.f 11 (.f 13 (.t 14 (.f 15 .d .n)) .n) .n) .n)) (.a 10 (.a 5 (.t 12 (.f 11 (.f 13 (.t 14 (.f 15 .d .n)) .n) .n)) .n) .n)) (.a 10 (.a 4 (.a 5 (.t 12 (.f 11 (.f 13 (.t 14 (.f 15 .d .n)) .n) .n)) .n) .n) .n))))))))))))] (bj Tryz.f116)⟩:=bc
theorem E.HP:bb F.HP ⟨18,[.tmp 4],bd Tryz.prog [] (bj Tryz.f117)⟩:=bc
theorem E.a0:bb F.a0 ⟨19,[.jm 3 4],bd Tryz.prog [] (bj Tryz.f118)⟩:=bc
theorem E.v:bb F.v ⟨38,[],bd Tryz.prog [(4,.s (.t 0 (.t 1 (.t 2 (.t 3 (.t 4 (.t 5 (.t 6 (.t 7 (.t 10 (.a 8 (.t 9 (.t 11 (.t 12 (.t 13 (.t 14 (.t 15 (.f 16 (.t 17 (.t 18 .d)) .n))))))) .n)))))))))))] (bj Tryz.f119)⟩:=bc
theorem E.HQ:bb F.HQ ⟨41,[.tmp 4],bd Tryz.prog [(4,.w),(6,.w)] (bj Tryz.f120)⟩:=bc
theorem E.HR:bb F.HR ⟨61,[.tmp 4,.jm 6 5,.tmp 6],bd Tryz.prog [(6,.s (.t 0 (.t 1 (.t 3 (.t 5 (.t 6 (.t 7 (.t 8 (.t 9 (.a 2 (.a 4 (.t 10 (.f 11 (.t 12 .d) .n)) .n) .n)))))))))),(7,.s (.t 0 (.t 1 (.t 2 (.t 3 (.t 4 (.t 5 (.t 6 (.t 7 (.t 8 (.t 9 (.t 10 (.t 11 (.t 12 (.t 13 (.t 14 (.t 15 (.t 16 (.t 17 (.t 18 (.t 19 (.t 20 (.t 21 (.t 22 (.t 23 (.t 24 (.f 25 (.t 26 .d) .n)))))))))))))))))))))))))))] (bj Tryz.f121)⟩:=bc
theorem E.HS:bb F.HS ⟨18,[],bd Tryz.prog [(3,.c (.dm [aN 11 0,aN 12 1,aN 13 6,iR .add T.a 14 12 13,pc 15 (.ot (.int .i64) dD false (aM 11) (aM 14)),ki .add T.a 16 15 1,hp (.kd (.int .i64) (aM 11) (aM 14) (aM 16))]))] (bj Tryz.f122)⟩:=bc
theorem E.HT:bb F.HT ⟨14,[.tmp 2],bd Tryz.prog [(1,.w)] (bj Tryz.f123)⟩:=bc
theorem E.ds:bb F.ds ⟨9,[],bd Tryz.prog [] (bj Tryz.f124)⟩:=bc
theorem E.HV:bb F.HV ⟨40,[],bd Tryz.prog [(5,.s (.t 0 (.t 1 (.t 2 (.t 3 (.t 4 (.t 5 (.t 6 (.t 7 (.t 8 (.t 9 (.f 10 .d .n))))))))))))] (bj Tryz.f125)⟩:=bc
theorem E.HW:bb F.HW ⟨66,[],bd Tryz.prog [(5,.s (.t 0 (.t 1 (.t 2 (.t 3 (.t 4 (.t 5 (.t 6 (.t 7 (.t 8 (.t 9 (.t 10 (.t 11 (.t 12 (.t 13 (.t 14 (.t 15 (.f 16 .d .n)))))))))))))))))),(7,.s (.t 0 (.t 1 (.t 4 (.t 5 (.a 2 (.t 3 (.t 6 (.f 7 .d .n))) .n)))))),(12,.s (.t 0 (.t 1 (.t 4 (.t 5 (.a 2 (.t 3 (.t 6 (.f 7 .d .n))) .n))))))] (bj Tryz.f126)⟩:=bc
theorem E.HX:bb F.HX ⟨6,[.tmp 2],bd Tryz.prog [] (bj Tryz.f127)⟩:=bc
theorem E.HY:bb F.HY ⟨29,[.tmp 2],bd Tryz.prog [] (bj Tryz.f128)⟩:=bc
theorem E.zn:bb F.zn ⟨87,[],bd Tryz.prog [(5,.w)] (bj Tryz.f129)⟩:=bc
theorem E.cZ:bb F.cZ ⟨6,[],bd Tryz.prog [] (bj Tryz.f130)⟩:=bc
theorem E.zo:bb F.zo ⟨17,[.tmp 2,.tmp 3],bd Tryz.prog [(3,.s (.t 0 (.t 1 (.t 3 (.t 5 (.a 2 (.a 4 (.a 6 (.t 7 (.f 8 (.t 9 (.t 10 .d)) .n)) .n) .n) .n))))))] (bj Tryz.f132)⟩:=bc
theorem E.HZ:bb F.HZ ⟨90,[.tmp 6,.tmp 7],bd Tryz.prog [(1,.s (.t 0 (.t 1 (.t 3 (.t 4 (.t 5 (.t 6 (.t 7 (.t 8 (.t 9 (.t 10 (.a 2 (.a 11 (.a 12 (.t 13 .d) .n) .n) (.a 11 (.a 2 (.a 12 (.t 13 .d) .n) .n) .n))))))))))))),(4,.w),(16,.s (.t 0 (.t 1 (.t 2 (.t 3 (.t 4 (.t 5 (.t 6 (.t 7 (.f 8 .d .n))))))))))] (bj Tryz.f133)⟩:=bc
theorem E.d0:bb F.d0 ⟨31,[.tmp 4],bd Tryz.prog [] (bj Tryz.f134)⟩:=bc
theorem E.n:bb F.n ⟨34,[.jm 6 4],bd Tryz.prog [(2,.s (.t 0 (.t 1 (.t 2 (.t 3 (.t 4 (.t 5 (.t 6 (.t 7 (.t 8 (.t 9 (.t 10 (.t 11 (.t 12 (.t 13 (.t 14 (.t 15 (.t 16 (.t 17 (.t 18 (.t 19 (.t 20 (.f 21 .d .n)))))))))))))))))))))))] (bj Tryz.f135)⟩:=bc
theorem E.d1:bb F.d1 ⟨39,[.tmp 8],bd Tryz.prog [(4,.c (.qH (.take (aN 29 11) (.take (aN 30 12) (.take (aN 31 13) (.take (cD 32 (.iO 1 (aM 29) (some (aM 30)) (some (aM 31)) none)) (.take (aN 33 1) (.take (aN 34 12) (.take (aN 35 13) (.take (cD 36 (.iO 1 (aM 33) (some (aM 34)) (some (aM 35)) none)) (.fq (dC 37 (.raw (.call ⟨.builtin .copy,#[(aM 32),(aM 36)],#[T.b,T.b]⟩) T.a)) .done .nil)))))))))))] (bj Tryz.f136)⟩:=bc
theorem E.Ki:bb F.Ki ⟨26,[.tmp 2],bd Tryz.prog [] (bj Tryz.f143)⟩:=bc
theorem E.Ks:bb F.Ks ⟨100,[.tmp 4,.tmp 5],bd Tryz.prog [(21,.w)] (bj Tryz.f144)⟩:=bc
theorem E.Kn:bb F.Kn ⟨61,[.tmp 6,.tmp 7],bd Tryz.prog [] (bj Tryz.f145)⟩:=bc
theorem E.Km:bb F.Km ⟨80,[.tmp 6,.tmp 7],bd Tryz.prog [] (bj Tryz.f146)⟩:=bc
theorem E.KY:bb F.KY ⟨50,[.tmp 8],bd Tryz.prog [] (bj Tryz.f147)⟩:=bc
theorem E.K3:bb F.K3 ⟨19,[.tmp 2,.tmp 3,.tmp 4],bd Tryz.prog [(4,.s (.t 0 (.t 1 (.t 2 (.t 3 (.t 5 (.t 6 (.t 7 (.a 4 (.t 8 (.t 9 (.t 10 .d))) .n)))))))))] (bj Tryz.f148)⟩:=bc
theorem E.Lg:bb F.Lg ⟨32,[.tmp 8,.tmp 9],bd Tryz.prog [] (bj Tryz.f149)⟩:=bc
theorem E.K2:bb F.K2 ⟨29,[.tmp 4,.tmp 5],bd Tryz.prog [] (bj Tryz.f150)⟩:=bc
theorem E.Kt:bb F.Kt ⟨17,[.tmp 4,.tmp 5],bd Tryz.prog [(2,.w)] (bj Tryz.f151)⟩:=bc
theorem E.KU:bb F.KU ⟨7,[.tmp 2],bd Tryz.prog [] (bj Tryz.f152)⟩:=bc
theorem E.Ky:bb F.Ky ⟨69,[.tmp 4],bd Tryz.prog [(5,.w)] (bj Tryz.f153)⟩:=bc
theorem E.FE:bb F.FE ⟨37,[.tmp 4],bd Tryz.prog [] (bj Tryz.f154)⟩:=bc
theorem E.FF:bb F.FF ⟨22,[.tmp 4],bd Tryz.prog [] (bj Tryz.f155)⟩:=bc
theorem E.Kz:bb F.Kz ⟨92,[.tmp 6,.tmp 7],bd Tryz.prog [(15,.w)] (bj Tryz.f156)⟩:=bc
theorem E.Kd:bb F.Kd ⟨99,[.tmp 4,.tmp 5],bd Tryz.prog [(2,.c (.dm [aN 10 0,aN 11 1,cD 12 (.mV (aM 10) (aM 11)),h4 13 (.fn F.Cu [(aM 12)])])),(3,.c (.dm [aN 14 6,aN 15 0,cD 16 (.pK (aM 15)),iR .lss T.a 17 14 16,aN 18 17,dR 18 true (aN 19 0),dR 18 true (aN 20 6),dR 18 true (cD 21 (.mV (aM 19) (aM 20))),dR 18 true (h4 22 (.fn F.Cu [(aM 21)])),dR 18 true (aN 23 22),dR 23 false (aN 24 0),dR 23 false (aN 25 6),dR 23 false (cD 26 (.mV (aM 24) (aM 25))),dR 23 false (h4 27 (.fn F.Ah [(aM 26)])),dR 18 true (oF 28 23 27),dR 18 true (aN 29 28),dR 29 false (aN 30 0),dR 29 false (aN 31 6),dR 29 false (cD 32 (.mV (aM 30) (aM 31))),dR 29 false (cD 33 (.bin .eql T.a3 (aM 32) (.const (.int .u8 95)))),dR 18 true (oF 34 29 33),xk 35 18 34])),(6,.c (.dm [aN 41 0,aN 42 1,cD 43 (.mV (aM 41) (aM 42)),h4 44 (.fn F.Ah [(aM 43)])])),(7,.c (.dm [aN 45 6,aN 46 0,cD 47 (.pK (aM 46)),iR .lss T.a 48 45 47,aN 49 48,dR 49 true (aN 50 0),dR 49 true (aN 51 6),dR 49 true (cD 52 (.mV (aM 50) (aM 51))),dR 49 true (h4 53 (.fn F.Ah [(aM 52)])),xk 54 49 53])),(14,.c (.r3 [aN 67 0,cD 68 (.pK (aM 67)),aN 69 1,iR .sub T.a 70 68 69,aN 71 7,aN 72 8,ik 73 1 71 72,ey 74 73,cD 75 (.pK (aM 74)),iR .geq T.a 76 70 75,aN 77 76,dR 77 true (aN 78 0),dR 77 true (aN 79 1),dR 77 true (aN 80 1),dR 77 true (aN 81 7),dR 77 true (aN 82 8),dR 77 true (ik 83 1 81 82),dR 77 true (ey 84 83),dR 77 true (cD 85 (.pK (aM 84))),dR 77 true (iR .add T.a 86 80 85),dR 77 true (cD 87 (.Av (aM 78) (some (aM 79)) (some (aM 86)))),dR 77 true (aN 88 7),dR 77 true (aN 89 8),dR 77 true (ik 90 1 88 89),dR 77 true (ey 91 90),dR 77 true (iR .eql T.n 92 87 91),xk 93 77 92])),(15,.c (.dm [aN 94 7,aN 95 8,ik 96 1 94 95,ey 97 96,cD 98 (.pK (aM 97)),aN 4 98,fx 5 (ct 3)]))] (bj Tryz.f157)⟩:=bc
theorem E.Ko:bb F.Ko ⟨118,[.tmp 4,.tmp 5],bd Tryz.prog [(27,.w)] (bj Tryz.f158)⟩:=bc
theorem E.Kp:bb F.Kp ⟨51,[.tmp 6,.tmp 7],bd Tryz.prog [] (bj Tryz.f159)⟩:=bc
theorem E.Kr:bb F.Kr ⟨27,[.tmp 6,.tmp 7],bd Tryz.prog [] (bj Tryz.f160)⟩:=bc
theorem E.a4:bb F.a4 ⟨44,[.tmp 8,.tmp 9],bd Tryz.prog [(1,.c (.dm [dC 14 .u3,aN 10 14])),(12,.c (.dm [aN 34 10,aN 35 12,pc 36 (.ot .string (.bool false) false (aM 34) (aM 35)),aN 33 36])),(16,.c (.dm [aN 41 10,aN 42 12,hp (.kd .string (aM 41) (aM 42) (kR true))]))] (bj Tryz.f161)⟩:=bc
theorem E.a5:bb F.a5 ⟨9,[.tmp 3],bd Tryz.prog [] (bj Tryz.f162)⟩:=bc
theorem E.nh:bb F.nh ⟨18,[.tmp 3],bd Tryz.prog [] (bj Tryz.f163)⟩:=bc
theorem E.w:bb F.w ⟨9,[.tmp 3],bd Tryz.prog [] (bj Tryz.f164)⟩:=bc
theorem E.x:bb F.x ⟨51,[.tmp 4],bd Tryz.prog [] (bj Tryz.f165)⟩:=bc
theorem E.H2:bb F.H2 ⟨18,[.tmp 4],bd Tryz.prog [] (bj Tryz.f166)⟩:=bc
theorem E.r4:bb F.r4 ⟨23,[.tmp 4,.tmp 5],bd Tryz.prog [(2,.w)] (bj Tryz.f167)⟩:=bc
theorem E.qc:bb F.qc ⟨22,[.tmp 4],bd Tryz.prog [] (bj Tryz.f168)⟩:=bc
theorem E.rV:bb F.rV ⟨9,[.tmp 3],bd Tryz.prog [] (bj Tryz.f169)⟩:=bc
theorem E.rW:bb F.rW ⟨36,[.tmp 4],bd Tryz.prog [] (bj Tryz.f170)⟩:=bc
theorem E.el:bb F.el ⟨36,[.tmp 4],bd Tryz.prog [] (bj Tryz.f171)⟩:=bc
theorem E.em:bb F.em ⟨40,[.tmp 4,.tmp 5],bd Tryz.prog [] (bj Tryz.f172)⟩:=bc
theorem E.gZ:bb F.gZ ⟨12,[.jm 6 4],bd Tryz.prog [(1,.s (.t 0 (.t 2 (.f 1 (.t 4 (.f 3 (.f 5 (.t 6 (.f 7 .d .n)) .n) (.f 5 (.f 3 (.t 6 (.f 7 .d .n)) .n) .n))) (.f 3 (.f 1 (.t 4 (.f 5 (.t 6 (.f 7 .d .n)) .n)) .n) .n)))))] (bj Tryz.f173)⟩:=bc
theorem E.H4:bb F.H4 ⟨60,[.tmp 6,.tmp 7],bd Tryz.prog [] (bj Tryz.f174)⟩:=bc
theorem E.a9:bb F.a9 ⟨9,[.tmp 3],bd Tryz.prog [] (bj Tryz.f176)⟩:=bc
theorem E.H5:bb F.H5 ⟨45,[.jm 6 2],bd Tryz.prog [(1,.s (.t 0 (.t 1 (.t 3 (.t 4 (.t 6 (.t 7 (.a 2 (.t 9 (.a 5 (.f 8 (.f 10 (.t 11 (.f 12 (.t 13 (.f 14 .d .n)) .n)) .n) .n) .n)) .n))))))))] (bj Tryz.f177)⟩:=bc
theorem E.gD:bb F.gD ⟨17,[.tmp 2],bd Tryz.prog [] (bj Tryz.f178)⟩:=bc
theorem E.gX:bb F.gX ⟨20,[.tmp 4],bd Tryz.prog [(1,.c (.dm [aN 7 0,dC 8 (.As (aM 7))])),(2,.c (.dm [dC 9 (.Am (aM 8)),cD 10 (.ext (aM 9) 0)])),(6,.c (.dm [aN 18 0,cD 19 (.pK (aM 18)),aN 4 19]))] (bj Tryz.f179)⟩:=bc
theorem E.y:bb F.y ⟨13,[.tmp 2],bd Tryz.prog [] (bj Tryz.f180)⟩:=bc
theorem E.eq:bb F.eq ⟨52,[.tmp 8,.tmp 9],bd Tryz.prog [] (bj Tryz.f181)⟩:=bc
theorem E.qd:bb F.qd ⟨12,[.tmp 4,.tmp 5],bd Tryz.prog [] (bj Tryz.f182)⟩:=bc
theorem E.es:bb F.es ⟨74,[.tmp 6,.tmp 7],bd Tryz.prog [] (bj Tryz.f183)⟩:=bc
theorem E.px:bb F.px ⟨33,[.tmp 4,.tmp 5],bd Tryz.prog [] (bj Tryz.f184)⟩:=bc
theorem E.H8:bb F.H8 ⟨38,[.tmp 4,.tmp 5],bd Tryz.prog [] (bj Tryz.f185)⟩:=bc
theorem E.bn:bb F.bn ⟨7,[.tmp 2],bd Tryz.prog [] (bj Tryz.f186)⟩:=bc
theorem E.H9:bb F.H9 ⟨21,[],bd Tryz.prog [] (bj Tryz.f187)⟩:=bc
theorem E.Bj:bb F.Bj ⟨77,[],bd Tryz.prog [(7,.s (.t 0 (.t 1 (.t 4 (.t 5 (.a 2 (.t 3 (.t 6 (.f 7 .d .n))) .n)))))),(9,.s (.t 0 (.t 1 (.t 2 (.t 3 (.t 4 (.t 5 (.t 6 (.t 7 (.t 8 (.t 9 (.f 10 .d .n)))))))))))),(15,.s (.t 0 (.t 1 (.t 2 (.t 3 (.t 4 (.t 5 (.t 6 (.t 7 (.t 8 (.f 9 .d .n)))))))))))] (bj Tryz.f188)⟩:=bc
theorem E.z:bb F.z ⟨56,[],bd Tryz.prog [(2,.s (.t 0 (.t 1 (.t 2 (.t 3 (.t 4 (.t 5 (.t 6 (.t 7 (.t 8 (.t 9 (.t 10 (.t 11 (.t 12 (.t 13 (.t 14 (.f 15 .d .n))))))))))))))))),(3,.s (.t 0 (.t 1 (.t 2 (.t 3 (.t 4 (.t 5 (.t 6 (.t 7 (.t 8 (.t 9 (.t 10 (.t 11 (.t 12 (.t 13 (.t 14 (.f 15 (.f 16 .d .n) .n)))))))))))))))))] (bj Tryz.f189)⟩:=bc
theorem E.ex:bb F.ex ⟨26,[],bd Tryz.prog [(0,.s (.t 0 (.t 1 (.t 2 (.t 3 (.t 4 (.t 5 (.t 6 (.t 7 (.t 8 (.t 9 (.t 10 (.t 11 (.t 12 (.t 13 (.t 14 (.t 15 (.t 16 (.t 17 (.t 18 (.f 19 .d .n)))))))))))))))))))))] (bj Tryz.f190)⟩:=bc
theorem E.BH:bb F.BH ⟨18,[.tmp 4,.tmp 5],bd Tryz.prog [] (bj Tryz.f196)⟩:=bc
theorem E.vS:bb F.vS ⟨56,[.tmp 2],bd Tryz.prog [] (bj Tryz.f197)⟩:=bc
theorem E.dS:bb F.dS ⟨20,[.tmp 2,.tmp 3],bd Tryz.prog [(5,.w)] (bj Tryz.f198)⟩:=bc
theorem E.e1:bb F.e1 ⟨33,[.tmp 4,.tmp 5],bd Tryz.prog [(1,.w)] (bj Tryz.f199)⟩:=bc
theorem E.Kl:bb F.Kl ⟨18,[.tmp 4,.tmp 5],bd Tryz.prog [] (bj Tryz.f207)⟩:=bc
theorem E.Kj:bb F.Kj ⟨4,[.tmp 2],bd Tryz.prog [] (bj Tryz.f208)⟩:=bc
theorem E.J9:bb F.J9 ⟨14,[.tmp 4,.tmp 5],bd Tryz.prog [] (bj Tryz.f209)⟩:=bc
theorem E.J6:bb F.J6 ⟨14,[.tmp 4,.tmp 5],bd Tryz.prog [] (bj Tryz.f210)⟩:=bc
theorem E.J7:bb F.J7 ⟨14,[.tmp 4,.tmp 5],bd Tryz.prog [] (bj Tryz.f211)⟩:=bc
theorem E.K1:bb F.K1 ⟨23,[.tmp 2],bd Tryz.prog [] (bj Tryz.f212)⟩:=bc
theorem E.K4:bb F.K4 ⟨31,[.tmp 4],bd Tryz.prog [] (bj Tryz.f213)⟩:=bc
theorem E.K5:bb F.K5 ⟨37,[.tmp 2],bd Tryz.prog [] (bj Tryz.f214)⟩:=bc
theorem E.KD:bb F.KD ⟨21,[.tmp 6],bd Tryz.prog [] (bj Tryz.f215)⟩:=bc
theorem E.KC:bb F.KC ⟨96,[.tmp 6],bd Tryz.prog [(19,.w)] (bj Tryz.f216)⟩:=bc
theorem E.Cu:bb F.Cu ⟨17,[.tmp 2],bd Tryz.prog [] (bj Tryz.f217)⟩:=bc
theorem E.Ah:bb F.Ah ⟨9,[.tmp 2],bd Tryz.prog [] (bj Tryz.f218)⟩:=bc
theorem E.Ke:bb F.Ke ⟨2,[.tmp 0],bd Tryz.prog [] (bj Tryz.f219)⟩:=bc
theorem E.Kk:bb F.Kk ⟨41,[.jm 6 6,.tmp 7],bd Tryz.prog [(1,.w)] (bj Tryz.f220)⟩:=bc
theorem E.FD:bb F.FD ⟨7,[.tmp 2],bd Tryz.prog [] (bj Tryz.f221)⟩:=bc
theorem E.Kf:bb F.Kf ⟨32,[.jm 6 4,.tmp 5],bd Tryz.prog [(1,.w)] (bj Tryz.f222)⟩:=bc
theorem E.be:bb F.be ⟨9,[.tmp 3],bd Tryz.prog [] (bj Tryz.f224)⟩:=bc
theorem E.Ic:bb F.Ic ⟨28,[.tmp 4],bd Tryz.prog [] (bj Tryz.f225)⟩:=bc
theorem E.Ie:bb F.Ie ⟨23,[.tmp 6],bd Tryz.prog [] (bj Tryz.f226)⟩:=bc
theorem E.Ig:bb F.Ig ⟨11,[.tmp 2],bd Tryz.prog [] (bj Tryz.f227)⟩:=bc
theorem E.Ih:bb F.Ih ⟨85,[.tmp 4],bd Tryz.prog [] (bj Tryz.f228)⟩:=bc
theorem E.Ik:bb F.Ik ⟨47,[.tmp 2],bd Tryz.prog [(10,.s (.t 0 (.t 1 (.t 3 (.t 4 (.a 2 (.t 6 (.f 5 (.f 7 (.t 8 (.f 9 .d .n)) .n) .n)) .n))))))] (bj Tryz.f233)⟩:=bc
theorem E.vV:bb F.vV ⟨9,[.tmp 2],bd Tryz.prog [] (bj Tryz.f234)⟩:=bc
theorem E.Il:bb F.Il ⟨14,[.tmp 0],bd Tryz.prog [(1,.c (.dm [dC 1 .u3,cD 2 (.gM [dD,dD,dD,.nilFunc] [(0,1),(1,1),(2,1),(3,1)] [(0,(ct 1)),(1,(ct 1)),(2,(ct 1)),(3,(.func F.ac))]),hp (.kd (.int .i64) (aM 1) (ct 9) (aM 2)),cD 3 (.gM [dD,dD,dD,.nilFunc] [(0,1),(1,1),(2,1),(3,1)] [(0,(ct 1)),(1,(ct 0)),(2,(ct 0)),(3,(.func F.ni))]),hp (.kd (.int .i64) (aM 1) (ct 10) (aM 3)),cD 4 (.gM [dD,dD,dD,.nilFunc] [(0,1),(1,1),(2,1),(3,1)] [(0,(ct 2)),(1,(ct 0)),(2,(ct 0)),(3,(.func F.p7))]),hp (.kd (.int .i64) (aM 1) (ct 11) (aM 4)),cD 5 (.gM [dD,dD,dD,.nilFunc] [(0,1),(1,1),(2,1),(3,1)] [(0,(ct 2)),(1,(ct 0)),(2,(ct 0)),(3,(.func F.rX))]),hp (.kd (.int .i64) (aM 1) (ct 12) (aM 5)),cD 6 (.gM [dD,dD,dD,.nilFunc] [(0,1),(1,1),(2,1),(3,1)] [(0,(ct 2)),(1,(ct 0)),(2,(ct 0)),(3,(.func F.sU))]),hp (.kd (.int .i64) (aM 1) (ct 13) (aM 6)),h4 7 (.fn F.e [(ct (-1)),(.func F.sV)]),hp (.kd (.int .i64) (aM 1) (ct 14) (aM 7)),h4 8 (.fn F.e [(ct (-1)),(.func F.pr)]),hp (.kd (.int .i64) (aM 1) (ct 15) (aM 8)),h4 9 (.fn F.e [(ct 0),(.func F.h7)]),hp (.kd (.int .i64) (aM 1) (ct 16) (aM 9)),h4 10 (.fn F.e [(ct 0),(.func F.qX)]),hp (.kd (.int .i64) (aM 1) (ct 17) (aM 10)),h4 11 (.fn F.e [(ct 1),(.func F.sX)]),hp (.kd (.int .i64) (aM 1) (ct 18) (aM 11)),h4 12 (.fn F.e [(ct 1),(.func F.mJ)]),hp (.kd (.int .i64) (aM 1) (ct 19) (aM 12)),aN 13 1,aN 0 13]))] (bj Tryz.f235)⟩:=bc
theorem E.Im:bb F.Im ⟨94,[.tmp 8],bd Tryz.prog [(1,.w),(8,.c (.qH (.take (aN 33 0) (.take (cD 34 (.wV (aM 33))) (.take (fw 35 1 34) (.take (ey 36 35) (.take (fw 37 0 5) (.take (ey 38 37) (.take (pc 39 (.ot (.int .i64) (.agg #[dD,dD,dD,.nilFunc]) true (aM 36) (aM 38))) (.take (aN 32 39) (.take (cD 40 (.ext (aM 32) 0)) (.take (cD 41 (.ext (aM 32) 1)) (.alt (dC 12 (.new T.xO (.agg #[dD,dD,dD,.nilFunc]))) (.fq (hp (.l3 4 (aM 12) (aM 40))) (.take (aN 13 41) .done) .nil) .nil))))))))))))),(10,.w),(14,.s (.t 0 (.t 1 (.t 2 (.t 3 (.t 4 (.t 5 (.t 6 (.t 7 (.t 8 (.t 9 (.t 10 (.t 11 (.t 12 (.t 13 (.a 14 (.f 15 (.t 16 (.t 17 (.f 18 .d .n))) .n) .n))))))))))))))))] (bj Tryz.f236)⟩:=bc
theorem E.p7:bb F.p7 ⟨12,[.tmp 4,.tmp 5],bd Tryz.prog [] (bj Tryz.f237)⟩:=bc
theorem E.fn:bb F.fn ⟨96,[.tmp 4,.tmp 5],bd Tryz.prog [(7,.w),(11,.w)] (bj Tryz.f238)⟩:=bc
theorem E.Io:bb F.Io ⟨45,[.tmp 6,.tmp 7,.tmp 8],bd Tryz.prog [(3,.w),(4,.w)] (bj Tryz.f239)⟩:=bc
theorem E.Ip:bb F.Ip ⟨15,[.tmp 2],bd Tryz.prog [(1,.w)] (bj Tryz.f240)⟩:=bc
theorem E.Ir:bb F.Ir ⟨15,[.tmp 4,.tmp 5],bd Tryz.prog [] (bj Tryz.f246)⟩:=bc
theorem E.hC:bb F.hC ⟨208,[.jm 5 2],bd Tryz.prog [(6,.s (.t 0 (.t 1 (.t 2 (.t 3 (.t 4 (.t 5 (.t 6 (.t 7 (.t 8 (.t 9 (.t 10 (.t 11 (.t 12 (.t 13 (.t 14 (.t 15 (.t 16 (.a 17 (.t 18 (.t 19 (.a 20 (.f 21 (.t 22 (.f 23 .d .n)) .n) .n))) .n))))))))))))))))))),(11,.s (.t 0 (.t 1 (.t 2 (.t 3 (.t 4 (.t 5 (.t 6 (.t 7 (.t 8 (.a 9 (.f 10 (.t 11 (.f 12 .d .n)) .n) .n))))))))))),(16,.s (.t 0 (.t 1 (.t 2 (.t 3 (.a 4 (.a 5 (.f 6 (.t 7 (.f 8 .d .n)) .n) .n) .n)))))),(21,.s (.t 0 (.t 1 (.t 2 (.t 3 (.t 4 (.t 5 (.t 6 (.t 7 (.t 8 (.t 9 (.t 10 (.t 11 (.t 12 (.t 13 (.t 14 (.t 15 (.t 16 (.t 17 (.t 18 (.t 19 (.t 20 (.t 21 (.t 22 (.t 23 (.t 24 (.t 25 (.t 26 (.f 27 .d .n))))))))))))))))))))))))))))),(23,.s (.t 0 (.t 1 (.t 2 (.t 3 (.t 4 (.t 5 (.t 6 (.t 7 (.t 8 (.t 9 (.t 10 (.t 11 (.t 12 (.a 13 (.f 14 .d .n) .n))))))))))))))),(24,.w),(25,.s (.t 0 (.t 1 (.t 2 (.t 3 (.t 4 (.t 5 (.t 6 (.t 7 (.t 8 (.t 9 (.t 10 (.t 11 (.t 12 (.t 13 (.t 14 (.t 15 (.t 16 (.t 17 (.t 18 (.t 19 (.t 20 (.t 21 (.t 22 (.f 23 .d .n)))))))))))))))))))))))))] (bj Tryz.f247)⟩:=bc
theorem E.Ka:bb F.Ka ⟨22,[.tmp 6,.tmp 7],bd Tryz.prog [] (bj Tryz.f249)⟩:=bc
theorem E.KE:bb F.KE ⟨39,[.tmp 4],bd Tryz.prog [(9,.w)] (bj Tryz.f250)⟩:=bc
theorem E.KF:bb F.KF ⟨25,[.tmp 6,.tmp 7],bd Tryz.prog [] (bj Tryz.f251)⟩:=bc
theorem E.Kq:bb F.Kq ⟨14,[.tmp 4],bd Tryz.prog [] (bj Tryz.f252)⟩:=bc
theorem E.Iv:bb F.Iv ⟨12,[.tmp 3],bd Tryz.prog [] (bj Tryz.f254)⟩:=bc
theorem E.Iw:bb F.Iw ⟨10,[.tmp 4],bd Tryz.prog [] (bj Tryz.f255)⟩:=bc
theorem E.Bk:bb F.Bk ⟨39,[.jm 6 6,.tmp 7,.tmp 8],bd Tryz.prog [(3,.w)] (bj Tryz.f256)⟩:=bc
theorem E.Bl:bb F.Bl ⟨25,[.tmp 4,.tmp 5],bd Tryz.prog [(3,.w)] (bj Tryz.f257)⟩:=bc
theorem E.Ix:bb F.Ix ⟨32,[.tmp 6],bd Tryz.prog [] (bj Tryz.f258)⟩:=bc
theorem E.ac:bb F.ac ⟨9,[.tmp 4,.tmp 5],bd Tryz.prog [] (bj Tryz.f260)⟩:=bc
theorem E.Iy:bb F.Iy ⟨4,[.tmp 2],bd Tryz.prog [] (bj Tryz.f261)⟩:=bc
theorem E.ni:bb F.ni ⟨10,[.tmp 4,.tmp 5],bd Tryz.prog [] (bj Tryz.f262)⟩:=bc
theorem E.rX:bb F.rX ⟨12,[.tmp 4,.tmp 5],bd Tryz.prog [] (bj Tryz.f263)⟩:=bc
theorem E.sU:bb F.sU ⟨12,[.tmp 4,.tmp 5],bd Tryz.prog [] (bj Tryz.f264)⟩:=bc
theorem E.e:bb F.e ⟨8,[.jm 4 4],bd Tryz.prog [] (bj Tryz.f265)⟩:=bc
theorem E.sV:bb F.sV ⟨8,[.tmp 4],bd Tryz.prog [] (bj Tryz.f266)⟩:=bc
theorem E.pr:bb F.pr ⟨8,[.tmp 4],bd Tryz.prog [] (bj Tryz.f267)⟩:=bc
theorem E.h7:bb F.h7 ⟨8,[.tmp 4],bd Tryz.prog [] (bj Tryz.f268)⟩:=bc
theorem E.qX:bb F.qX ⟨8,[.tmp 4],bd Tryz.prog [] (bj Tryz.f269)⟩:=bc
theorem E.sX:bb F.sX ⟨11,[.tmp 4],bd Tryz.prog [] (bj Tryz.f270)⟩:=bc
theorem E.mJ:bb F.mJ ⟨11,[.tmp 4],bd Tryz.prog [] (bj Tryz.f271)⟩:=bc
theorem E.f0:bb F.f0 ⟨26,[.tmp 4],bd Tryz.prog [(5,.c (.dm [aN 18 1,aN 19 0,pc 20 (.ot (.int .i64) (.agg #[dD,dD,dD,.nilFunc]) true (aM 18) (aM 19)),aN 17 20,cD 21 (.ext (aM 17) 0),cD 22 (.ext (aM 17) 1),dC 5 (.new T.xO (.agg #[dD,dD,dD,.nilFunc])),hp (.l3 4 (aM 5) (aM 21)),aN 6 22]))] (bj Tryz.f272)⟩:=bc
theorem E.Bm:bb F.Bm ⟨8,[.tmp 4],bd Tryz.prog [] (bj Tryz.f273)⟩:=bc
theorem E.f1:bb F.f1 ⟨24,[.tmp 6,.tmp 7],bd Tryz.prog [] (bj Tryz.f274)⟩:=bc
theorem E.f2:bb F.f2 ⟨21,[.tmp 4,.tmp 5],bd Tryz.prog [] (bj Tryz.f275)⟩:=bc
theorem E.f3:bb F.f3 ⟨12,[.tmp 4,.tmp 5],bd Tryz.prog [] (bj Tryz.f288)⟩:=bc
theorem E.f4:bb F.f4 ⟨117,[.tmp 6,.tmp 7],bd Tryz.prog [(13,.w),(26,.w)] (bj Tryz.f289)⟩:=bc
theorem E.f5:bb F.f5 ⟨26,[.tmp 4,.tmp 5],bd Tryz.prog [(1,.w)] (bj Tryz.f290)⟩:=bc
theorem E.Kb:bb F.Kb ⟨9,[.tmp 2],bd Tryz.prog [] (bj Tryz.f291)⟩:=bc
theorem E.f7:bb F.f7 ⟨32,[.tmp 6,.tmp 7],bd Tryz.prog [] (bj Tryz.f292)⟩:=bc
theorem E.bi:bb F.bi ⟨8,[.tmp 4],bd Tryz.prog [] (bj Tryz.f293)⟩:=bc
theorem E.Bn:bb F.Bn ⟨8,[.tmp 4],bd Tryz.prog [] (bj Tryz.f294)⟩:=bc
theorem E.k:bb F.k ⟨12,[.tmp 5,.tmp 6],bd Tryz.prog [] (bj Tryz.f295)⟩:=bc
theorem E.f8:bb F.f8 ⟨18,[.tmp 2],bd Tryz.prog [] (bj Tryz.f296)⟩:=bc
theorem E.f9:bb F.f9 ⟨18,[.tmp 4,.tmp 5],bd Tryz.prog [] (bj Tryz.f311)⟩:=bc
theorem E.DI:bb F.DI ⟨34,[.tmp 4],bd Tryz.prog [(2,.s (.t 0 (.t 1 (.t 2 (.t 3 (.t 4 (.t 5 (.t 6 (.t 7 (.t 8 (.t 9 (.t 10 (.t 11 (.t 12 (.t 13 (.t 14 (.t 15 (.t 16 (.f 17 (.t 18 (.t 19 .d)) .n)))))))))))))))))))] (bj Tryz.f335)⟩:=bc
theorem E.Iz:bb F.Iz ⟨42,[.tmp 6],bd Tryz.prog [] (bj Tryz.f336)⟩:=bc
theorem E.pv:bb F.pv ⟨80,[.tmp 4],bd Tryz.prog [(3,.w),(5,.s (.t 0 (.t 1 (.t 2 (.t 3 (.t 4 (.t 5 (.t 6 (.t 7 (.t 8 (.t 9 (.t 10 (.t 11 (.t 12 (.t 13 (.t 14 (.t 15 (.t 16 (.t 17 (.f 18 (.t 19 .d) .n))))))))))))))))))))] (bj Tryz.f337)⟩:=bc
theorem E.cH:bb F.cH ⟨40,[.tmp 4],bd Tryz.prog [(2,.s (.t 0 (.t 1 (.t 2 (.t 3 (.t 4 (.t 5 (.t 6 (.t 7 (.t 8 (.t 9 (.t 10 (.t 11 (.t 12 (.t 13 (.t 14 (.t 15 (.t 16 (.t 17 (.t 18 (.t 19 (.t 20 (.t 21 (.t 22 (.f 23 (.t 24 (.t 25 .d)) .n)))))))))))))))))))))))))] (bj Tryz.f338)⟩:=bc
theorem E.DK:bb F.DK ⟨99,[.tmp 4],bd Tryz.prog [(2,.s (.t 0 (.t 1 (.t 2 (.t 3 (.t 4 (.t 5 (.t 6 (.t 7 (.t 8 (.t 9 (.t 10 (.t 11 (.t 12 (.a 13 (.f 14 .d .n) .n))))))))))))))),(3,.w),(6,.w),(8,.c (.dm [aN 89 1,cD 90 (.wV (aM 89)),fw 91 2 90,ey 92 91,aN 93 10,aN 94 11,cD 95 (.iO 1 (aM 92) (some (aM 93)) (some (aM 94)) none),aN 96 12,dC 97 (.raw (.call ⟨.builtin .copy,#[(aM 95),(aM 96)],#[T.b,T.b]⟩) T.a)]))] (bj Tryz.f339)⟩:=bc
theorem E.IA:bb F.IA ⟨26,[.tmp 4,.tmp 5],bd Tryz.prog [] (bj Tryz.f340)⟩:=bc
theorem E.gc:bb F.gc ⟨24,[.tmp 2],bd Tryz.prog [] (bj Tryz.f341)⟩:=bc
theorem E.IB:bb F.IB ⟨17,[.tmp 4],bd Tryz.prog [(3,.c (.dm [aN 12 5,cD 13 (.iO 1 (aM 12) (some (ct 1)) none none),aN 14 1,dC 15 (.raw (.call ⟨.builtin .copy,#[(aM 13),(aM 14)],#[T.b,T.b]⟩) T.a)]))] (bj Tryz.f342)⟩:=bc
theorem E.ge:bb F.ge ⟨24,[.tmp 2],bd Tryz.prog [(4,.c (.qH (.take (aN 11 3) (.take (aN 12 0) (.take (aN 13 0) (.take (cD 14 (.o2 1 (aM 13) (ct 0))) (.take (ey 15 14) (.take (cD 16 (.bin .add T.a (ct 1) (aM 15))) (.take (aN 17 0) (.take (cD 18 (.o2 1 (aM 17) (ct 0))) (.take (ey 19 18) (.take (cD 20 (.bin .add T.a (ct 1) (aM 19))) (.take (cD 21 (.iO 1 (aM 12) (some (ct 1)) (some (aM 16)) (some (aM 20)))) (.fq (dC 22 (.raw (.call ⟨.builtin .copy,#[(aM 11),(aM 21)],#[T.b,T.b]⟩) T.a)) .done .nil))))))))))))))] (bj Tryz.f343)⟩:=bc
theorem E.iW:bb F.iW ⟨15,[.tmp 6],bd Tryz.prog [] (bj Tryz.f344)⟩:=bc
theorem E.am:bb F.am ⟨5,[.tmp 2],bd Tryz.prog [] (bj Tryz.f345)⟩:=bc
theorem E.vC:bb F.vC ⟨67,[.tmp 4],bd Tryz.prog [(1,.w),(3,.c (.dm [aN 33 1,cD 34 (.wV (aM 33)),fw 35 2 34,ey 36 35,aN 37 5,aN 38 6,cD 39 (.iO 1 (aM 36) (some (aM 37)) (some (aM 38)) none),aN 40 7,dC 41 (.raw (.call ⟨.builtin .copy,#[(aM 39),(aM 40)],#[T.b,T.b]⟩) T.a)])),(4,.s (.t 0 (.t 1 (.t 2 (.t 3 (.t 4 (.t 5 (.t 6 (.t 7 (.t 8 (.t 9 (.t 10 (.t 11 (.t 12 (.t 13 (.t 14 (.t 15 (.t 16 (.t 17 (.t 18 (.t 19 (.t 20 (.t 21 (.t 22 (.f 23 (.t 24 (.t 25 .d)) .n)))))))))))))))))))))))))] (bj Tryz.f346)⟩:=bc
theorem E.IC:bb F.IC ⟨19,[.tmp 2,.tmp 3,.tmp 4],bd Tryz.prog [(4,.s (.t 0 (.t 1 (.t 2 (.t 3 (.t 5 (.t 6 (.t 7 (.a 4 (.t 8 (.t 9 (.t 10 .d))) .n)))))))))] (bj Tryz.f347)⟩:=bc
theorem E.f:bb F.f ⟨42,[.tmp 4], (cG [fx 4 (.const iw)] (cG [aN 8 0,aN 9 1,nL 10 F.gd [8,9],aN 5 10] (.seq (cG [aN 11 5,ki .eql T.a 12 11 (-1)] (jY 12 (cG [aN 13 0,aN 4 13] .ret) .skip)) (.seq (cG [aN 14 5,ki .add T.a 15 14 1,aN 6 15] (.cm 0 (.loop (.seq (cG [aN 16 6,aN 17 0,lJ 18 17,iR .lss T.a 19 16 18] (jY 19 .skip (.exit 0))) (.seq (.cm 1 (cG [aN 22 0,aN 23 6,ik 24 3 22 23,h3 25 3 24,dC 7 (.new T.j (.agg #[dD,dD,iw])),pV 3 7 25] (cG [aN 26 1,h3 27 3 7,h4 28 (.val (aM 26) [(aM 27)]),cD 29 (.un .not (aM 28))] (jY 29 (cG [aN 30 0,aN 31 5,h3 32 3 7,ik 33 3 30 31,pV 3 33 32] (.dm [aN 34 5,ki .add T.a 35 34 1,aN 5 35])) .skip)))) (.dm [aN 20 6,ki .add T.a 21 20 1,aN 6 21])))))) (cG [aN 36 0,aN 37 5,cD 38 (.iO 3 (aM 36) (some (aM 37)) none none),hp (.raw (.call ⟨.builtin .clear,#[(aM 38)],#[T.Nt]⟩) T.z)] (cG [aN 39 0,aN 40 5,cD 41 (.iO 3 (aM 39) none (some (aM 40)) none),aN 4 41] .ret))))))⟩:=bc
theorem E.Ht:bb F.Ht ⟨5,[.tmp 2], (cG [fx 2 (.const iw)] (cG [aN 3 0,h4 4 (.fn F.BO [(.const iw),(aM 3)]),aN 2 4] .ret))⟩:=bc
theorem E.h:bb F.h ⟨9,[.tmp 4], (cG [fx 4 (kR false)] (cG [aN 5 0,aN 6 1,nL 7 F.j [5,6],ki .geq T.a 8 7 0,aN 4 8] .ret))⟩:=bc
theorem E.gd:bb F.gd ⟨19,[.tmp 4], (cG [fx 4 (ct 0)] (.seq (cG [aN 6 0,lJ 7 6,fx 8 (ct 0)] (.cm 0 (.loop (cG [iR .lss T.a 9 8 7] (vl 9 0
 (.seq (.cm 1 (cG [aN 10 8,aN 5 10] (cG [aN 11 1,aN 12 0,aN 13 5,ik 14 3 12 13,h3 15 3 14,h4 16 (.val (aM 11) [(aM 15)])] (jY 16 (cG [aN 17 5,aN 4 17] .ret) .skip)))) (vk T.a 18 8))))))) (cG [fx 4 (ct (-1))] .ret)))⟩:=bc
theorem E.j:bb F.j ⟨19,[.tmp 4], (cG [fx 4 (ct 0)] (.seq (cG [aN 6 0,lJ 7 6,fx 8 (ct 0)] (.cm 0 (.loop (cG [iR .lss T.a 9 8 7] (vl 9 0
 (.seq (.cm 1 (cG [aN 10 8,aN 5 10] (cG [aN 11 1,aN 12 0,aN 13 5,ik 14 1 12 13,ey 15 14,h4 16 (.val (aM 11) [(aM 15)])] (jY 16 (cG [aN 17 5,aN 4 17] .ret) .skip)))) (vk T.a 18 8))))))) (cG [fx 4 (ct (-1))] .ret)))⟩:=bc
theorem E.ID:bb F.ID ⟨8,[.tmp 2], (cG [fx 2 (.const iw)] (.seq (cG [aN 3 0,cD 4 (.bin .eql T.b (aM 3) (.const iw))] (jY 4 (cG [fx 2 (.const iw)] .ret) .skip)) (cG [dC 5 (.kB T.a 0 1 [] []),aN 6 0,dC 7 (.app T.b T.a 1 8 (aM 5) (aM 6)),aN 2 7] .ret)))⟩:=bc
theorem E.OQ:bb F.OQ ⟨9,[.tmp 4], (cG [fx 4 (kR false)] (cG [aN 5 0,aN 6 1,nL 7 F.IE [5,6],ki .geq T.a 8 7 0,aN 4 8] .ret))⟩:=bc
theorem E.ae:bb F.ae ⟨61,[.tmp 2], (cG [fx 2 (.const iw)] (.seq (cG [aN 6 0,lJ 7 6,ki .lss T.a 8 7 2] (jY 8 (cG [aN 9 0,aN 2 9] .ret) .skip)) (.seq (cG [fx 3 (ct 1)] (.cm 0 (.loop (.seq (cG [aN 10 3,aN 11 0,lJ 12 11,iR .lss T.a 13 10 12] (jY 13 .skip (.exit 0))) (.seq (.cm 1 (.seq (.r3 [aN 16 0,aN 17 3,ik 18 2 16 17,h3 19 2 18,aN 20 0,aN 21 3,ki .sub T.a 22 21 1,ik 23 2 20 22,h3 24 2 23,iR .eql T.e 25 19 24]) (jY 25 (cG [aN 26 0,aN 27 3,cD 28 (.iO 2 (aM 26) (some (aM 27)) none none),aN 4 28] (.seq (cG [fx 5 (ct 1)] (.cm 2 (.loop (.seq (cG [aN 29 5,aN 30 4,lJ 31 30,iR .lss T.a 32 29 31] (jY 32 .skip (.exit 2))) (.seq (.cm 3 (.seq (.r3 [aN 35 4,aN 36 5,ik 37 2 35 36,h3 38 2 37,aN 39 4,aN 40 5,ki .sub T.a 41 40 1,ik 42 2 39 41,h3 43 2 42,iR .neq T.e 44 38 43]) (jY 44 (cG [aN 45 0,aN 46 3,aN 47 4,aN 48 5,ik 49 2 47 48,h3 50 2 49,ik 51 2 45 46,pV 2 51 50] (.dm [aN 52 3,ki .add T.a 53 52 1,aN 3 53])) .skip))) (.dm [aN 33 5,ki .add T.a 34 33 1,aN 5 34])))))) (cG [aN 54 0,aN 55 3,cD 56 (.iO 2 (aM 54) (some (aM 55)) none none),hp (.raw (.call ⟨.builtin .clear,#[(aM 56)],#[T.t]⟩) T.z)] (cG [aN 57 0,aN 58 3,cD 59 (.iO 2 (aM 57) none (some (aM 58)) none),aN 2 59] .ret)))) .skip))) (.dm [aN 14 3,ki .add T.a 15 14 1,aN 3 15])))))) (cG [aN 60 0,aN 2 60] .ret))))⟩:=bc
theorem E.OR:bb F.OR ⟨9,[.tmp 4], (cG [fx 4 (kR false)] (cG [aN 5 0,aN 6 1,nL 7 F.uB [5,6],ki .geq T.a 8 7 0,aN 4 8] .ret))⟩:=bc
theorem E.IE:bb F.IE ⟨19,[.tmp 4], (cG [fx 4 (ct 0)] (.seq (cG [aN 6 0,lJ 7 6,fx 8 (ct 0)] (.cm 0 (.loop (cG [iR .lss T.a 9 8 7] (vl 9 0
 (.seq (.cm 1 (cG [aN 10 8,aN 5 10] (cG [aN 11 1,aN 12 0,aN 13 5,ik 14 6 12 13,h3 15 6 14,h4 16 (.val (aM 11) [(aM 15)])] (jY 16 (cG [aN 17 5,aN 4 17] .ret) .skip)))) (vk T.a 18 8))))))) (cG [fx 4 (ct (-1))] .ret)))⟩:=bc
theorem E.D7:bb F.D7 ⟨8,[.tmp 2], (cG [fx 2 (.const iw)] (.seq (cG [aN 3 0,cD 4 (.bin .eql T.rX (aM 3) (.const iw))] (jY 4 (cG [fx 2 (.const iw)] .ret) .skip)) (cG [dC 5 (.kB T.p7 0 2 [] []),aN 6 0,dC 7 (.app T.rX T.p7 2 24 (aM 5) (aM 6)),aN 2 7] .ret)))⟩:=bc
theorem E.IF:bb F.IF ⟨8,[.tmp 2], (cG [fx 2 (.const iw)] (.seq (cG [aN 3 0,cD 4 (.bin .eql T.sU (aM 3) (.const iw))] (jY 4 (cG [fx 2 (.const iw)] .ret) .skip)) (cG [dC 5 (.kB T.l 0 6 [] []),aN 6 0,dC 7 (.app T.sU T.l 6 56 (aM 5) (aM 6)),aN 2 7] .ret)))⟩:=bc
theorem E.IG:bb F.IG ⟨8,[.tmp 2], (cG [fx 2 (.const iw)] (.seq (cG [aN 3 0,cD 4 (.bin .eql T.sV (aM 3) (.const iw))] (jY 4 (cG [fx 2 (.const iw)] .ret) .skip)) (cG [dC 5 (.kB T.u 0 6 [] []),aN 6 0,dC 7 (.app T.sV T.u 6 56 (aM 5) (aM 6)),aN 2 7] .ret)))⟩:=bc
theorem E.uB:bb F.uB ⟨19,[.tmp 4], (cG [fx 4 (ct 0)] (.seq (cG [aN 6 0,lJ 7 6,fx 8 (ct 0)] (.cm 0 (.loop (cG [iR .lss T.a 9 8 7] (vl 9 0
 (.seq (.cm 1 (cG [aN 10 8,aN 5 10] (cG [aN 11 1,aN 12 0,aN 13 5,ik 14 6 12 13,h3 15 6 14,h4 16 (.val (aM 11) [(aM 15)])] (jY 16 (cG [aN 17 5,aN 4 17] .ret) .skip)))) (vk T.a 18 8))))))) (cG [fx 4 (ct (-1))] .ret)))⟩:=bc
theorem E.go:bb F.go ⟨8,[.tmp 2], (cG [fx 2 (.const iw)] (.seq (cG [aN 3 0,cD 4 (.bin .eql T.t (aM 3) (.const iw))] (jY 4 (cG [fx 2 (.const iw)] .ret) .skip)) (cG [dC 5 (.kB T.e 0 2 [] []),aN 6 0,dC 7 (.app T.t T.e 2 16 (aM 5) (aM 6)),aN 2 7] .ret)))⟩:=bc
end Go.Proofs.R
end
section
namespace a7
open Go Go.RowKit
section
variable{α:Type}{P:Program}{f:FuncId}{t AB:TypeId}{sz:Nat}{enc:α->List Value}
def N0(cv t:F_)(sz b:Nat):mG:=⟨8,[.tmp 2],
 (.seq (.dm [fx 2 (.const (.slice none 0 0))])
 (.seq (.seq (.dm [aN 3 0,cD 4 (.bin .eql cv (aM 3) (.const (.slice none 0 0)))])
 (.cond (aM 4) (.seq (.dm [fx 2 (.const (.slice none 0 0))])
 .ret)
 .skip))
 (.seq (.dm [dC 5 (.kB t 0 sz [] []),aN 6 0,dC 7 (.app cv t sz b (aM 5) (aM 6)),aN 2 7])
 .ret)))⟩
theorem WS{R:A_->Addr->α->Prop}{C:A_->C_ B_->α->Prop}[Rel R C sz]{cv:F_}{b:Nat}(hm:P.follows .mixedOrders=true)(dI:lq P f=some (N0 cv t sz b))(Ff:P.underlying cv=some (.slice t))
  (v:B_)(xs:C_ α)(w:A_)(h:bg sz R w v xs)(an:xs.length*b<=140737488355328) :
  aW P f #[v] w fun bS w'=>(∃cd:C_ (e8 sz),cd.length=xs.length/\pj t sz w.heap.size w' bS cd/\∀i (h1:i<cd.length) (I:i<xs.length),C w' cd[i].1 xs[i])/\Ext w w':=by
 obtain⟨bI,c1,rfl,br⟩:=h.form;refine _h hm dI (args:=[_]) (Nat.le_of_ble_eq_true rfl) ?_;dsimp only[N0,aM,ct,kR,cD,pc,dC,h4,hp,dR,aN,fx,fw,ey,ik,ys,lJ];refine aa ?_;refine AB4 Ff ?_;refine aa ?_;refine N_ (fun g=>?_) (fun g=>?_)
 .refine aa ?_
  have:xs=[]:=by
   obtain⟨aO,cap,e,I,ab,aE,aY⟩:=h.ex;injection e with e1 e2 a1
   subst e1;by_cases af:xs=[]
   .exact af
   .have:=aE af
    cases bI<;>simp_all
  subst this;exact⟨⟨[],rfl,aP.nil _ _ _ _ _,fun i h=>by cases h⟩,Ext.refl _⟩
 obtain⟨a,rfl⟩:∃a,bI=some a:=by cases bI with | none=>cases g | some a=>exact⟨a,rfl⟩
 obtain⟨cd,az,gk,bq⟩:=h.cells;refine aa ?_;intro w1 br cF ah al;refine aa ?_;have aJ:pj t sz w.heap.size w1 (.slice (some ⟨br,0,none⟩) 0 0) []:=aP.empty cF al;refine _X (ys:=cd) aJ j3 (bg.flat j3 (fun _ _ h=>h) (bg.ext Flat.ext ah gk)) (by rw[az]) tf (by rw[AI3,AE9,az];exact an) (by have:=gk.len;have e:=h.len;rw[AI3,az];omega) (by exact ah.size) fun bS w' mR aH _=>?_;obtain⟨aO,cap,rfl,_⟩:=mR.form;have aj:Ext w w':=ah.grown aH fun k hk=>by injection hk with hk;subst hk;exact cF
 refine aa ?_;exact⟨⟨cd,az,by simpa using mR,fun i h1 I=>Rel.ext (R:=R) aj (bq i h1 I)⟩,aj⟩
theorem ed.clone{R:A_->Addr->α->Prop}{C:A_->C_ B_->α->Prop}[Rel R C sz]{w w':A_}{v:B_}{xs:C_ α}{cd:C_ (e8 sz)}(az:cd.length=xs.length)(aJ:pj t sz w.heap.size w' v cd)
  (av:∀{w w':A_} {cs x},C w cs x->C w' cs x)(ai:∀i (h1:i<cd.length) (I:i<xs.length),C w' cd[i].1 xs[i]):ed w (fun w=>bg sz R w v xs) w':=fun aB m=>by
 have dj:=aP.mod aJ m fun k hk a=>by have:=(aJ.lt k hk).1;omega
 exact bg.FQ az (dj.jg j3) fun i h1 I=>av (ai i h1 I)
theorem Hv{R:A_->Addr->α->Prop}{C:A_->C_ B_->α->Prop}[Rel R C sz]{cv:F_}{b:Nat}(hm:P.follows .mixedOrders=true)(dI:lq P f=some (N0 cv t sz b))(Ff:P.underlying cv=some (.slice t))
  (av:∀{w w':A_} {cs x},C w cs x->C w' cs x)(v:B_)(xs:C_ α)(w:A_)(h:bg sz R w v xs)(an:xs.length*b<=140737488355328) :
  aW P f #[v] w fun bS w'=>(∃aO c,bS = .slice aO xs.length c)/\ed w (fun w=>bg sz R w bS xs) w'/\Ext w w' :=
 (WS hm dI Ff v xs w h an).mono fun bS w' ⟨⟨cd,az,aJ,ai⟩,he⟩=>by
  have ax:=ed.clone (R:=R) az aJ av ai;obtain⟨aO,c,e,_⟩:=ax.here.form;exact⟨⟨aO,c,e⟩,ax,he⟩
def Ra(AB:F_)(sz:Nat):mG:=⟨19,[.tmp 4],
 (.seq (.dm [fx 4 (ct 0)])
 (.seq (.seq (.dm [aN 6 0,lJ 7 6,fx 8 (ct 0)])
 (.cm 0 (.loop (.seq (.dm [cD 9 (.bin .lss AB (aM 8) (aM 7))])
 (.seq (.cond (aM 9) .skip
 (.exit 0))
 (.seq (.cm 1 (.seq (.dm [aN 10 8,aN 5 10])
 (.seq (.dm [aN 11 1,aN 12 0,aN 13 5,ik 14 sz 12 13,pc 15 (.kM sz (aM 14)),h4 16 (.val (aM 11) [(aM 15)])])
 (.cond (aM 16) (.seq (.dm [aN 17 5,aN 4 17])
 .ret)
 .skip))))
 (.dm [cD 18 (.bin .add AB (aM 8) (ct 1)),aN 8 18])))))))
 (.seq (.dm [fx 4 (ct (-1))])
 .ret)))⟩
def lR(p:α->Bool):C_ α->Nat->Int
 | [],_ => -1
 | x :: r,i=>if p x then i else lR p r (i+1)
theorem OH{p:α->Bool}{l:C_ α}{k:Nat}(h:k<l.length):lR p (l.drop k) k=if p l[k] then (k:Int) else lR p (l.drop (k+1)) (k+1):=by
 rw[AF3 h];rfl
theorem Ii{p:α->Bool}:∀{l:C_ α} {i:Nat},(0<=lR p l i↔l.any p=true)
 | [],_=>by simp[lR]
 | x :: r,i=>by
  simp only[lR,List.any_cons];by_cases h:p x=true
  .rw[if_pos h];simp[h]
  .rw[if_neg h,Ii];simp[h]
theorem Rb{R:A_->Addr->α->Prop}{C:A_->C_ B_->α->Prop}[Rel R C sz](hm:P.follows .mixedOrders=true)(dI:lq P f=some (Ra AB sz))
  (v:B_)(xs:C_ α)(w:A_)(h:bg sz R w v xs)(g:E_)(aH:okF P g=true)(first cap:C_ B_)(p:α->Bool)
  (aq:∀(i:Nat) (U:i<xs.length) (cs:C_ B_) (w':A_),Ext w w'->C w' cs xs[i]->aW P g (first++[Value.agg cs.toArray]++cap).toArray w' fun v bM=>v = .bool (p xs[i])/\Ext w' bM) :
  aW P f #[v,.func (.func g) first.toArray cap.toArray] w fun bS w'=>bS = .I (lR p xs 0)/\Ext w w':=by
 obtain⟨bI,c1,rfl,br⟩:=h.form;refine _h hm dI (args:=[_,_]) (Nat.le_of_ble_eq_true rfl) ?_;dsimp only[Ra,aM,ct,kR,cD,pc,dC,h4,hp,dR,aN,fx,fw,ey,ik,ys,lJ];refine aa ?_;refine L_ 8 xs.length [0,1,7] (fun _=>[]) () (fun k _ w'=>Ext w w'/\lR p xs 0=lR p (xs.drop k) k) a8 a8 ⟨Ext.refl _,Bh⟩ ?_;rintro k _ S aB hk ⟨aj,aX⟩;refine aa ?_;apply I_<;>intro g1
 .have aV:k<xs.length:=Aw
  obtain⟨a,rfl⟩:=h.addr;obtain⟨cs,gk,bq⟩:=Rel.out (h.at k aV);have hlen:=Rel.len (R:=R) bq;rw[OH aV] at aX;refine aa ?_;refine Z_ (gk.ext aj) hlen ?_;refine aa ?_;refine V_ aH (aq k aV cs aB aj (Rel.ext (R:=R) aj bq)) ?_;rintro _ aK ⟨rfl,ag⟩;refine aa ?_;refine N_ (fun g2=>?_) (fun g2=>?_)
  .refine aa ?_;exact⟨by rw[aX,if_pos g2],aj.trans ag⟩
  .refine aa ?_;exact⟨aV,aL,(),trivial,aj.trans ag,by rw[aX,if_neg (by simp[g2])]⟩
 .refine aa ?_;exact⟨by rw[aX,AF0 Aw];rfl,aj⟩
def W4(AB:F_)(g:E_):mG:=⟨9,[.tmp 4],
 (.seq (.dm [fx 4 (kR false)])
 (.seq (.dm [aN 5 0,aN 6 1,h4 7 (.fn g [(aM 5),(aM 6)]),cD 8 (.bin .geq AB (aM 7) (ct 0)),aN 4 8])
 .ret))⟩
theorem W5{R:A_->Addr->α->Prop}{C:A_->C_ B_->α->Prop}[Rel R C sz]{uz:E_}{asi:F_}(hm:P.follows .mixedOrders=true)(IM:lq P uz=some (W4 asi f))(dI:lq P f=some (Ra AB sz))
  (v:B_)(xs:C_ α)(w:A_)(h:bg sz R w v xs)(g:E_)(aH:okF P g=true)(first cap:C_ B_)(p:α->Bool)
  (aq:∀(i:Nat) (U:i<xs.length) (cs:C_ B_) (w':A_),Ext w w'->C w' cs xs[i]->aW P g (first++[Value.agg cs.toArray]++cap).toArray w' fun v bM=>v = .bool (p xs[i])/\Ext w' bM) :
  aW P uz #[v,.func (.func g) first.toArray cap.toArray] w fun bS w'=>bS = .bool (xs.any p)/\Ext w w':=by
 refine _h hm IM (args:=[_,_]) (Nat.le_of_ble_eq_true rfl) ?_;dsimp only[W4,aM,ct,kR,cD,pc,dC,h4,hp,dR,aN,fx,fw,ey,ik,ys,lJ];refine aa ?_;refine J_ (Rb hm dI v xs w h g aH first cap p aq) ?_;rintro _ aB ⟨rfl,aj⟩;refine aa ?_;refine⟨?_,aj⟩;congr 1;rw[AG7,decide_eq_true_eq];exact Ii
end
end a7
end
section
namespace a7
open Go Go.RowKit
structure y6(w:World)(a:Addr)(n:Int):Prop where
 cells:e7 w a [Value.int .i64 n]
 ok:o.dP n
theorem y6.ext(w w':A_)(a:Addr)(n:Int)(he:Ext w w')(h:y6 w a n):y6 w' a n:=⟨h.cells.ext he,h.ok⟩
instance avd:oI y6 (fun n=>[Value.int .i64 n]):=⟨fun _ _ _ h=>h.cells⟩
abbrev oJ(w:A_)(v:B_)(l:C_ Int):Prop:=bg 1 y6 w v l
theorem oJ.ext{w w':A_}{v:B_}{l:C_ Int}(he:Ext w w')(h:oJ w v l):oJ w' v l:=bg.ext y6.ext he h
theorem oJ.ok{w:A_}{v:B_}{l:C_ Int}(h:oJ w v l):∀z∈l,o.dP z:=by
 intro z bw;obtain⟨i,U,rfl⟩:=List.mem_iff_getElem.1 bw;obtain⟨aO,cap,rfl,_⟩:=h.form;obtain⟨a,rfl⟩:=h.addr;exact(h.at i U).ok
def A6(w:A_)(a:Addr)(l:C_ Int):Prop := ∃v,w.cell? a=some v/\oJ w v l
theorem A6.ext(w w':A_)(a:Addr)(l:C_ Int)(he:Ext w w')(h:A6 w a l):A6 w' a l:=let ⟨v,h1,I⟩:=h; ⟨v,he.cell h1,I.ext he⟩
abbrev vw(w:A_)(v:B_)(l:C_ (C_ Int)):Prop:=bg 1 A6 w v l
theorem vw.ext{w w':A_}{v:B_}{l:C_ (C_ Int)}(he:Ext w w')(h:vw w v l):vw w' v l:=bg.ext A6.ext he h
end a7
namespace o
open Go Go.RowKit a7
structure pY(w:World)(cs:List Value)(v:Env):Prop where
 ex:∃v0 v1 v2 v3,cs=[v0,v1,v2,v3,.int .i64 v.self]/\vw w v0 v.vars/\oJ w v1 v.lens/\oJ w v2 v.locals/\vw w v3 v.at_/\dP v.self
theorem pY.ext{w w':A_}{cs:C_ B_}{v:Env}(he:Ext w w')(h:pY w cs v):pY w' cs v :=
 let ⟨v0,v1,v2,v3,e,ad,h1,I,ab,aE⟩:=h.ex
 ⟨v0,v1,v2,v3,e,ad.ext he,h1.ext he,I.ext he,ab.ext he,aE⟩
theorem pY.form{w:A_}{cs:C_ B_}{v:Env}(h:pY w cs v):∃a0 bu cZ c1 a2 c2 a3 bp,cs=[.slice a0 v.vars.length bu,.slice cZ v.lens.length c1,.slice a2 v.locals.length c2,.slice a3 v.at_.length bp,.I v.self] /\
  vw w (.slice a0 v.vars.length bu) v.vars/\oJ w (.slice cZ v.lens.length c1) v.lens/\oJ w (.slice a2 v.locals.length c2) v.locals/\vw w (.slice a3 v.at_.length bp) v.at_/\dP v.self /\
  v.vars.length<=9223372036854775807/\v.lens.length<=9223372036854775807/\v.locals.length<=9223372036854775807/\v.at_.length<=9223372036854775807:=by
 obtain⟨v0,v1,v2,v3,rfl,ad,h1,I,ab,aE⟩:=h.ex;obtain⟨a0,bu,rfl,eU⟩:=ad.form;obtain⟨cZ,c1,rfl,eh⟩:=h1.form;obtain⟨a2,c2,rfl,eo⟩:=I.form;obtain⟨a3,bp,rfl,dY⟩:=ab.form;exact⟨a0,bu,cZ,c1,a2,c2,a3,bp,rfl,ad,h1,I,ab,aE,eU,eh,eo,dY⟩
end o
end
section
namespace a7
open Go Go.RowKit
theorem bg.one{α:Type}{sz:Nat}{R:A_->Addr->α->Prop}{w:A_}{v:B_}{xs:C_ α}(h:bg sz R w v xs):v.oneCell'=true:=by
 obtain⟨aO,c,rfl,_⟩:=h.form;rfl
def aeF(_:A_)(cs:C_ B_)(n:Int):Prop:=cs=[Value.int .i64 n]/\o.dP n
instance avo:Rel y6 aeF 1 where
 out h:=⟨_,h.cells,rfl,h.ok⟩
 om h k:=by obtain⟨rfl,k⟩:=k;exact⟨h,k⟩
 len h:=by rw[h.1];rfl
 one h:=by rw[h.1];simp[Value.oneCell']
 ext _ h:=h
def aeV(w:A_)(cs:C_ B_)(l:C_ Int):Prop := ∃v,cs=[v]/\oJ w v l
instance avv:Rel A6 aeV 1 where
 out h:=by
  obtain⟨v,h1,I⟩:=h;exact⟨[v],fun j u aC=>by cases j with | zero=>simp at aC;subst aC;rw[add_zero];exact h1 | succ j=>simp at aC,v,rfl,I⟩
 om h k:=by
  obtain⟨v,rfl,k⟩:=k
  have:=h 0 v rfl
  rw[add_zero] at this;exact⟨v,this,k⟩
 len h:=by obtain⟨v,rfl,_⟩:=h;rfl
 one h:=by obtain⟨v,rfl,h⟩:=h;simpa using h.one
 ext e h:=let ⟨v,h1,I⟩:=h; ⟨v,h1,I.ext e⟩
end a7
namespace o
open Go Go.RowKit a7
def aeW(_:A_)(cs:C_ B_)(x:Scalar):Prop:=cs=x.enc/\jB x.name
def aeX(_:A_)(cs:C_ B_)(x:Var):Prop:=cs=x.enc/\jB x.name
def aew(_:A_)(cs:C_ B_)(x:dg):Prop:=cs=x.enc/\jB x.name
def aeK(_:A_)(cs:C_ B_)(x:Node):Prop:=cs=x.enc/\x.ok
instance avw:Rel jZ aeW 2 where
 out h:=⟨_,h.cells,rfl,h.ok⟩
 om h k:=by obtain⟨rfl,k⟩:=k;exact⟨h,k⟩
 len h:=by rw[h.1];rfl
 one h:=by rw[h.1];simp[Scalar.enc,Value.oneCell']
 ext _ h:=h
instance avx:Rel qS aeX 6 where
 out h:=⟨_,h.cells,rfl,h.ok⟩
 om h k:=by obtain⟨rfl,k⟩:=k;exact⟨h,k⟩
 len h:=by rw[h.1];rfl
 one h:=by rw[h.1];simp[Var.enc,Value.oneCell']
 ext _ h:=h
instance avl:Rel qR aew 6 where
 out h:=⟨_,h.cells,rfl,h.ok⟩
 om h k:=by obtain⟨rfl,k⟩:=k;exact⟨h,k⟩
 len h:=by rw[h.1];rfl
 one h:=by rw[h.1];simp[dg.enc,Value.oneCell']
 ext _ h:=h
instance avq:Rel y7 aeK 2 where
 out h:=⟨_,h.cells,rfl,h.ok⟩
 om h k:=by obtain⟨rfl,k⟩:=k;exact⟨h,k⟩
 len h:=by rw[h.1];rfl
 one h:=by rw[h.1];simp[Node.enc,Value.oneCell']
 ext _ h:=h
def C6(w:A_)(cs:C_ B_)(x:Act):Prop := ∃bH bV,cs=x.enc bH bV/\eL w bH x.index/\eL w bV x.value
theorem C6.ext{w w':A_}{cs:C_ B_}{c:Act}(he:Ext w w')(h:C6 w cs c):C6 w' cs c:=let ⟨bH,bV,h1,I,ab⟩:=h; ⟨bH,bV,h1,I.ext he,ab.ext he⟩
instance avj:Rel y3 C6 5 where
 out h:=let ⟨bH,bV,h1,I,ab⟩:=h; ⟨_,h1,bH,bV,rfl,I,ab⟩
 om h k:=by obtain⟨bH,bV,rfl,I,ab⟩:=k;exact⟨bH,bV,h,I,ab⟩
 len h:=by obtain⟨bH,bV,rfl,I,ab⟩:=h;rfl
 one h:=by obtain⟨bH,bV,rfl,I,ab⟩:=h;simp[Act.enc,I.one,ab.one];simp[Value.oneCell']
 ext e h:=h.ext e
instance avm:Rel y4 AS 6 where
 out h:=let ⟨ad,bH,bV,h1,I,ab⟩:=h; ⟨_,h1,ad,bH,bV,rfl,I,ab⟩
 om h k:=by obtain⟨ad,bH,bV,rfl,I,ab⟩:=k;exact⟨ad,bH,bV,h,I,ab⟩
 len h:=by obtain⟨ad,bH,bV,rfl,I,ab⟩:=h;rfl
 one h:=by obtain⟨ad,bH,bV,rfl,I,ab⟩:=h;simp[dr.enc,I.one,ab.one];simp[Value.oneCell']
 ext e h:=h.ext e
instance avt:Rel A4 xD 5 where
 out h:=let ⟨ad,bH,bV,h1,I,ab⟩:=h; ⟨_,h1,ad,bH,bV,rfl,I,ab⟩
 om h k:=by obtain⟨ad,bH,bV,rfl,I,ab⟩:=k;exact⟨ad,bH,bV,h,I,ab⟩
 len h:=by obtain⟨ad,bH,bV,rfl,I,ab⟩:=h;rfl
 one h:=by obtain⟨ad,bH,bV,rfl,I,ab⟩:=h;simp[dw.enc,I.one,ab.one];simp[Value.oneCell']
 ext e h:=h.ext e
def G8(w:A_)(cs:C_ B_)(x:lL):Prop:=jB x.name/\∃gQ,cs=x.enc gQ/\eL w gQ x.expr
theorem G8.ext{w w':A_}{cs:C_ B_}{c:lL}(he:Ext w w')(h:G8 w cs c):G8 w' cs c:=let ⟨ad,bH,h1,I⟩:=h; ⟨ad,bH,h1,I.ext he⟩
instance avu:Rel A5 G8 2 where
 out h:=let ⟨ad,bH,h1,I⟩:=h; ⟨_,h1,ad,bH,rfl,I⟩
 om h k:=by obtain⟨ad,bH,rfl,I⟩:=k;exact⟨ad,bH,h,I⟩
 len h:=by obtain⟨ad,bH,rfl,I⟩:=h;rfl
 one h:=by obtain⟨ad,bH,rfl,I⟩:=h;simp[lL.enc,I.one];simp[Value.oneCell']
 ext e h:=h.ext e
def adq:C_ jG:=[.i,.i]
end o
end
section
namespace a7
theorem aT{A B:Prop}(k:B)(h:xw B->A:=by
 intro q;simp -dsimp only[cV,cu,Nat.reduceAdd,Nat.reduceEqDiff,reduceIte,reduceCtorEq,c3];exact q.out):A:=h ⟨k⟩
end a7
end