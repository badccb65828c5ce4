/- Parts. -/
import Derived.Test.YtakmdjclehkglaaGreatDoorQase
set_option linter.all false
set_option maxRecDepth 100000
set_option maxHeartbeats 4000000
section
namespace Go.Proofs.R
open Go ba Go.Proofs
theorem E.eq:bf F.eq ⟨36,[.tmp 4],bj Tryz.prog [] [] (bm Tryz.f171)⟩:=bg
theorem E.qm:bf F.qm ⟨40,[.tmp 4,.tmp 5],bj Tryz.prog [] [] (bm Tryz.f172)⟩:=bg
theorem E.my:bf F.my ⟨12,[.jm 6 4],bj Tryz.prog [] [(1,(.dp (.take (bd 5 3 2) (.take (bd 7 1 2) (.bh (bk 6 5) (.take (bd 9 4 3) (.bh (bk 8 7) (.bh (ys 9 6) (.take (bd 10 5 3) (.bh (ys 10 8) .done .nil)) .nil) (.bh (ys 9 6) (.bh (bk 8 7) (.take (bd 10 5 3) (.bh (ys 10 8) .done .nil)) .nil) .nil))) (.bh (bk 8 7) (.bh (bk 6 5) (.take (bd 9 4 3) (.bh (ys 9 6) (.take (bd 10 5 3) (.bh (ys 10 8) .done .nil)) .nil)) .nil) .nil))))))] (bm Tryz.f173)⟩:=bg
theorem E.es:bf F.es ⟨60,[.tmp 6,.tmp 7],bj Tryz.prog [] [] (bm Tryz.f174)⟩:=bg
theorem E.bw:bf F.bw ⟨9,[.tmp 3],bj Tryz.prog [] [] (bm Tryz.f176)⟩:=bg
theorem E.pN:bf F.pN ⟨45,[.jm 6 2],bj Tryz.prog [] [(1,(.dp (.take (bd 6 0 1) (.take (bk 7 6) (.take (bd 9 1 1) (.take (bk 10 9) (.take (bd 12 2 1) (.take (bk 13 12) (.alt (bY 8 (.fn F.Eb [(ad 7)])) (.take (bd 15 0 1) (.alt (bY 11 (.fn F.fn [(ad 10)])) (.bh (bY 14 (.fn F.Ec [(ad 13)])) (.bh (ys 15 8) (.take (bd 16 1 1) (.bh (ys 16 11) (.take (bd 17 2 1) (.bh (ys 17 14) .done .nil)) .nil)) .nil) .nil) .nil)) .nil)))))))))] (bm Tryz.f177)⟩:=bg
theorem E.bS:bf F.bS ⟨17,[.tmp 2],bj Tryz.prog [] [] (bm Tryz.f178)⟩:=bg
theorem E.bW:bf F.bW ⟨20,[.tmp 4],bj Tryz.prog [] [(1,(.dv [aq 7 0,bP 8 (.yO (ad 7))])),(2,(.dv [bP 9 (.yG (ad 8)),bA 10 (.ext (ad 9) 0)])),(6,(.dv [aq 18 0,bA 19 (.pg (ad 18)),aq 4 19]))] (bm Tryz.f179)⟩:=bg
theorem E.q1:bf F.q1 ⟨13,[.tmp 2],bj Tryz.prog [] [] (bm Tryz.f180)⟩:=bg
theorem E.Im:bf F.Im ⟨52,[.tmp 8,.tmp 9],bj Tryz.prog [] [] (bm Tryz.f181)⟩:=bg
theorem E.aX:bf F.aX ⟨12,[.tmp 4,.tmp 5],bj Tryz.prog [] [] (bm Tryz.f182)⟩:=bg
theorem E.Io:bf F.Io ⟨74,[.tmp 6,.tmp 7],bj Tryz.prog [] [] (bm Tryz.f183)⟩:=bg
theorem E.ex:bf F.ex ⟨33,[.tmp 4,.tmp 5],bj Tryz.prog [] [] (bm Tryz.f184)⟩:=bg
theorem E.BK:bf F.BK ⟨38,[.tmp 4,.tmp 5],bj Tryz.prog [] [] (bm Tryz.f185)⟩:=bg
theorem E.wc:bf F.wc ⟨7,[.tmp 2],bj Tryz.prog [] [] (bm Tryz.f186)⟩:=bg
theorem E.ei:bf F.ei ⟨21,[],bj Tryz.prog [] [] (bm Tryz.f187)⟩:=bg
theorem E.cC:bf F.cC ⟨77,[],bj Tryz.prog [] [(7,(.dp (.take (bk 27 3) (.take (bk 28 2) (.take (bd 31 1 4) (.take (bk 32 31) (.alt (bY 29 (.fn F.v [(ad 28)])) (.take (gH .add T.a 30 29 1) (.take (fR .add T.a 33 30 32) (.bh (bY 34 (.fn F.f [(ad 27),(ad 33),(cf 1)])) .done .nil))) .nil))))))),(9,(.dp (.take (bk 37 3) (.take (bk 38 2) (.take (bA 39 (.fo (ad 38))) (.take (bd 40 5 39) (.take (bd 41 1 40) (.take (bk 42 41) (.take (bd 43 1 4) (.take (bk 44 43) (.take (dq 45 1 42 44) (.take (bk 46 45) (.bh (bY 47 (.fn F.f [(ad 37),(ad 46),(cf 1)])) .done .nil))))))))))))),(15,(.dp (.take (bk 66 3) (.take (bk 67 2) (.take (bA 68 (.fo (ad 67))) (.take (bd 69 5 68) (.take (bd 70 2 69) (.take (bk 71 70) (.take (aq 72 6) (.take (dq 73 1 71 72) (.take (bk 74 73) (.bh (bY 75 (.fn F.f [(ad 66),(ad 74),(cf 1)])) .done .nil))))))))))))] (bm Tryz.f188)⟩:=bg
theorem E.w:bf F.w ⟨56,[],bj Tryz.prog [] [(2,(.dp (.take (aq 23 1) (.take (aq 24 10) (.take (aq 25 0) (.take (bA 26 (.fo (ad 25))) (.take (bd 27 11 26) (.take (bk 28 27) (.take (aq 29 0) (.take (bA 30 (.fo (ad 29))) (.take (bd 31 12 30) (.take (bk 32 31) (.take (dq 33 2 28 32) (.take (bd 34 1 33) (.take (bk 35 34) (.take (fR .add T.a 36 24 35) (.take (gH .sub T.a 37 36 1) (.bh (bY 38 (.fn F.f [(ad 23),(ad 37),(cf 1)])) .done .nil)))))))))))))))))),(3,(.dp (.take (aq 39 1) (.take (aq 40 10) (.take (aq 41 0) (.take (bA 42 (.fo (ad 41))) (.take (bd 43 0 42) (.take (bd 44 1 43) (.take (bk 45 44) (.take (aq 46 2) (.take (dq 47 6 45 46) (.take (dQ 48 (.di 6 (ad 47))) (.take (aq 49 0) (.take (bA 50 (.fo (ad 49))) (.take (bd 51 0 50) (.take (bd 52 0 51) (.take (bk 53 52) (.bh (bY 54 (.fn F.sV [(ad 48),(ad 53)])) (.bh (bY 55 (.fn F.f [(ad 39),(ad 40),(ad 54)])) .done .nil) .nil))))))))))))))))))] (bm Tryz.f189)⟩:=bg
theorem E.bB:bf F.bB ⟨26,[],bj Tryz.prog [] [(0,(.dp (.take (aq 6 1) (.take (aq 7 0) (.take (bA 8 (.fo (ad 7))) (.take (bd 9 5 8) (.take (bd 10 1 9) (.take (bk 11 10) (.take (aq 12 2) (.take (dq 13 1 11 12) (.take (bk 14 13) (.take (aq 15 0) (.take (bA 16 (.fo (ad 15))) (.take (bd 17 0 16) (.take (bd 18 2 17) (.take (bk 19 18) (.take (aq 20 2) (.take (dq 21 6 19 20) (.take (bd 22 2 21) (.take (bk 23 22) (.take (bA 24 (.bin .add T.a (cf 1) (ad 23))) (.bh (bY 25 (.fn F.f [(ad 6),(ad 14),(ad 24)])) .done .nil))))))))))))))))))))))] (bm Tryz.f190)⟩:=bg
theorem E.aJ:bf F.aJ ⟨18,[.tmp 4,.tmp 5],bj Tryz.prog [] [] (bm Tryz.f196)⟩:=bg
theorem E.a7:bf F.a7 ⟨56,[.tmp 2],bj Tryz.prog [] [] (bm Tryz.f197)⟩:=bg
theorem E.bD:bf F.bD ⟨20,[.tmp 2,.tmp 3],bj Tryz.prog [5] [] (bm Tryz.f198)⟩:=bg
theorem E.bJ:bf F.bJ ⟨33,[.tmp 4,.tmp 5],bj Tryz.prog [1] [] (bm Tryz.f199)⟩:=bg
theorem E.Ks:bf F.Ks ⟨18,[.tmp 4,.tmp 5],bj Tryz.prog [] [] (bm Tryz.f207)⟩:=bg
theorem E.Kq:bf F.Kq ⟨4,[.tmp 2],bj Tryz.prog [] [] (bm Tryz.f208)⟩:=bg
theorem E.Kh:bf F.Kh ⟨14,[.tmp 4,.tmp 5],bj Tryz.prog [] [] (bm Tryz.f209)⟩:=bg
theorem E.Ke:bf F.Ke ⟨14,[.tmp 4,.tmp 5],bj Tryz.prog [] [] (bm Tryz.f210)⟩:=bg
theorem E.Kf:bf F.Kf ⟨14,[.tmp 4,.tmp 5],bj Tryz.prog [] [] (bm Tryz.f211)⟩:=bg
theorem E.KZ:bf F.KZ ⟨23,[.tmp 2],bj Tryz.prog [] [] (bm Tryz.f212)⟩:=bg
theorem E.FY:bf F.FY ⟨31,[.tmp 4],bj Tryz.prog [] [] (bm Tryz.f213)⟩:=bg
theorem E.K2:bf F.K2 ⟨37,[.tmp 2],bj Tryz.prog [] [] (bm Tryz.f214)⟩:=bg
theorem E.KJ:bf F.KJ ⟨21,[.tmp 6],bj Tryz.prog [] [] (bm Tryz.f215)⟩:=bg
theorem E.KI:bf F.KI ⟨96,[.tmp 6],bj Tryz.prog [19] [] (bm Tryz.f216)⟩:=bg
theorem E.Cu:bf F.Cu ⟨17,[.tmp 2],bj Tryz.prog [] [] (bm Tryz.f217)⟩:=bg
theorem E.Ax:bf F.Ax ⟨9,[.tmp 2],bj Tryz.prog [] [] (bm Tryz.f218)⟩:=bg
theorem E.Km:bf F.Km ⟨2,[.tmp 0],bj Tryz.prog [] [] (bm Tryz.f219)⟩:=bg
theorem E.Kr:bf F.Kr ⟨41,[.jm 6 6,.tmp 7],bj Tryz.prog [1] [] (bm Tryz.f220)⟩:=bg
theorem E.FN:bf F.FN ⟨7,[.tmp 2],bj Tryz.prog [] [] (bm Tryz.f221)⟩:=bg
theorem E.Kn:bf F.Kn ⟨32,[.jm 6 4,.tmp 5],bj Tryz.prog [1] [] (bm Tryz.f222)⟩:=bg
theorem E.hp:bf F.hp ⟨9,[.tmp 3],bj Tryz.prog [] [] (bm Tryz.f224)⟩:=bg
theorem E.Ir:bf F.Ir ⟨28,[.tmp 4],bj Tryz.prog [] [] (bm Tryz.f225)⟩:=bg
theorem E.Iu:bf F.Iu ⟨23,[.tmp 6],bj Tryz.prog [] [] (bm Tryz.f226)⟩:=bg
theorem E.wg:bf F.wg ⟨11,[.tmp 2],bj Tryz.prog [] [] (bm Tryz.f227)⟩:=bg
theorem E.Iv:bf F.Iv ⟨85,[.tmp 4],bj Tryz.prog [] [] (bm Tryz.f228)⟩:=bg
theorem E.Iw:bf F.Iw ⟨47,[.tmp 2],bj Tryz.prog [] [(10,(.dp (.take (bd 26 3 8) (.take (bk 27 26) (.take (bd 29 4 8) (.take (bk 30 29) (.alt (bY 28 (.fn F.eZ [(ad 27)])) (.take (bd 32 3 8) (.bh (bY 31 (.fn F.eZ [(ad 30)])) (.bh (ys 32 28) (.take (bd 33 4 8) (.bh (ys 33 31) .done .nil)) .nil) .nil)) .nil)))))))] (bm Tryz.f233)⟩:=bg
theorem E.Iy:bf F.Iy ⟨9,[.tmp 2],bj Tryz.prog [] [] (bm Tryz.f234)⟩:=bg
theorem E.hG:bf F.hG ⟨14,[.tmp 0],bj Tryz.prog [] [(1,(.dv [bP 1 .tL,bA 2 (.gl [cu,cu,cu,.nilFunc] [(0,1),(1,1),(2,1),(3,1)] [(0,(cf 1)),(1,(cf 1)),(2,(cf 1)),(3,(.func F.am))]),e8 (.j4 (.int .i64) (ad 1) (cf 9) (ad 2)),bA 3 (.gl [cu,cu,cu,.nilFunc] [(0,1),(1,1),(2,1),(3,1)] [(0,(cf 1)),(1,(cf 0)),(2,(cf 0)),(3,(.func F.s0))]),e8 (.j4 (.int .i64) (ad 1) (cf 10) (ad 3)),bA 4 (.gl [cu,cu,cu,.nilFunc] [(0,1),(1,1),(2,1),(3,1)] [(0,(cf 2)),(1,(cf 0)),(2,(cf 0)),(3,(.func F.sY))]),e8 (.j4 (.int .i64) (ad 1) (cf 11) (ad 4)),bA 5 (.gl [cu,cu,cu,.nilFunc] [(0,1),(1,1),(2,1),(3,1)] [(0,(cf 2)),(1,(cf 0)),(2,(cf 0)),(3,(.func F.s3))]),e8 (.j4 (.int .i64) (ad 1) (cf 12) (ad 5)),bA 6 (.gl [cu,cu,cu,.nilFunc] [(0,1),(1,1),(2,1),(3,1)] [(0,(cf 2)),(1,(cf 0)),(2,(cf 0)),(3,(.func F.ap))]),e8 (.j4 (.int .i64) (ad 1) (cf 13) (ad 6)),bY 7 (.fn F.i [(cf (-1)),(.func F.uv)]),e8 (.j4 (.int .i64) (ad 1) (cf 14) (ad 7)),bY 8 (.fn F.i [(cf (-1)),(.func F.jG)]),e8 (.j4 (.int .i64) (ad 1) (cf 15) (ad 8)),bY 9 (.fn F.i [(cf 0),(.func F.as)]),e8 (.j4 (.int .i64) (ad 1) (cf 16) (ad 9)),bY 10 (.fn F.i [(cf 0),(.func F.vL)]),e8 (.j4 (.int .i64) (ad 1) (cf 17) (ad 10)),bY 11 (.fn F.i [(cf 1),(.func F.pH)]),e8 (.j4 (.int .i64) (ad 1) (cf 18) (ad 11)),bY 12 (.fn F.i [(cf 1),(.func F.vM)]),e8 (.j4 (.int .i64) (ad 1) (cf 19) (ad 12)),aq 13 1,aq 0 13]))] (bm Tryz.f235)⟩:=bg
theorem E.gd:bf F.gd ⟨94,[.tmp 8],bj Tryz.prog [1,10] [(8,(.dp (.take (aq 33 0) (.take (bA 34 (.fo (ad 33))) (.take (bd 35 1 34) (.take (bk 36 35) (.take (bd 37 0 5) (.take (bk 38 37) (.take (dQ 39 (.nT (.int .i64) (.agg #[cu,cu,cu,.nilFunc]) true (ad 36) (ad 38))) (.take (aq 32 39) (.take (bA 40 (.ext (ad 32) 0)) (.take (bA 41 (.ext (ad 32) 1)) (.alt (bP 12 (.new T.a2 (.agg #[cu,cu,cu,.nilFunc]))) (.bh (e8 (.gY 4 (ad 12) (ad 40))) (.take (aq 13 41) .done) .nil) .nil))))))))))))),(14,(.dp (.take (aq 70 0) (.take (aq 71 0) (.take (bA 72 (.fo (ad 71))) (.take (bd 73 0 72) (.take (bk 74 73) (.take (aq 75 0) (.take (bA 76 (.fo (ad 75))) (.take (bd 77 0 76) (.take (bk 78 77) (.take (jP 79 78) (.take (aq 80 9) (.take (fR .sub T.a 81 79 80) (.take (bA 82 (.gJ 1 (ad 74) none (some (ad 81)) none)) (.take (aq 83 10) (.alt (bP 84 (.gb T.a 1 1 [cu] [(0,(ad 83))])) (.bh (bP 85 (.app T.b T.a 1 8 (ad 82) (ad 84))) (.take (bA 86 (.fo (ad 70))) (.take (bd 87 0 86) (.bh (ys 87 85) .done .nil))) .nil) .nil)))))))))))))))))] (bm Tryz.f236)⟩:=bg
theorem E.sY:bf F.sY ⟨12,[.tmp 4,.tmp 5],bj Tryz.prog [] [] (bm Tryz.f237)⟩:=bg
theorem E.IC:bf F.IC ⟨96,[.tmp 4,.tmp 5],bj Tryz.prog [7,11] [] (bm Tryz.f238)⟩:=bg
theorem E.ID:bf F.ID ⟨45,[.tmp 6,.tmp 7,.tmp 8],bj Tryz.prog [3,4] [] (bm Tryz.f239)⟩:=bg
theorem E.IE:bf F.IE ⟨15,[.tmp 2],bj Tryz.prog [1] [] (bm Tryz.f240)⟩:=bg
theorem E.IF:bf F.IF ⟨15,[.tmp 4,.tmp 5],bj Tryz.prog [] [] (bm Tryz.f246)⟩:=bg
theorem E.IG:bf F.IG ⟨208,[.jm 5 2],bj Tryz.prog [24] [(6,(.dp (.take (bd 40 0 3) (.take (bk 41 40) (.take (aq 42 0) (.take (bA 43 (.fo (ad 42))) (.take (bd 44 2 43) (.take (bk 45 44) (.take (aq 46 6) (.take (aq 47 6) (.take (dQ 48 (.di 6 (ad 5))) (.take (aq 49 0) (.take (bA 50 (.fo (ad 49))) (.take (bd 51 0 50) (.take (bk 52 51) (.take (bA 53 (.fo (ad 52))) (.take (bd 54 0 53) (.take (bd 55 0 54) (.take (bk 56 55) (.alt (bY 57 (.fn F.sV [(ad 48),(ad 56)])) (.take (fR .add T.a 58 47 57) (.take (bA 59 (.gJ 1 (ad 45) (some (ad 46)) (some (ad 58)) none)) (.alt (bP 60 (.gb T.b 1 1 [ch] [(0,(ad 59))])) (.bh (bP 61 (.app T.HH T.b 1 24 (ad 41) (ad 60))) (.take (bd 62 0 3) (.bh (ys 62 61) .done .nil)) .nil) .nil))) .nil)))))))))))))))))))),(11,(.dp (.take (bd 77 1 3) (.take (bk 78 77) (.take (aq 79 0) (.take (bA 80 (.fo (ad 79))) (.take (bd 81 2 80) (.take (bk 82 81) (.take (aq 83 8) (.take (dq 84 1 82 83) (.take (bk 85 84) (.alt (bP 86 (.gb T.a 1 1 [cu] [(0,(ad 85))])) (.bh (bP 87 (.app T.b T.a 1 8 (ad 78) (ad 86))) (.take (bd 88 1 3) (.bh (ys 88 87) .done .nil)) .nil) .nil)))))))))))),(16,(.dp (.take (bd 103 3 3) (.take (bk 104 103) (.take (bd 105 2 10) (.take (bk 106 105) (.alt (bP 107 (.u7 T.a 1 8 cu (ad 106) (ad 106))) (.alt (bP 108 (.gb T.b 1 1 [ch] [(0,(ad 107))])) (.bh (bP 109 (.app T.HH T.b 1 24 (ad 104) (ad 108))) (.take (bd 110 3 3) (.bh (ys 110 109) .done .nil)) .nil) .nil) .nil))))))),(21,(.dp (.take (bd 125 3 3) (.take (bk 126 125) (.take (bd 127 0 12) (.take (bk 128 127) (.take (dq 129 1 126 128) (.take (bk 130 129) (.take (aq 131 0) (.take (bA 132 (.fo (ad 131))) (.take (bd 133 2 132) (.take (bk 134 133) (.take (aq 135 0) (.take (bA 136 (.fo (ad 135))) (.take (bd 137 0 136) (.take (bk 138 137) (.take (bA 139 (.fo (ad 138))) (.take (bd 140 5 139) (.take (bd 141 2 140) (.take (bk 142 141) (.take (aq 143 11) (.take (dq 144 1 142 143) (.take (bk 145 144) (.take (dq 146 1 134 145) (.take (bk 147 146) (.take (dq 148 1 130 147) (.take (bk 149 148) (.take (gH .add T.a 150 149 1) (.take (dq 151 1 130 147) (.bh (ys 151 150) .done .nil)))))))))))))))))))))))))))))),(23,(.dp (.take (aq 153 0) (.take (bA 154 (.fo (ad 153))) (.take (bd 155 0 154) (.take (bk 156 155) (.take (bA 157 (.fo (ad 156))) (.take (bd 158 11 157) (.take (bk 159 158) (.take (aq 160 0) (.take (bA 161 (.fo (ad 160))) (.take (bd 162 1 161) (.take (bk 163 162) (.take (dq 164 2 159 163) (.take (dQ 165 (.di 2 (ad 164))) (.alt (bP 13 (.new T.e (.agg #[cu,cu]))) (.bh (e8 (.gY 2 (ad 13) (ad 165))) .done .nil) .nil)))))))))))))))),(25,(.dp (.take (aq 181 0) (.take (bA 182 (.fo (ad 181))) (.take (bd 183 2 182) (.take (bk 184 183) (.take (aq 185 14) (.take (aq 186 14) (.take (aq 187 0) (.take (bA 188 (.fo (ad 187))) (.take (bd 189 0 188) (.take (bk 190 189) (.take (bA 191 (.fo (ad 190))) (.take (bd 192 0 191) (.take (bd 193 3 192) (.take (bk 194 193) (.take (bd 195 0 13) (.take (bk 196 195) (.take (dq 197 5 194 196) (.take (bd 198 3 197) (.take (bk 199 198) (.take (jP 200 199) (.take (fR .add T.a 201 186 200) (.take (bA 202 (.gJ 1 (ad 184) (some (ad 185)) (some (ad 201)) none)) (.take (bd 203 2 3) (.bh (ys 203 202) .done .nil))))))))))))))))))))))))))] (bm Tryz.f247)⟩:=bg
theorem E.Ki:bf F.Ki ⟨22,[.tmp 6,.tmp 7],bj Tryz.prog [] [] (bm Tryz.f249)⟩:=bg
theorem E.KK:bf F.KK ⟨39,[.tmp 4],bj Tryz.prog [9] [] (bm Tryz.f250)⟩:=bg
theorem E.KL:bf F.KL ⟨25,[.tmp 6,.tmp 7],bj Tryz.prog [] [] (bm Tryz.f251)⟩:=bg
theorem E.Kx:bf F.Kx ⟨14,[.tmp 4],bj Tryz.prog [] [] (bm Tryz.f252)⟩:=bg
theorem E.f2:bf F.f2 ⟨12,[.tmp 3],bj Tryz.prog [] [] (bm Tryz.f254)⟩:=bg
theorem E.f3:bf F.f3 ⟨10,[.tmp 4],bj Tryz.prog [] [] (bm Tryz.f255)⟩:=bg
theorem E.iI:bf F.iI ⟨39,[.jm 6 6,.tmp 7,.tmp 8],bj Tryz.prog [3] [] (bm Tryz.f256)⟩:=bg
theorem E.ik:bf F.ik ⟨25,[.tmp 4,.tmp 5],bj Tryz.prog [3] [] (bm Tryz.f257)⟩:=bg
theorem E.f4:bf F.f4 ⟨32,[.tmp 6],bj Tryz.prog [] [] (bm Tryz.f258)⟩:=bg
theorem E.am:bf F.am ⟨9,[.tmp 4,.tmp 5],bj Tryz.prog [] [] (bm Tryz.f260)⟩:=bg
theorem E.f5:bf F.f5 ⟨4,[.tmp 2],bj Tryz.prog [] [] (bm Tryz.f261)⟩:=bg
theorem E.s0:bf F.s0 ⟨10,[.tmp 4,.tmp 5],bj Tryz.prog [] [] (bm Tryz.f262)⟩:=bg
theorem E.s3:bf F.s3 ⟨12,[.tmp 4,.tmp 5],bj Tryz.prog [] [] (bm Tryz.f263)⟩:=bg
theorem E.ap:bf F.ap ⟨12,[.tmp 4,.tmp 5],bj Tryz.prog [] [] (bm Tryz.f264)⟩:=bg
theorem E.i:bf F.i ⟨8,[.jm 4 4],bj Tryz.prog [] [] (bm Tryz.f265)⟩:=bg
theorem E.uv:bf F.uv ⟨8,[.tmp 4],bj Tryz.prog [] [] (bm Tryz.f266)⟩:=bg
theorem E.jG:bf F.jG ⟨8,[.tmp 4],bj Tryz.prog [] [] (bm Tryz.f267)⟩:=bg
theorem E.as:bf F.as ⟨8,[.tmp 4],bj Tryz.prog [] [] (bm Tryz.f268)⟩:=bg
theorem E.vL:bf F.vL ⟨8,[.tmp 4],bj Tryz.prog [] [] (bm Tryz.f269)⟩:=bg
theorem E.pH:bf F.pH ⟨11,[.tmp 4],bj Tryz.prog [] [] (bm Tryz.f270)⟩:=bg
theorem E.vM:bf F.vM ⟨11,[.tmp 4],bj Tryz.prog [] [] (bm Tryz.f271)⟩:=bg
theorem E.f6:bf F.f6 ⟨26,[.tmp 4],bj Tryz.prog [] [(5,(.dv [aq 18 1,aq 19 0,dQ 20 (.nT (.int .i64) (.agg #[cu,cu,cu,.nilFunc]) true (ad 18) (ad 19)),aq 17 20,bA 21 (.ext (ad 17) 0),bA 22 (.ext (ad 17) 1),bP 5 (.new T.a2 (.agg #[cu,cu,cu,.nilFunc])),e8 (.gY 4 (ad 5) (ad 21)),aq 6 22]))] (bm Tryz.f272)⟩:=bg
theorem E.pK:bf F.pK ⟨8,[.tmp 4],bj Tryz.prog [] [] (bm Tryz.f273)⟩:=bg
theorem E.f7:bf F.f7 ⟨24,[.tmp 6,.tmp 7],bj Tryz.prog [] [] (bm Tryz.f274)⟩:=bg
theorem E.f8:bf F.f8 ⟨21,[.tmp 4,.tmp 5],bj Tryz.prog [] [] (bm Tryz.f275)⟩:=bg
theorem E.f9:bf F.f9 ⟨12,[.tmp 4,.tmp 5],bj Tryz.prog [] [] (bm Tryz.f288)⟩:=bg
theorem E.IH:bf F.IH ⟨117,[.tmp 6,.tmp 7],bj Tryz.prog [13,26] [] (bm Tryz.f289)⟩:=bg
theorem E.II:bf F.II ⟨26,[.tmp 4,.tmp 5],bj Tryz.prog [1] [] (bm Tryz.f290)⟩:=bg
theorem E.Kj:bf F.Kj ⟨9,[.tmp 2],bj Tryz.prog [] [] (bm Tryz.f291)⟩:=bg
theorem E.IJ:bf F.IJ ⟨32,[.tmp 6,.tmp 7],bj Tryz.prog [] [] (bm Tryz.f292)⟩:=bg
theorem E.lb:bf F.lb ⟨8,[.tmp 4],bj Tryz.prog [] [] (bm Tryz.f293)⟩:=bg
theorem E.ta:bf F.ta ⟨8,[.tmp 4],bj Tryz.prog [] [] (bm Tryz.f294)⟩:=bg
theorem E.s:bf F.s ⟨12,[.tmp 5,.tmp 6],bj Tryz.prog [] [] (bm Tryz.f295)⟩:=bg
theorem E.ge:bf F.ge ⟨18,[.tmp 2],bj Tryz.prog [] [] (bm Tryz.f296)⟩:=bg
theorem E.jq:bf F.jq ⟨18,[.tmp 4,.tmp 5],bj Tryz.prog [] [] (bm Tryz.f311)⟩:=bg
theorem E.ce:bf F.ce ⟨34,[.tmp 4],bj Tryz.prog [] [(2,(.dp (.take (aq 15 6) (.take (aq 16 15) (.take (b3 16 true (aq 17 1)) (.take (b3 16 true (aq 18 1)) (.take (b3 16 true (bA 19 (.fo (ad 18)))) (.take (b3 16 true (bd 20 0 19)) (.take (b3 16 true (bk 21 20)) (.take (b3 16 true (bA 22 (.fo (ad 21)))) (.take (b3 16 true (bd 23 5 22)) (.take (b3 16 true (bd 24 0 23)) (.take (b3 16 true (bk 25 24)) (.take (b3 16 true (bd 26 0 2)) (.take (b3 16 true (bd 27 1 26)) (.take (b3 16 true (bk 28 27)) (.take (b3 16 true (dq 29 1 25 28)) (.take (b3 16 true (bk 30 29)) (.take (b3 16 true (aq 31 5)) (.bh (b3 16 true (bY 32 (.fn F.t [(ad 17),(ad 30),(ad 31)]))) (.take (qa 33 16 32) (.take (aq 4 33) .done)) .nil))))))))))))))))))))] (bm Tryz.f335)⟩:=bg
theorem E.t:bf F.t ⟨42,[.tmp 6],bj Tryz.prog [] [] (bm Tryz.f336)⟩:=bg
theorem E.DW:bf F.DW ⟨80,[.tmp 4],bj Tryz.prog [3] [(5,(.dp (.take (aq 61 1) (.take (aq 62 1) (.take (bA 63 (.fo (ad 62))) (.take (bd 64 0 63) (.take (bk 65 64) (.take (bA 66 (.fo (ad 65))) (.take (bd 67 5 66) (.take (bd 68 0 67) (.take (bk 69 68) (.take (bd 70 0 2) (.take (bd 71 1 70) (.take (bk 72 71) (.take (dq 73 1 69 72) (.take (bk 74 73) (.take (aq 75 5) (.take (fR .add T.a 76 74 75) (.take (gH .sub T.a 77 76 1) (.take (aq 78 7) (.bh (bY 79 (.fn F.t [(ad 61),(ad 77),(ad 78)])) (.take (aq 4 79) .done) .nil)))))))))))))))))))))] (bm Tryz.f337)⟩:=bg
theorem E.fS:bf F.fS ⟨40,[.tmp 4],bj Tryz.prog [] [(2,(.dp (.take (aq 15 6) (.take (aq 16 15) (.take (b3 16 true (aq 17 1)) (.take (b3 16 true (aq 18 1)) (.take (b3 16 true (bA 19 (.fo (ad 18)))) (.take (b3 16 true (bd 20 0 19)) (.take (b3 16 true (bk 21 20)) (.take (b3 16 true (bA 22 (.fo (ad 21)))) (.take (b3 16 true (bd 23 5 22)) (.take (b3 16 true (bd 24 2 23)) (.take (b3 16 true (bk 25 24)) (.take (b3 16 true (aq 26 1)) (.take (b3 16 true (bA 27 (.fo (ad 26)))) (.take (b3 16 true (bd 28 1 27)) (.take (b3 16 true (bk 29 28)) (.take (b3 16 true (dq 30 1 25 29)) (.take (b3 16 true (bk 31 30)) (.take (b3 16 true (gH .add T.a 32 31 1)) (.take (b3 16 true (bd 33 0 2)) (.take (b3 16 true (bd 34 1 33)) (.take (b3 16 true (bk 35 34)) (.take (b3 16 true (fR .add T.a 36 32 35)) (.take (b3 16 true (aq 37 5)) (.bh (b3 16 true (bY 38 (.fn F.t [(ad 17),(ad 36),(ad 37)]))) (.take (qa 39 16 38) (.take (aq 4 39) .done)) .nil))))))))))))))))))))))))))] (bm Tryz.f338)⟩:=bg
theorem E.uy:bf F.uy ⟨99,[.tmp 4],bj Tryz.prog [3,6] [(2,(.dp (.take (aq 22 1) (.take (bA 23 (.fo (ad 22))) (.take (bd 24 0 23) (.take (bk 25 24) (.take (bA 26 (.fo (ad 25))) (.take (bd 27 0 26) (.take (bd 28 2 27) (.take (bk 29 28) (.take (bd 30 0 2) (.take (bd 31 1 30) (.take (bk 32 31) (.take (dq 33 6 29 32) (.take (dQ 34 (.di 6 (ad 33))) (.alt (bP 7 (.new T.t (.agg #[qO,cu,cu,cu,cu,(.bool false)]))) (.bh (e8 (.gY 6 (ad 7) (ad 34))) .done .nil) .nil)))))))))))))))),(8,(.dv [aq 89 1,bA 90 (.fo (ad 89)),bd 91 2 90,bk 92 91,aq 93 10,aq 94 11,bA 95 (.gJ 1 (ad 92) (some (ad 93)) (some (ad 94)) none),aq 96 12,bP 97 (.raw (.call ⟨.builtin .copy,#[(ad 95),(ad 96)],#[T.b,T.b]⟩) T.a)]))] (bm Tryz.f339)⟩:=bg
theorem E.IK:bf F.IK ⟨26,[.tmp 4,.tmp 5],bj Tryz.prog [] [] (bm Tryz.f340)⟩:=bg
theorem E.IL:bf F.IL ⟨24,[.tmp 2],bj Tryz.prog [] [] (bm Tryz.f341)⟩:=bg
theorem E.ci:bf F.ci ⟨17,[.tmp 4],bj Tryz.prog [] [(3,(.dv [aq 12 5,bA 13 (.gJ 1 (ad 12) (some (cf 1)) none none),aq 14 1,bP 15 (.raw (.call ⟨.builtin .copy,#[(ad 13),(ad 14)],#[T.b,T.b]⟩) T.a)]))] (bm Tryz.f342)⟩:=bg
theorem E.IM:bf F.IM ⟨24,[.tmp 2],bj Tryz.prog [] [(4,(.dp (.take (aq 11 3) (.take (aq 12 0) (.take (aq 13 0) (.take (bA 14 (.mH 1 (ad 13) (cf 0))) (.take (bk 15 14) (.take (bA 16 (.bin .add T.a (cf 1) (ad 15))) (.take (aq 17 0) (.take (bA 18 (.mH 1 (ad 17) (cf 0))) (.take (bk 19 18) (.take (bA 20 (.bin .add T.a (cf 1) (ad 19))) (.take (bA 21 (.gJ 1 (ad 12) (some (cf 1)) (some (ad 16)) (some (ad 20)))) (.bh (bP 22 (.raw (.call ⟨.builtin .copy,#[(ad 11),(ad 21)],#[T.b,T.b]⟩) T.a)) .done .nil))))))))))))))] (bm Tryz.f343)⟩:=bg
theorem E.IN:bf F.IN ⟨15,[.tmp 6],bj Tryz.prog [] [] (bm Tryz.f344)⟩:=bg
theorem E.om:bf F.om ⟨5,[.tmp 2],bj Tryz.prog [] [] (bm Tryz.f345)⟩:=bg
theorem E.DY:bf F.DY ⟨67,[.tmp 4],bj Tryz.prog [1] [(3,(.dv [aq 33 1,bA 34 (.fo (ad 33)),bd 35 2 34,bk 36 35,aq 37 5,aq 38 6,bA 39 (.gJ 1 (ad 36) (some (ad 37)) (some (ad 38)) none),aq 40 7,bP 41 (.raw (.call ⟨.builtin .copy,#[(ad 39),(ad 40)],#[T.b,T.b]⟩) T.a)])),(4,(.dp (.take (aq 42 9) (.take (aq 43 42) (.take (b3 43 true (aq 44 1)) (.take (b3 43 true (aq 45 1)) (.take (b3 43 true (bA 46 (.fo (ad 45)))) (.take (b3 43 true (bd 47 0 46)) (.take (b3 43 true (bk 48 47)) (.take (b3 43 true (bA 49 (.fo (ad 48)))) (.take (b3 43 true (bd 50 5 49)) (.take (b3 43 true (bd 51 2 50)) (.take (b3 43 true (bk 52 51)) (.take (b3 43 true (aq 53 1)) (.take (b3 43 true (bA 54 (.fo (ad 53)))) (.take (b3 43 true (bd 55 1 54)) (.take (b3 43 true (bk 56 55)) (.take (b3 43 true (dq 57 1 52 56)) (.take (b3 43 true (bk 58 57)) (.take (b3 43 true (gH .add T.a 59 58 1)) (.take (b3 43 true (bd 60 0 2)) (.take (b3 43 true (bd 61 2 60)) (.take (b3 43 true (bk 62 61)) (.take (b3 43 true (fR .add T.a 63 59 62)) (.take (b3 43 true (aq 64 8)) (.bh (b3 43 true (bY 65 (.fn F.t [(ad 44),(ad 63),(ad 64)]))) (.take (qa 66 43 65) (.take (aq 4 66) .done)) .nil))))))))))))))))))))))))))] (bm Tryz.f346)⟩:=bg
theorem E.Ee:bf F.Ee ⟨19,[.tmp 2,.tmp 3,.tmp 4],bj Tryz.prog [] [(4,(.dp (.take (aq 11 0) (.take (jP 12 11) (.take (aq 13 5) (.take (bA 14 (.gJ 1 (ad 13) (some (cf 1)) none none)) (.take (aq 16 5) (.take (bA 17 (.mH 1 (ad 16) (cf 0))) (.take (bk 18 17) (.alt (bY 15 (.fn F.ci [(ad 12),(ad 14)])) (.take (aq 2 15) (.take (aq 3 18) (.take (fc 4 (iO true)) .done))) .nil))))))))))] (bm Tryz.f347)⟩:=bg
theorem E.j:bf F.j ⟨42,[.tmp 4], (cO [fc 4 (.const ch)] (cO [aq 8 0,aq 9 1,nZ 10 F.DZ [8,9],aq 5 10] (.seq (cO [aq 11 5,gH .eql T.a 12 11 (-1)] (kb 12 (cO [aq 13 0,aq 4 13] .ret) .skip)) (.seq (cO [aq 14 5,gH .add T.a 15 14 1,aq 6 15] (.cx 0 (.loop (.seq (cO [aq 16 6,aq 17 0,jP 18 17,fR .lss T.a 19 16 18] (kb 19 .skip (.exit 0))) (.seq (.cx 1 (cO [aq 22 0,aq 23 6,dq 24 3 22 23,ig 25 3 24,bP 7 (.new T.k (.agg #[cu,cu,ch])),p9 3 7 25] (cO [aq 26 1,ig 27 3 7,bY 28 (.val (ad 26) [(ad 27)]),bA 29 (.un .not (ad 28))] (kb 29 (cO [aq 30 0,aq 31 5,ig 32 3 7,dq 33 3 30 31,p9 3 33 32] (.dv [aq 34 5,gH .add T.a 35 34 1,aq 5 35])) .skip)))) (.dv [aq 20 6,gH .add T.a 21 20 1,aq 6 21])))))) (cO [aq 36 0,aq 37 5,bA 38 (.gJ 3 (ad 36) (some (ad 37)) none none),e8 (.raw (.call ⟨.builtin .clear,#[(ad 38)],#[T.pG]⟩) T.z)] (cO [aq 39 0,aq 40 5,bA 41 (.gJ 3 (ad 39) none (some (ad 40)) none),aq 4 41] .ret))))))⟩:=bg
theorem E.r5:bf F.r5 ⟨5,[.tmp 2], (cO [fc 2 (.const ch)] (cO [aq 3 0,bY 4 (.fn F.BR [(.const ch),(ad 3)]),aq 2 4] .ret))⟩:=bg
theorem E.ae:bf F.ae ⟨9,[.tmp 4], (cO [fc 4 (iO false)] (cO [aq 5 0,aq 6 1,nZ 7 F.q [5,6],gH .geq T.a 8 7 0,aq 4 8] .ret))⟩:=bg
theorem E.DZ:bf F.DZ ⟨19,[.tmp 4], (cO [fc 4 (cf 0)] (.seq (cO [aq 6 0,jP 7 6,fc 8 (cf 0)] (.cx 0 (.loop (cO [fR .lss T.a 9 8 7] (vr 9 0
 (.seq (.cx 1 (cO [aq 10 8,aq 5 10] (cO [aq 11 1,aq 12 0,aq 13 5,dq 14 3 12 13,ig 15 3 14,bY 16 (.val (ad 11) [(ad 15)])] (kb 16 (cO [aq 17 5,aq 4 17] .ret) .skip)))) (vq T.a 18 8))))))) (cO [fc 4 (cf (-1))] .ret)))⟩:=bg
theorem E.q:bf F.q ⟨19,[.tmp 4], (cO [fc 4 (cf 0)] (.seq (cO [aq 6 0,jP 7 6,fc 8 (cf 0)] (.cx 0 (.loop (cO [fR .lss T.a 9 8 7] (vr 9 0
 (.seq (.cx 1 (cO [aq 10 8,aq 5 10] (cO [aq 11 1,aq 12 0,aq 13 5,dq 14 1 12 13,bk 15 14,bY 16 (.val (ad 11) [(ad 15)])] (kb 16 (cO [aq 17 5,aq 4 17] .ret) .skip)))) (vq T.a 18 8))))))) (cO [fc 4 (cf (-1))] .ret)))⟩:=bg
theorem E.IP:bf F.IP ⟨8,[.tmp 2], (cO [fc 2 (.const ch)] (.seq (cO [aq 3 0,bA 4 (.bin .eql T.b (ad 3) (.const ch))] (kb 4 (cO [fc 2 (.const ch)] .ret) .skip)) (cO [bP 5 (.gb T.a 0 1 [] []),aq 6 0,bP 7 (.app T.b T.a 1 8 (ad 5) (ad 6)),aq 2 7] .ret)))⟩:=bg
theorem E.N1:bf F.N1 ⟨9,[.tmp 4], (cO [fc 4 (iO false)] (cO [aq 5 0,aq 6 1,nZ 7 F.uI [5,6],gH .geq T.a 8 7 0,aq 4 8] .ret))⟩:=bg
theorem E.x:bf F.x ⟨61,[.tmp 2], (cO [fc 2 (.const ch)] (.seq (cO [aq 6 0,jP 7 6,gH .lss T.a 8 7 2] (kb 8 (cO [aq 9 0,aq 2 9] .ret) .skip)) (.seq (cO [fc 3 (cf 1)] (.cx 0 (.loop (.seq (cO [aq 10 3,aq 11 0,jP 12 11,fR .lss T.a 13 10 12] (kb 13 .skip (.exit 0))) (.seq (.cx 1 (.seq (.q6 [aq 16 0,aq 17 3,dq 18 2 16 17,ig 19 2 18,aq 20 0,aq 21 3,gH .sub T.a 22 21 1,dq 23 2 20 22,ig 24 2 23,fR .eql T.h 25 19 24]) (kb 25 (cO [aq 26 0,aq 27 3,bA 28 (.gJ 2 (ad 26) (some (ad 27)) none none),aq 4 28] (.seq (cO [fc 5 (cf 1)] (.cx 2 (.loop (.seq (cO [aq 29 5,aq 30 4,jP 31 30,fR .lss T.a 32 29 31] (kb 32 .skip (.exit 2))) (.seq (.cx 3 (.seq (.q6 [aq 35 4,aq 36 5,dq 37 2 35 36,ig 38 2 37,aq 39 4,aq 40 5,gH .sub T.a 41 40 1,dq 42 2 39 41,ig 43 2 42,fR .neq T.h 44 38 43]) (kb 44 (cO [aq 45 0,aq 46 3,aq 47 4,aq 48 5,dq 49 2 47 48,ig 50 2 49,dq 51 2 45 46,p9 2 51 50] (.dv [aq 52 3,gH .add T.a 53 52 1,aq 3 53])) .skip))) (.dv [aq 33 5,gH .add T.a 34 33 1,aq 5 34])))))) (cO [aq 54 0,aq 55 3,bA 56 (.gJ 2 (ad 54) (some (ad 55)) none none),e8 (.raw (.call ⟨.builtin .clear,#[(ad 56)],#[T.u]⟩) T.z)] (cO [aq 57 0,aq 58 3,bA 59 (.gJ 2 (ad 57) none (some (ad 58)) none),aq 2 59] .ret)))) .skip))) (.dv [aq 14 3,gH .add T.a 15 14 1,aq 3 15])))))) (cO [aq 60 0,aq 2 60] .ret))))⟩:=bg
theorem E.N2:bf F.N2 ⟨9,[.tmp 4], (cO [fc 4 (iO false)] (cO [aq 5 0,aq 6 1,nZ 7 F.go [5,6],gH .geq T.a 8 7 0,aq 4 8] .ret))⟩:=bg
theorem E.uI:bf F.uI ⟨19,[.tmp 4], (cO [fc 4 (cf 0)] (.seq (cO [aq 6 0,jP 7 6,fc 8 (cf 0)] (.cx 0 (.loop (cO [fR .lss T.a 9 8 7] (vr 9 0
 (.seq (.cx 1 (cO [aq 10 8,aq 5 10] (cO [aq 11 1,aq 12 0,aq 13 5,dq 14 6 12 13,ig 15 6 14,bY 16 (.val (ad 11) [(ad 15)])] (kb 16 (cO [aq 17 5,aq 4 17] .ret) .skip)))) (vq T.a 18 8))))))) (cO [fc 4 (cf (-1))] .ret)))⟩:=bg
theorem E.Eb:bf F.Eb ⟨8,[.tmp 2], (cO [fc 2 (.const ch)] (.seq (cO [aq 3 0,bA 4 (.bin .eql T.r3 (ad 3) (.const ch))] (kb 4 (cO [fc 2 (.const ch)] .ret) .skip)) (cO [bP 5 (.gb T.zi 0 2 [] []),aq 6 0,bP 7 (.app T.r3 T.zi 2 24 (ad 5) (ad 6)),aq 2 7] .ret)))⟩:=bg
theorem E.fn:bf F.fn ⟨8,[.tmp 2], (cO [fc 2 (.const ch)] (.seq (cO [aq 3 0,bA 4 (.bin .eql T.sV (ad 3) (.const ch))] (kb 4 (cO [fc 2 (.const ch)] .ret) .skip)) (cO [bP 5 (.gb T.n 0 6 [] []),aq 6 0,bP 7 (.app T.sV T.n 6 56 (ad 5) (ad 6)),aq 2 7] .ret)))⟩:=bg
theorem E.Ec:bf F.Ec ⟨8,[.tmp 2], (cO [fc 2 (.const ch)] (.seq (cO [aq 3 0,bA 4 (.bin .eql T.sW (ad 3) (.const ch))] (kb 4 (cO [fc 2 (.const ch)] .ret) .skip)) (cO [bP 5 (.gb T.t 0 6 [] []),aq 6 0,bP 7 (.app T.sW T.t 6 56 (ad 5) (ad 6)),aq 2 7] .ret)))⟩:=bg
theorem E.go:bf F.go ⟨19,[.tmp 4], (cO [fc 4 (cf 0)] (.seq (cO [aq 6 0,jP 7 6,fc 8 (cf 0)] (.cx 0 (.loop (cO [fR .lss T.a 9 8 7] (vr 9 0
 (.seq (.cx 1 (cO [aq 10 8,aq 5 10] (cO [aq 11 1,aq 12 0,aq 13 5,dq 14 6 12 13,ig 15 6 14,bY 16 (.val (ad 11) [(ad 15)])] (kb 16 (cO [aq 17 5,aq 4 17] .ret) .skip)))) (vq T.a 18 8))))))) (cO [fc 4 (cf (-1))] .ret)))⟩:=bg
theorem E.eZ:bf F.eZ ⟨8,[.tmp 2], (cO [fc 2 (.const ch)] (.seq (cO [aq 3 0,bA 4 (.bin .eql T.u (ad 3) (.const ch))] (kb 4 (cO [fc 2 (.const ch)] .ret) .skip)) (cO [bP 5 (.gb T.h 0 2 [] []),aq 6 0,bP 7 (.app T.u T.h 2 16 (ad 5) (ad 6)),aq 2 7] .ret)))⟩:=bg
end Go.Proofs.R
end
section
namespace ba
open Go Go.RowKit
section
variable{α:Type}{P:Program}{f:FuncId}{t AQ:TypeId}{sz:Nat}{enc:α->List Value}
def Nh(cD t:F_)(sz b:Nat):mW:=⟨8,[.tmp 2],
 (.seq (.dv [fc 2 (.const (.slice none 0 0))])
 (.seq (.seq (.dv [aq 3 0,bA 4 (.bin .eql cD (ad 3) (.const (.slice none 0 0)))])
 (.cond (ad 4) (.seq (.dv [fc 2 (.const (.slice none 0 0))])
 .ret)
 .skip))
 (.seq (.dv [bP 5 (.gb t 0 sz [] []),aq 6 0,bP 7 (.app cD t sz b (ad 5) (ad 6)),aq 2 7])
 .ret)))⟩
theorem VY{R:A_->Addr->α->Prop}{C:A_->C_ B_->α->Prop}[Rel R C sz]{cD:F_}{b:Nat}(hm:P.follows .mixedOrders=true)(dW:lH P f=some (Nh cD t sz b))(Fp:P.underlying cD=some (.slice t))
  (v:B_)(xs:C_ α)(w:A_)(h:bn sz R w v xs)(ao:xs.length*b<=140737488355328) :
  aY P f #[v] w fun b0 w'=>(∃cq:C_ (fj sz),cq.length=xs.length/\pw t sz w.heap.size w' b0 cq/\∀i (h1:i<cq.length) (I:i<xs.length),C w' cq[i].1 xs[i])/\Ext w w':=by
 obtain⟨bR,c1,rfl,bw⟩:=h.form;refine _h hm dW (args:=[_]) (Nat.le_of_ble_eq_true rfl) ?_;dsimp only[Nh,ad,cf,iO,bA,dQ,bP,bY,e8,b3,aq,fc,bd,bk,dq,ys,jP];refine aa ?_;refine AB4 Fp ?_;refine aa ?_;refine N_ (fun g=>?_) (fun g=>?_)
 .refine aa ?_
  have:xs=[]:=by
   obtain⟨aQ,cap,e,I,ab,aH,a8⟩:=h.ex;injection e with bB aJ a7
   subst bB;by_cases ag:xs=[]
   .exact ag
   .have:=aH ag
    cases bR<;>simp_all
  subst this;exact⟨⟨[],rfl,aS.nil _ _ _ _ _,fun i h=>by cases h⟩,Ext.refl _⟩
 obtain⟨a,rfl⟩:∃a,bR=some a:=by cases bR with | none=>cases g | some a=>exact⟨a,rfl⟩
 obtain⟨cq,aC,fx,bF⟩:=h.cells;refine aa ?_;intro w1 bw cM ai al;refine aa ?_;have aO:pw t sz w.heap.size w1 (.slice (some ⟨bw,0,none⟩) 0 0) []:=aS.empty cM al;refine _X (ys:=cq) aO kg (bn.flat kg (fun _ _ h=>h) (bn.ext Flat.ext ai fx)) (by rw[aC]) tj (by rw[AI1,AE8,aC];exact ao) (by have:=fx.len;have e:=h.len;rw[AI1,aC];omega) (by exact ai.size) fun b0 w' nh aK _=>?_;obtain⟨aQ,cap,rfl,_⟩:=nh.form;have aj:Ext w w':=ai.grown aK fun k hk=>by injection hk with hk;subst hk;exact cM
 refine aa ?_;exact⟨⟨cq,aC,by simpa using nh,fun i h1 I=>Rel.ext (R:=R) aj (bF i h1 I)⟩,aj⟩
theorem ey.clone{R:A_->Addr->α->Prop}{C:A_->C_ B_->α->Prop}[Rel R C sz]{w w':A_}{v:B_}{xs:C_ α}{cq:C_ (fj sz)}(aC:cq.length=xs.length)(aO:pw t sz w.heap.size w' v cq)
  (ay:∀{w w':A_} {cs x},C w cs x->C w' cs x)(an:∀i (h1:i<cq.length) (I:i<xs.length),C w' cq[i].1 xs[i]):ey w (fun w=>bn sz R w v xs) w':=fun aD m=>by
 have dA:=aS.mod aO m fun k hk a=>by have:=(aO.lt k hk).1;omega
 exact bn.Gd aC (dA.jD kg) fun i h1 I=>ay (an i h1 I)
theorem HT{R:A_->Addr->α->Prop}{C:A_->C_ B_->α->Prop}[Rel R C sz]{cD:F_}{b:Nat}(hm:P.follows .mixedOrders=true)(dW:lH P f=some (Nh cD t sz b))(Fp:P.underlying cD=some (.slice t))
  (ay:∀{w w':A_} {cs x},C w cs x->C w' cs x)(v:B_)(xs:C_ α)(w:A_)(h:bn sz R w v xs)(ao:xs.length*b<=140737488355328) :
  aY P f #[v] w fun b0 w'=>(∃aQ c,b0 = .slice aQ xs.length c)/\ey w (fun w=>bn sz R w b0 xs) w'/\Ext w w' :=
 (VY hm dW Fp v xs w h ao).mono fun b0 w' ⟨⟨cq,aC,aO,an⟩,he⟩=>by
  have az:=ey.clone (R:=R) aC aO ay an;obtain⟨aQ,c,e,_⟩:=az.here.form;exact⟨⟨aQ,c,e⟩,az,he⟩
def Qk(AQ:F_)(sz:Nat):mW:=⟨19,[.tmp 4],
 (.seq (.dv [fc 4 (cf 0)])
 (.seq (.seq (.dv [aq 6 0,jP 7 6,fc 8 (cf 0)])
 (.cx 0 (.loop (.seq (.dv [bA 9 (.bin .lss AQ (ad 8) (ad 7))])
 (.seq (.cond (ad 9) .skip
 (.exit 0))
 (.seq (.cx 1 (.seq (.dv [aq 10 8,aq 5 10])
 (.seq (.dv [aq 11 1,aq 12 0,aq 13 5,dq 14 sz 12 13,dQ 15 (.di sz (ad 14)),bY 16 (.val (ad 11) [(ad 15)])])
 (.cond (ad 16) (.seq (.dv [aq 17 5,aq 4 17])
 .ret)
 .skip))))
 (.dv [bA 18 (.bin .add AQ (ad 8) (cf 1)),aq 8 18])))))))
 (.seq (.dv [fc 4 (cf (-1))])
 .ret)))⟩
def l4(p:α->Bool):C_ α->Nat->Int
 | [],_ => -1
 | x :: r,i=>if p x then i else l4 p r (i+1)
theorem NU{p:α->Bool}{l:C_ α}{k:Nat}(h:k<l.length):l4 p (l.drop k) k=if p l[k] then (k:Int) else l4 p (l.drop (k+1)) (k+1):=by
 rw[AF2 h];rfl
theorem Is{p:α->Bool}:∀{l:C_ α} {i:Nat},(0<=l4 p l i↔l.any p=true)
 | [],_=>by simp[l4]
 | x :: r,i=>by
  simp only[l4,List.any_cons];by_cases h:p x=true
  .rw[if_pos h];simp[h]
  .rw[if_neg h,Is];simp[h]
theorem Ql{R:A_->Addr->α->Prop}{C:A_->C_ B_->α->Prop}[Rel R C sz](hm:P.follows .mixedOrders=true)(dW:lH P f=some (Qk AQ sz))
  (v:B_)(xs:C_ α)(w:A_)(h:bn sz R w v xs)(g:E_)(aK:okF P g=true)(first cap:C_ B_)(p:α->Bool)
  (au:∀(i:Nat) (U:i<xs.length) (cs:C_ B_) (w':A_),Ext w w'->C w' cs xs[i]->aY P g (first++[Value.agg cs.toArray]++cap).toArray w' fun v bO=>v = .bool (p xs[i])/\Ext w' bO) :
  aY P f #[v,.func (.func g) first.toArray cap.toArray] w fun b0 w'=>b0 = .I (l4 p xs 0)/\Ext w w':=by
 obtain⟨bR,c1,rfl,bw⟩:=h.form;refine _h hm dW (args:=[_,_]) (Nat.le_of_ble_eq_true rfl) ?_;dsimp only[Qk,ad,cf,iO,bA,dQ,bP,bY,e8,b3,aq,fc,bd,bk,dq,ys,jP];refine aa ?_;refine L_ 8 xs.length [0,1,7] (fun _=>[]) () (fun k _ w'=>Ext w w'/\l4 p xs 0=l4 p (xs.drop k) k) bc bc ⟨Ext.refl _,Bs⟩ ?_;rintro k _ S aD hk ⟨aj,aZ⟩;refine aa ?_;apply I_<;>intro g1
 .have a1:k<xs.length:=AK
  obtain⟨a,rfl⟩:=h.addr;obtain⟨cs,fx,bF⟩:=Rel.out (h.at k a1);have hlen:=Rel.len (R:=R) bF;rw[NU a1] at aZ;refine aa ?_;refine Z_ (fx.ext aj) hlen ?_;refine aa ?_;refine V_ aK (au k a1 cs aD aj (Rel.ext (R:=R) aj bF)) ?_;rintro _ aN ⟨rfl,ah⟩;refine aa ?_;refine N_ (fun g2=>?_) (fun g2=>?_)
  .refine aa ?_;exact⟨by rw[aZ,if_pos g2],aj.trans ah⟩
  .refine aa ?_;exact⟨a1,aL,(),trivial,aj.trans ah,by rw[aZ,if_neg (by simp[g2])]⟩
 .refine aa ?_;exact⟨by rw[aZ,AF0 AK];rfl,aj⟩
def Wb(AQ:F_)(g:E_):mW:=⟨9,[.tmp 4],
 (.seq (.dv [fc 4 (iO false)])
 (.seq (.dv [aq 5 0,aq 6 1,bY 7 (.fn g [(ad 5),(ad 6)]),bA 8 (.bin .geq AQ (ad 7) (cf 0)),aq 4 8])
 .ret))⟩
theorem Wc{R:A_->Addr->α->Prop}{C:A_->C_ B_->α->Prop}[Rel R C sz]{uG:E_}{are:F_}(hm:P.follows .mixedOrders=true)(IX:lH P uG=some (Wb are f))(dW:lH P f=some (Qk AQ sz))
  (v:B_)(xs:C_ α)(w:A_)(h:bn sz R w v xs)(g:E_)(aK:okF P g=true)(first cap:C_ B_)(p:α->Bool)
  (au:∀(i:Nat) (U:i<xs.length) (cs:C_ B_) (w':A_),Ext w w'->C w' cs xs[i]->aY P g (first++[Value.agg cs.toArray]++cap).toArray w' fun v bO=>v = .bool (p xs[i])/\Ext w' bO) :
  aY P uG #[v,.func (.func g) first.toArray cap.toArray] w fun b0 w'=>b0 = .bool (xs.any p)/\Ext w w':=by
 refine _h hm IX (args:=[_,_]) (Nat.le_of_ble_eq_true rfl) ?_;dsimp only[Wb,ad,cf,iO,bA,dQ,bP,bY,e8,b3,aq,fc,bd,bk,dq,ys,jP];refine aa ?_;refine J_ (Ql hm dW v xs w h g aK first cap p au) ?_;rintro _ aD ⟨rfl,aj⟩;refine aa ?_;refine⟨?_,aj⟩;congr 1;rw[AG4,decide_eq_true_eq];exact Is
end
end ba
end
section
namespace ba
open Go Go.RowKit
structure zd(w:World)(a:Addr)(n:Int):Prop where
 cells:fi w a [Value.int .i64 n]
 ok:o.ee n
theorem zd.ext(w w':A_)(a:Addr)(n:Int)(he:Ext w w')(h:zd w a n):zd w' a n:=⟨h.cells.ext he,h.ok⟩
instance aui:oV zd (fun n=>[Value.int .i64 n]):=⟨fun _ _ _ h=>h.cells⟩
abbrev oX(w:A_)(v:B_)(l:C_ Int):Prop:=bn 1 zd w v l
theorem oX.ext{w w':A_}{v:B_}{l:C_ Int}(he:Ext w w')(h:oX w v l):oX w' v l:=bn.ext zd.ext he h
theorem oX.ok{w:A_}{v:B_}{l:C_ Int}(h:oX w v l):∀z∈l,o.ee z:=by
 intro z bI;obtain⟨i,U,rfl⟩:=List.mem_iff_getElem.1 bI;obtain⟨aQ,cap,rfl,_⟩:=h.form;obtain⟨a,rfl⟩:=h.addr;exact(h.at i U).ok
def Bj(w:A_)(a:Addr)(l:C_ Int):Prop := ∃v,w.cell? a=some v/\oX w v l
theorem Bj.ext(w w':A_)(a:Addr)(l:C_ Int)(he:Ext w w')(h:Bj w a l):Bj w' a l:=let ⟨v,h1,I⟩:=h; ⟨v,he.cell h1,I.ext he⟩
abbrev vF(w:A_)(v:B_)(l:C_ (C_ Int)):Prop:=bn 1 Bj w v l
theorem vF.ext{w w':A_}{v:B_}{l:C_ (C_ Int)}(he:Ext w w')(h:vF w v l):vF w' v l:=bn.ext Bj.ext he h
end ba
namespace o
open Go Go.RowKit ba
structure qd(w:World)(cs:List Value)(v:Env):Prop where
 ex:∃v0 v1 v2 v3,cs=[v0,v1,v2,v3,.int .i64 v.self]/\vF w v0 v.vars/\oX w v1 v.lens/\oX w v2 v.locals/\vF w v3 v.at_/\ee v.self
theorem qd.ext{w w':A_}{cs:C_ B_}{v:Env}(he:Ext w w')(h:qd w cs v):qd w' cs v :=
 let ⟨v0,v1,v2,v3,e,af,h1,I,ab,aH⟩:=h.ex
 ⟨v0,v1,v2,v3,e,af.ext he,h1.ext he,I.ext he,ab.ext he,aH⟩
theorem qd.form{w:A_}{cs:C_ B_}{v:Env}(h:qd w cs v):∃a0 bx db c1 a2 c2 a3 bu,cs=[.slice a0 v.vars.length bx,.slice db v.lens.length c1,.slice a2 v.locals.length c2,.slice a3 v.at_.length bu,.I v.self] /\
  vF w (.slice a0 v.vars.length bx) v.vars/\oX w (.slice db v.lens.length c1) v.lens/\oX w (.slice a2 v.locals.length c2) v.locals/\vF w (.slice a3 v.at_.length bu) v.at_/\ee v.self /\
  v.vars.length<=9223372036854775807/\v.lens.length<=9223372036854775807/\v.locals.length<=9223372036854775807/\v.at_.length<=9223372036854775807:=by
 obtain⟨v0,v1,v2,v3,rfl,af,h1,I,ab,aH⟩:=h.ex;obtain⟨a0,bx,rfl,e2⟩:=af.form;obtain⟨db,c1,rfl,eE⟩:=h1.form;obtain⟨a2,c2,rfl,eJ⟩:=I.form;obtain⟨a3,bu,rfl,er⟩:=ab.form;exact⟨a0,bx,db,c1,a2,c2,a3,bu,rfl,af,h1,I,ab,aH,e2,eE,eJ,er⟩
end o
end
section
namespace ba
open Go Go.RowKit
theorem bn.one{α:Type}{sz:Nat}{R:A_->Addr->α->Prop}{w:A_}{v:B_}{xs:C_ α}(h:bn sz R w v xs):v.oneCell'=true:=by
 obtain⟨aQ,c,rfl,_⟩:=h.form;rfl
def adF(_:A_)(cs:C_ B_)(n:Int):Prop:=cs=[Value.int .i64 n]/\o.ee n
instance aut:Rel zd adF 1 where
 out h:=⟨_,h.cells,rfl,h.ok⟩
 oG h k:=by obtain⟨rfl,k⟩:=k;exact⟨h,k⟩
 len h:=by rw[h.1];rfl
 one h:=by rw[h.1];simp[Value.oneCell']
 ext _ h:=h
def adU(w:A_)(cs:C_ B_)(l:C_ Int):Prop := ∃v,cs=[v]/\oX w v l
instance auB:Rel Bj adU 1 where
 out h:=by
  obtain⟨v,h1,I⟩:=h;exact⟨[v],fun j u aF=>by cases j with | zero=>simp at aF;subst aF;rw[add_zero];exact h1 | succ j=>simp at aF,v,rfl,I⟩
 oG h k:=by
  obtain⟨v,rfl,k⟩:=k
  have:=h 0 v rfl
  rw[add_zero] at this;exact⟨v,this,k⟩
 len h:=by obtain⟨v,rfl,_⟩:=h;rfl
 one h:=by obtain⟨v,rfl,h⟩:=h;simpa using h.one
 ext e h:=let ⟨v,h1,I⟩:=h; ⟨v,h1,I.ext e⟩
end ba
namespace o
open Go Go.RowKit ba
def adV(_:A_)(cs:C_ B_)(x:Scalar):Prop:=cs=x.enc/\jN x.name
def adW(_:A_)(cs:C_ B_)(x:Var):Prop:=cs=x.enc/\jN x.name
def adw(_:A_)(cs:C_ B_)(x:dB):Prop:=cs=x.enc/\jN x.name
def adK(_:A_)(cs:C_ B_)(x:Node):Prop:=cs=x.enc/\x.ok
instance auC:Rel kd adV 2 where
 out h:=⟨_,h.cells,rfl,h.ok⟩
 oG h k:=by obtain⟨rfl,k⟩:=k;exact⟨h,k⟩
 len h:=by rw[h.1];rfl
 one h:=by rw[h.1];simp[Scalar.enc,Value.oneCell']
 ext _ h:=h
instance auD:Rel qX adW 6 where
 out h:=⟨_,h.cells,rfl,h.ok⟩
 oG h k:=by obtain⟨rfl,k⟩:=k;exact⟨h,k⟩
 len h:=by rw[h.1];rfl
 one h:=by rw[h.1];simp[Var.enc,Value.oneCell']
 ext _ h:=h
instance auq:Rel qW adw 6 where
 out h:=⟨_,h.cells,rfl,h.ok⟩
 oG h k:=by obtain⟨rfl,k⟩:=k;exact⟨h,k⟩
 len h:=by rw[h.1];rfl
 one h:=by rw[h.1];simp[dB.enc,Value.oneCell']
 ext _ h:=h
instance auv:Rel ze adK 2 where
 out h:=⟨_,h.cells,rfl,h.ok⟩
 oG h k:=by obtain⟨rfl,k⟩:=k;exact⟨h,k⟩
 len h:=by rw[h.1];rfl
 one h:=by rw[h.1];simp[Node.enc,Value.oneCell']
 ext _ h:=h
def C8(w:A_)(cs:C_ B_)(x:Act):Prop := ∃bL b2,cs=x.enc bL b2/\eS w bL x.index/\eS w b2 x.value
theorem C8.ext{w w':A_}{cs:C_ B_}{c:Act}(he:Ext w w')(h:C8 w cs c):C8 w' cs c:=let ⟨bL,b2,h1,I,ab⟩:=h; ⟨bL,b2,h1,I.ext he,ab.ext he⟩
instance auo:Rel za C8 5 where
 out h:=let ⟨bL,b2,h1,I,ab⟩:=h; ⟨_,h1,bL,b2,rfl,I,ab⟩
 oG h k:=by obtain⟨bL,b2,rfl,I,ab⟩:=k;exact⟨bL,b2,h,I,ab⟩
 len h:=by obtain⟨bL,b2,rfl,I,ab⟩:=h;rfl
 one h:=by obtain⟨bL,b2,rfl,I,ab⟩:=h;simp[Act.enc,I.one,ab.one];simp[Value.oneCell']
 ext e h:=h.ext e
instance aur:Rel zb A4 6 where
 out h:=let ⟨af,bL,b2,h1,I,ab⟩:=h; ⟨_,h1,af,bL,b2,rfl,I,ab⟩
 oG h k:=by obtain⟨af,bL,b2,rfl,I,ab⟩:=k;exact⟨af,bL,b2,h,I,ab⟩
 len h:=by obtain⟨af,bL,b2,rfl,I,ab⟩:=h;rfl
 one h:=by obtain⟨af,bL,b2,rfl,I,ab⟩:=h;simp[ea.enc,I.one,ab.one];simp[Value.oneCell']
 ext e h:=h.ext e
instance auz:Rel Bh xK 5 where
 out h:=let ⟨af,bL,b2,h1,I,ab⟩:=h; ⟨_,h1,af,bL,b2,rfl,I,ab⟩
 oG h k:=by obtain⟨af,bL,b2,rfl,I,ab⟩:=k;exact⟨af,bL,b2,h,I,ab⟩
 len h:=by obtain⟨af,bL,b2,rfl,I,ab⟩:=h;rfl
 one h:=by obtain⟨af,bL,b2,rfl,I,ab⟩:=h;simp[dJ.enc,I.one,ab.one];simp[Value.oneCell']
 ext e h:=h.ext e
def Hw(w:A_)(cs:C_ B_)(x:lY):Prop:=jN x.name/\∃gZ,cs=x.enc gZ/\eS w gZ x.expr
theorem Hw.ext{w w':A_}{cs:C_ B_}{c:lY}(he:Ext w w')(h:Hw w cs c):Hw w' cs c:=let ⟨af,bL,h1,I⟩:=h; ⟨af,bL,h1,I.ext he⟩
instance auA:Rel Bi Hw 2 where
 out h:=let ⟨af,bL,h1,I⟩:=h; ⟨_,h1,af,bL,rfl,I⟩
 oG h k:=by obtain⟨af,bL,rfl,I⟩:=k;exact⟨af,bL,h,I⟩
 len h:=by obtain⟨af,bL,rfl,I⟩:=h;rfl
 one h:=by obtain⟨af,bL,rfl,I⟩:=h;simp[lY.enc,I.one];simp[Value.oneCell']
 ext e h:=h.ext e
def acq:C_ jS:=[.i,.i]
end o
end
section
namespace ba
theorem aT{A B:Prop}(k:B)(h:xG B->A:=by
 intro q;simp -dsimp only[c7,cB,Nat.reduceAdd,Nat.reduceEqDiff,reduceIte,reduceCtorEq,df];exact q.out):A:=h ⟨k⟩
end ba
end
section
namespace Go.Proofs.R
open Go Go.RowKit ba
abbrev adS:A_->Addr->Int->Prop:=Flat fun n=>[Value.int .i64 n]
abbrev Ints(w:A_)(v:B_)(l:C_ Int):Prop:=bn 1 adS w v l
theorem Ints.ext{w w':A_}{v:B_}{l:C_ Int}(he:Ext w w')(h:Ints w v l):Ints w' v l:=bn.ext Flat.ext he h
theorem Ints.cx{w:A_}{b n:Nat}{e:F_}{f:Nat×Nat}{xs:C_ Int}(ao:w.heap[b]? = some (.cells (xs.flatMap fun n=>[Value.int .i64 n]).toArray e f))(az:n=xs.length)(hm:xs.length<=maxLen):Ints w (.slice (some ⟨b,0,none⟩) n n) xs :=
 bn.cx (enc:=fun n=>[Value.int .i64 n]) (fun _=>rfl) ao az hm fun _ _ _ h=>h
abbrev _root_.DD:=aY Tryz.prog
theorem ada(v:B_)(l:C_ Int)(w:A_)(aC:Ints w v l):DD F.ge #[v] w fun v w'=>v = .bool (l.all o.within)/\w'=w:=by
 obtain⟨aQ,cap,rfl,hlen⟩:=aC.form;refine br E.ge ?_;refine aT ?_;refine _i 7 l.length (fun k S w'=>w'=w/\(l.take k).all o.within=true) (by simp -dsimp only[c7,cB,Nat.reduceAdd,Nat.reduceEqDiff,reduceIte,reduceCtorEq,df]) ⟨rfl,Bs⟩ ?_;rintro k S w' cc hk cj ⟨rfl,dI⟩;have af:=cc 0 rfl;have a8:=cc 5 rfl;have bE:=cc 6 rfl;simp only[bN,Nat.reduceAdd,Nat.reduceEqDiff,reduceIte,kh,nG] at af a8 bE;clear cc;refine ck (i_ af (i_ a8 (i_ bE cj))) ?_;refine I_ (fun h1=>?_) (fun h1=>?_);rotate_left
 .refine ck (i_ af (i_ a8 (i_ bE cj))) ?_;rw[LJ AK] at dI;rw[dI];exact cd
 have a1:k<l.length:=AK
 obtain⟨a,rfl⟩:=aC.addr;have yr:l.take (k+1)=l.take k++[l[k]]:=Ly a1;have rq:l.all o.within=((l.take (k+1)).all o.within&&(l.drop (k+1)).all o.within):=by rw[<-AJ0,AH3]
 rw[yr,AJ0] at rq
 (repeat' first
 | assumption
 | exact Ext.refl _
 | refine Ext.trans ?_ Bz
 | refine Q_ AK ?_
 | refine _L Bz ?_ rfl ?_
 | refine _C Bz ?_ rfl ?_
 | refine _Q Bz ?_ AK rfl ?_
 | refine _R Bz ?_ AK rfl ?_
 | refine _S Bz ?_ AK rfl ?_
 | refine _V AK ?_
 | refine _T (by first | assumption | omega) ?_
 | refine _U (by first | assumption | omega) ?_
 | refine _F Bz ?_
 | refine _G Bz ?_
 | simp -dsimp only[c7,cB,Nat.reduceAdd,Nat.reduceEqDiff,reduceIte,reduceCtorEq,df,a8,cj])
 generalize l[k]=z at *;refine I_ (fun I=>?_) (fun I=>?_)
 .refine aT ?_;rw[rq];refine⟨?_,trivial⟩
  have:o.within z=false:=by simp[o.within];omega
  simp[this]
 refine aT ?_;refine I_ (fun ab=>?_) (fun ab=>?_)
 .refine aT ?_;rw[rq];refine⟨?_,trivial⟩
  have:o.within z=false:=by simp[o.within];omega
  simp[this]
 refine ck cj ?_;refine Q_ AK ?_;refine aT ?_;refine⟨a1,trivial,trivial,?_⟩;rw[yr];simp[dI,o.within];omega
def He(f:E_)(g:Int->Int->Int):Prop := ∀a b w,(o.within a&&o.within b)=true->aY Tryz.prog f #[.int .i64 a,.int .i64 b] w fun v w'=>v = .int .i64 (g a b)/\w'=w
theorem ad6:He F.pK (· + ·):=by
 intro a b w h;simp[o.within] at h;refine br E.pK ?_;refine aA ?_;exact cd
theorem aq5:He F.lb (· - ·):=by
 intro a b w h;simp[o.within] at h;refine br E.lb ?_;refine aA ?_;exact cd
theorem aaG{a b:Int}(aV : -1048576<=a/\a<=1048576)(ao : -1048576<=b/\b<=1048576) : -1099511627776<=a*b/\a*b<=1099511627776:=by
 have h:(a*b).natAbs<=1048576*1048576:=by
  rw[Int.natAbs_mul];exact Nat.mul_le_mul AK AK
 omega
theorem am4:He F.ta (· * ·):=by
 intro a b w h;simp[o.within] at h;have hm:=aaG h.1 h.2;refine br E.ta ?_;refine aA ?_;exact cd
theorem R0(f:E_)(g:Int->Int->Int)(ay:okF Tryz.prog f=true)(aK:He f g)(a b:Int)(w:A_) :
  DD F.f7 #[.agg #[.func (.func f) #[] #[]],.I a,.I b] w fun v w'=>v = .tuple #[.I (o.tell g a b).1,.bool (o.tell g a b).2]/\Ext w w':=by
 refine br E.f7 ?_;refine aT ?_;refine O_ fun w1 p au ai al=>?_;refine aT ?_;refine Y_ (cs:=[a,b].flatMap fun n=>[Value.int .i64 n]) (by simp[List.range,List.range.loop,fa,lay,de,bN,kh,Value.cells]) fun aD q ar aj av=>?_;refine aT ?_;refine J_ (ada _ [a,b] aD (Ints.cx av rfl (by simp[maxLen]))) ?_;rintro _ _ ⟨rfl,rfl⟩;refine aT ?_;refine N_ (fun h1=>?_) (fun h1=>?_);rotate_left
 .refine aT ?_
  have:(o.within a&&o.within b)=false:=by simpa using h1
  refine⟨?_,fK⟩;simp[o.tell,this]
 have Ey:(o.within a&&o.within b)=true:=by simpa using h1
 refine aA ?_;refine V_ (first:=[]) (cap:=[]) ay (aK a b _ Ey) ?_;rintro _ _ ⟨rfl,rfl⟩;refine aT ?_;refine Y_ (cs:=[g a b].flatMap fun n=>[Value.int .i64 n]) (by simp[List.range,List.range.loop,fa,lay,de,bN,kh,Value.cells]) fun aN ef atY ah bl=>?_;refine aT ?_;refine J_ (ada _ [g a b] aN (Ints.cx bl rfl (by simp[maxLen]))) ?_;rintro _ _ ⟨rfl,rfl⟩;refine aT ?_;refine N_ (fun I=>?_) (fun I=>?_)
 .refine aT ?_
  have:o.within (g a b)=true:=by simpa using I
  refine⟨?_,fK⟩;simp[o.tell,Ey,this]
 .refine aT ?_
  have:o.within (g a b)=false:=by simpa using I
  refine⟨?_,fK⟩;simp[o.tell,this]
def uh(f:E_)(g:Int->Int->Int×Bool):Prop := ∀a b w,aY Tryz.prog f #[.int .i64 a,.int .i64 b] w fun v w'=>v = .tuple #[.int .i64 (g a b).1,.bool (g a b).2]/\Ext w w'
theorem MK:uh F.sY (o.tell (· + ·)):=by
 intro a b w;refine br E.sY ?_;refine aT ?_;refine W_ (cs:=[.func (.func F.pK) #[] #[]]) (by simp[fa,lay,v8,Value.cells]) ?_;refine aT ?_;refine J_ (R0 _ _ Ct ad6 a b w) ?_;rintro _ w1 ⟨rfl,he⟩;refine aT ?_;exact cd
theorem acK:uh F.s3 (o.tell (· - ·)):=by
 intro a b w;refine br E.s3 ?_;refine aT ?_;refine W_ (cs:=[.func (.func F.lb) #[] #[]]) (by simp[fa,lay,v8,Value.cells]) ?_;refine aT ?_;refine J_ (R0 _ _ Ct aq5 a b w) ?_;rintro _ w1 ⟨rfl,he⟩;refine aT ?_;exact cd
theorem am5:uh F.ap (o.tell (· * ·)):=by
 intro a b w;refine br E.ap ?_;refine aT ?_;refine W_ (cs:=[.func (.func F.ta) #[] #[]]) (by simp[fa,lay,v8,Value.cells]) ?_;refine aT ?_;refine J_ (R0 _ _ Ct am4 a b w) ?_;rintro _ w1 ⟨rfl,he⟩;refine aT ?_;exact cd
theorem VF(b:Bool)(w:A_):DD F.f5 #[.bool b] w fun v w'=>v = .I (o.bit b)/\w'=w:=by
 refine br E.f5 ?_;refine aT ?_;refine N_ (fun h=>?_) (fun h=>?_)
 all_goals
  subst h;refine aT ?_;exact cd
theorem anP:uh F.am fun a _=>(o.bit (decide (a=0)),true):=by
 intro a b w;refine br E.am ?_;refine aT ?_;refine J_ (VF _ w) ?_;rintro _ _ ⟨rfl,rfl⟩;refine aT ?_;exact cd
theorem anQ:uh F.s0 fun a _=>o.tell (· - ·) 0 a:=by
 intro a b w;refine br E.s0 ?_;refine aT ?_;refine J_ (acK 0 a w) ?_;rintro _ w1 ⟨rfl,he⟩;refine aT ?_;exact cd
def vz(f:E_)(p:Int->Int->Bool):Prop := ∀a b w,aY Tryz.prog f #[.int .i64 a,.int .i64 b] w fun v w'=>v = .bool (p a b)/\w'=w
theorem anR:vz F.uv fun a b=>decide (a=b):=by
 intro a b w;refine br E.uv ?_;refine aT ?_;exact cd
theorem anS:vz F.jG fun a b => !decide (a=b):=by
 intro a b w;refine br E.jG ?_;refine aT ?_;exact cd
theorem anT:vz F.as fun a b=>decide (a<b):=by
 intro a b w;refine br E.as ?_;refine aT ?_;exact cd
theorem anU:vz F.vL fun a b=>decide (a<=b):=by
 intro a b w;refine br E.vL ?_;refine aT ?_;exact cd
theorem anV:vz F.pH fun a b => !decide (a=0) && !decide (b=0):=by
 intro a b w;refine br E.pH ?_;refine aT ?_;refine I_ (fun h=>?_) (fun h=>?_)
 all_goals
  refine aT ?_;exact⟨by simp[h],trivial⟩
theorem anW:vz F.vM fun a b => !decide (a=0) || !decide (b=0):=by
 intro a b w;refine br E.vM ?_;refine aT ?_;refine I_ (fun h=>?_) (fun h=>?_)
 all_goals
  refine aT ?_;exact⟨by simp[h],trivial⟩
end Go.Proofs.R
end
section
namespace Go.Proofs.R
open Go Go.RowKit ba
def xA(w:A_)(v:B_)(g:Int->Int->Int×Bool):Prop :=
 (∃f,v = .func (.func f) #[] #[]/\okF Tryz.prog f=true/\uh f g) \/
 (∃c f p,v = .func (.func F.s) #[] #[.pointer (some ⟨c,0,none⟩)]/\w.heap[c]? = some (.cells #[.func (.func f) #[] #[]] T.ac)/\okF Tryz.prog f=true/\vz f p/\g=fun a b=>(o.bit (p a b),true))
theorem aqd(c f:Nat)(p:Int->Int->Bool)(a b:Int)(w:A_)(an:w.heap[c]? = some (.cells #[.func (.func f) #[] #[]] T.ac))(ay:okF Tryz.prog f=true)(au:vz f p) :
  DD F.s #[.I a,.I b,.pointer (some ⟨c,0,none⟩)] w fun v w'=>v = .tuple #[.I (o.bit (p a b)),.bool true]/\Ext w w':=by
 refine br E.s ?_;refine aA ?_;refine V_ (first:=[]) (cap:=[]) ay (au a b w) ?_;rintro _ _ ⟨rfl,rfl⟩;refine aT ?_;refine J_ (VF _ _) ?_;rintro _ _ ⟨rfl,rfl⟩;refine aT ?_;exact cd
theorem AB8{v:B_}{g:Int->Int->Int×Bool}{a b:Int}{w:A_}{cT:B_->A_->Prop}{t}(h:xA w v g)(hk:∀w',Ext w w'->cT (.tuple #[.I (g a b).1,.bool (g a b).2]) w'):vw Tryz.prog v [.I a,.I b] w cT t:=by
 rcases h with ⟨f,rfl,ay,h⟩ | ⟨c,f,p,rfl,an,ay,h,rfl⟩
 .exact _e (first:=[]) (cap:=[]) ay (h a b w) fun v w' ⟨h1,I⟩=>by subst h1;exact hk w' I
 .exact _e (first:=[]) (cap:=[_]) Ct (aqd c f p a b w an ay h) fun v w' ⟨h1,I⟩=>by subst h1;exact hk w' I
def Dq(w:A_)(ae:o.pv)(v:B_):Prop := ∃u,v = .agg #[.int .i64 ae.parts,.int .i64 ae.jO,.int .i64 ae.makes,u]/\xA w u ae.zx
def qT(w:A_)(m:B_):Prop := ∃r es c l,m = .map (some r)/\w.heap[r]? = some (.map es c)/\iQ (Value.int .i64) es.toList l /\
 ∀x:Int,match o.hj x with
  | some ae => ∃p,l.find? (fun p=>decide (x=p.1))=some p/\Dq w ae p.2
  | none=>l.find? (fun p=>decide (x=p.1))=none
theorem CQ(jO:Int)(f:Nat)(w:A_):DD F.i #[.I jO,.func (.func f) #[] #[]] w
  fun v w'=>(∃c,v = .agg #[.I 2,.I jO,.I 1,.func (.func F.s) #[] #[.pointer (some ⟨c,0,none⟩)]]/\w'.heap[c]? = some (.cells #[.func (.func f) #[] #[]] T.ac))/\Ext w w':=by
 refine br E.i ?_;refine aT ?_;refine O_ fun w1 c an ai al=>?_;refine aT ?_;refine O_ fun aD b ao aj av=>?_;refine aT ?_;refine W_ (cs:=[.I 2,.I jO,.I 1,.func (.func F.s) #[] #[.pointer (some ⟨c,0,none⟩)]]) (by simp[fa,lay,de,ot,bN,kh,Value.cells]) ?_;refine aT ?_;refine T_ av rfl rfl (by simp[Value.oneCell']) fun aN hw bl=>?_;have h1:=cA al;have cz:c≠b:=AK
 refine aT ?_;refine Z_ (gT bl) rfl ?_;refine aT ?_;exact⟨⟨c,rfl,(hw.block c cz).trans (aj.obj al)⟩,hw.ext (ai.trans aj) (by have:=ai.size;omega)⟩
theorem anX(w:A_):DD F.hG #[] w fun v w'=>qT w' v/\Ext w w':=by
 refine br E.hG ?_;refine aT ?_;refine _g fun w0 r aP B4 m0=>?_;refine aT ?_;refine W_ (cs:=[.I 1,.I 1,.I 1,.func (.func F.am) #[] #[]]) (by simp[fa,lay,de,ot,v8,bN,kh,Value.cells]) ?_;refine aT ?_;refine _H m0 rfl fun w1 ka m1=>?_;refine aT ?_;refine W_ (cs:=[.I 1,.I 0,.I 0,.func (.func F.s0) #[] #[]]) (by simp[fa,lay,de,ot,v8,bN,kh,Value.cells]) ?_;refine aT ?_;refine _H m1 rfl fun aD k3 m2=>?_;refine aT ?_;refine W_ (cs:=[.I 2,.I 0,.I 0,.func (.func F.sY) #[] #[]]) (by simp[fa,lay,de,ot,v8,bN,kh,Value.cells]) ?_;refine aT ?_;refine _H m2 rfl fun aN pq m3=>?_;refine aT ?_;refine W_ (cs:=[.I 2,.I 0,.I 0,.func (.func F.s3) #[] #[]]) (by simp[fa,lay,de,ot,v8,bN,kh,Value.cells]) ?_;refine aT ?_;refine _H m3 rfl fun aU oQ m4=>?_;refine aT ?_;refine W_ (cs:=[.I 2,.I 0,.I 0,.func (.func F.ap) #[] #[]]) (by simp[fa,lay,de,ot,v8,bN,kh,Value.cells]) ?_;refine aT ?_;refine _H m4 rfl fun bt L5 m5=>?_;have bJ:Ext w bt:=L5.ext (oQ.ext (pq.ext (k3.ext (ka.ext B4 aP) aP) aP) aP) aP;clear ka k3 pq oQ L5 m0 m1 m2 m3 m4;refine aT ?_;refine J_ (CQ (-1) F.uv _) ?_;rintro _ v6 ⟨⟨o1,rfl,Cq⟩,Sk⟩;refine aT ?_;refine _H (Sk.obj m5) rfl fun bz adm m6=>?_;refine aT ?_;refine J_ (CQ (-1) F.jG _) ?_;rintro _ CZ ⟨⟨la,rfl,wX⟩,L9⟩;refine aT ?_;refine _H (L9.obj m6) rfl fun bK Sg m7=>?_;refine aT ?_;refine J_ (CQ 0 F.as _) ?_;rintro _ R8 ⟨⟨zp,rfl,Z5⟩,Ma⟩;refine aT ?_;refine _H (Ma.obj m7) rfl fun c4 L6 m8=>?_;refine aT ?_;refine J_ (CQ 0 F.vL _) ?_;rintro _ v9 ⟨⟨By,rfl,FE⟩,Mb⟩;refine aT ?_;refine _H (Mb.obj m8) rfl fun c6 Sh m9=>?_;refine aT ?_;refine J_ (CQ 1 F.pH _) ?_;rintro _ v10 ⟨⟨aeP,rfl,Z2⟩,L7⟩;refine aT ?_;refine _H (L7.obj m9) rfl fun eO Se m10=>?_;refine aT ?_;refine J_ (CQ 1 F.vM _) ?_;rintro _ v11 ⟨⟨aeQ,rfl,FD⟩,L8⟩;refine aT ?_;refine _H (L8.obj m10) rfl fun gy Sf m11=>?_;refine aT ?_;have ne:∀{w:A_} {c:Nat} {es:Array MapEntry} {n:Nat} {cs:Array B_} {t:F_},w.heap[r]? = some (.map es n)->w.heap[c]? = some (.cells cs t)->c≠r:=by
  intro w c es n cs t h1 I e;subst e;rw[h1] at I;injection I with I
  cases I
 have r2:=(adm.block o1 (ne (Sk.obj m5) Cq)).trans Cq;have pE:=(Sg.block la (ne (L9.obj m6) wX)).trans wX;have pF:=(L6.block zp (ne (Ma.obj m7) Z5)).trans Z5;have a9:=(Sh.block By (ne (Mb.obj m8) FE)).trans FE;have HE:=(Se.block aeP (ne (L7.obj m9) Z2)).trans Z2;have adZ:=(Sf.block aeQ (ne (L8.obj m10) FD)).trans FD;have t7:∀{c:Nat} {ae:Obj},c≠r->bz.heap[c]? = some ae->bK.heap[c]? = some ae:=fun an h=>(Sg.block _ an).trans (L9.obj h);have t8:∀{c:Nat} {ae:Obj},c≠r->bK.heap[c]? = some ae->c4.heap[c]? = some ae:=fun an h=>(L6.block _ an).trans (Ma.obj h);have t9:∀{c:Nat} {ae:Obj},c≠r->c4.heap[c]? = some ae->c6.heap[c]? = some ae:=fun an h=>(Sh.block _ an).trans (Mb.obj h);have t10:∀{c:Nat} {ae:Obj},c≠r->c6.heap[c]? = some ae->eO.heap[c]? = some ae:=fun an h=>(Se.block _ an).trans (L7.obj h);have t11:∀{c:Nat} {ae:Obj},c≠r->eO.heap[c]? = some ae->gy.heap[c]? = some ae:=fun an h=>(Sf.block _ an).trans (L8.obj h);have n6:=ne m6 r2;have n7:=ne m7 pE;have n8:=ne m8 pF;have n9:=ne m9 a9;have n10:=ne m10 HE;replace r2:=t11 n6 (t10 n6 (t9 n6 (t8 n6 (t7 n6 r2))));replace pE:=t11 n7 (t10 n7 (t9 n7 (t8 n7 pE)));replace pF:=t11 n8 (t10 n8 (t9 n8 pF));replace a9:=t11 n9 (t10 n9 a9);replace HE:=t11 n10 HE;have ag:Ext w gy:=Sf.ext ((Se.ext ((Sh.ext ((L6.ext ((Sg.ext ((adm.ext (bJ.trans Sk) aP).trans L9) aP).trans Ma) aP).trans Mb) aP).trans L7) aP).trans L8) aP;refine⟨⟨r,_,_,[(9,_),(10,_),(11,_),(12,_),(13,_),(14,_),(15,_),(16,_),(17,_),(18,_),(19,_)],rfl,m11,rfl,fun x=>?_⟩,ag⟩;have bb:∀{f:Nat} {g:Int->Int->Int×Bool},okF Tryz.prog f=true->uh f g->xA gy (.func (.func f) #[] #[]) g:=fun h1 I=>.inl ⟨_,rfl,h1,I⟩;have ak:∀{c f:Nat} {p:Int->Int->Bool},gy.heap[c]? = some (.cells #[.func (.func f) #[] #[]] T.ac)->okF Tryz.prog f=true->vz f p->xA gy (.func (.func F.s) #[] #[.pointer (some ⟨c,0,none⟩)]) fun a b=>(o.bit (p a b),true) :=
  fun h1 I ab=>.inr ⟨_,_,_,rfl,h1,I,ab,rfl⟩
 unfold o.hj;by_cases g9:x=9
 .subst g9;exact⟨_,rfl,_,rfl,bb Ct anP⟩
 by_cases g10:x=10
 .subst g10;exact⟨_,rfl,_,rfl,bb Ct anQ⟩
 by_cases g11:x=11
 .subst g11;exact⟨_,rfl,_,rfl,bb Ct MK⟩
 by_cases g12:x=12
 .subst g12;exact⟨_,rfl,_,rfl,bb Ct acK⟩
 by_cases g13:x=13
 .subst g13;exact⟨_,rfl,_,rfl,bb Ct am5⟩
 by_cases g14:x=14
 .subst g14;exact⟨_,rfl,_,rfl,ak r2 Ct anR⟩
 by_cases g15:x=15
 .subst g15;exact⟨_,rfl,_,rfl,ak pE Ct anS⟩
 by_cases g16:x=16
 .subst g16;exact⟨_,rfl,_,rfl,ak pF Ct anT⟩
 by_cases g17:x=17
 .subst g17;exact⟨_,rfl,_,rfl,ak a9 Ct anU⟩
 by_cases g18:x=18
 .subst g18;exact⟨_,rfl,_,rfl,ak HE Ct anV⟩
 by_cases g19:x=19
 .subst g19;exact⟨_,rfl,_,rfl,ak adZ Ct anW⟩
 simp[g9,g10,g11,g12,g13,g14,g15,g16,g17,g18,g19]
theorem qT.look{w:A_}{m:B_}(h:qT w m)(x:Int):∃es r,rX w m es/\Instr.findNow (.int .i64) (.I x) es.toList 0=some r /\
  match o.hj x with
  | some ae => ∃i v,r=some (i,v)/\Dq w ae v
  | none=>r=none:=by
 obtain⟨r,es,c,l,rfl,c3,l8,ag⟩:=h;obtain⟨q,h1,I⟩:=zD (Lt .i64 .i64) x es.toList l 0 l8;refine⟨es,q,.inr ⟨r,c,rfl,c3⟩,h1,?_⟩
 have:=ag x
 cases aO:o.hj x with
 | none =>
  simp only[aO] at this ⊢;rw[this] at I;cases q with
  | none=>rfl
  | some q=>simp at I
 | some ae =>
  simp only[aO] at this ⊢;obtain⟨p,au,aG⟩:=this;rw[au] at I;cases q with
  | none=>simp at I
  | some q=>simp at I;exact⟨q.1,q.2,rfl,I ▸ aG⟩
theorem qT.mod{A:Nat->Prop}{w w':A_}{m:B_}(h:qT w m)(hm:Mod A w w')(dg:∀k ae,w.heap[k]? = some ae->(∃es c,ae = .map es c)\/(∃cs,ae = .cells cs T.ac)->¬A k):qT w' m:=by
 obtain⟨r,es,c,l,rfl,c3,l8,ag⟩:=h;refine⟨r,es,c,l,rfl,hm.obj (dg r _ c3 (.inl ⟨_,_,rfl⟩)) c3,l8,fun x=>?_⟩
 have:=ag x
 cases aO:o.hj x with
 | none=>simpa only[aO] using this
 | some ae =>
  simp only[aO] at this ⊢;obtain⟨p,au,u,aG,bb⟩:=this;refine⟨p,au,u,aG,?_⟩;rcases bb with bb | ⟨c,f,p,h1,I,ab⟩
  .exact .inl bb
  .exact .inr ⟨c,f,p,h1,hm.obj (dg c _ I (.inr ⟨_,rfl⟩)) I,ab⟩
theorem qT.ext{w w':A_}{m:B_}(h:qT w m)(he:Ext w w'):qT w' m:=h.mod (A:=fun _=>False) he.mod fun _ _ _ _ h=>h
theorem aom(x:Int)(m:B_)(w:A_)(h:qT w m):DD F.f6 #[.I x,m] w fun v w'=>v = .I (o.fI x)/\Ext w w':=by
 refine br E.f6 ?_;obtain⟨es,r,I,ab,aH⟩:=h.look x;simp -dsimp only[cB];simp -dsimp only[c7,Nat.reduceAdd,Nat.reduceEqDiff,reduceIte,reduceCtorEq,df];refine _u (fun a6 w'=>a6 0 = .I x/\a6 1=m/\w'=w/\x≠3/\¬(1<=x/\x<=8)) ?_ ?_
 .refine aT ?_;refine I_ (fun h1=>?_) (fun h1=>?_)
  .refine aT ?_;exact⟨by simp[o.fI,h1],Ext.refl _⟩
  refine aT ?_;refine I_ (fun a8=>?_) (fun a8=>?_)
  .refine aT ?_;refine I_ (fun bE=>?_) (fun bE=>?_)
   .refine aT ?_;exact⟨by simp[o.fI,h1,a8,bE],Ext.refl _⟩
   .refine aT ?_;refine⟨trivial,trivial,trivial,h1,AK⟩
  .refine aT ?_;refine⟨trivial,trivial,trivial,h1,AK⟩
 .rintro S w' cc ⟨kr,s1,rfl,pq,L6⟩;refine ck (i_ kr s1) ?_;refine _m I ab ?_;cases aO:o.hj x with
  | none =>
   simp only[aO] at aH;subst aH;simp only[nn,Option.map_none,Option.getD_none,Option.isSome_none,if_true];have au:o.fI x = -1:=by
    unfold o.hj at aO;unfold o.fI
    repeat' split
    all_goals first | rfl | (exfalso;omega) | skip
    all_goals
     exfalso
     (repeat' split at aO)
     all_goals first | (cases aO;done) | omega
   refine aT ?_;refine _M (vs:=[.I 0,.I 0,.I 0,.nilFunc]) (fun _=>by simp -dsimp only[c7,cB,Nat.reduceAdd,Nat.reduceEqDiff,reduceIte,reduceCtorEq,df]) rfl rfl (by simp[Value.oneCell']) fun w1 b ao he an=>?_;refine aT ?_;rw[au];exact cd
  | some ae =>
   simp only[aO] at aH;obtain⟨i,v,rfl,u,rfl,bb⟩:=aH;simp only[nn,Option.map_some,Option.getD_some,Option.isSome_some,if_true];refine aT ?_;refine _M (vs:=[.I ae.parts,.I ae.jO,.I ae.makes,u]) (fun _=>by simp -dsimp only[c7,cB,Nat.reduceAdd,Nat.reduceEqDiff,reduceIte,reduceCtorEq,df]) rfl rfl (by rcases bb with ⟨f,rfl,_⟩ | ⟨c,f,p,rfl,_⟩<;>simp[Value.oneCell']) fun w1 b ao he an=>?_;refine aA ?_;rw[(o.Ge aO).1];exact cd
end Go.Proofs.R
end
section
namespace o
open Go Go.RowKit ba
structure fZ(w:World)(cs:List Value)(s:Scope):Prop where
 rM:s.vars.length<=1152921504606846976/\s.aw.length<=1152921504606846976/\s.procs.length<=1152921504606846976/\s.locals.length<=1152921504606846976/\ee s.self
 ex:∃v0 v1 v2 v3 v4,cs=[v0,v1,v2,v3,v4,.int .i64 s.self]/\ih w v0 s.scalars/\h3 w v1 s.vars/\mT w v2 s.aw/\qV w v3 s.procs/\h3 w v4 s.locals/\s.scalars.length<=4611686018427387904
theorem fZ.ext{w w':A_}{cs:C_ B_}{s:Scope}(he:Ext w w')(h:fZ w cs s):fZ w' cs s :=
 let ⟨v0,v1,v2,v3,v4,e,af,h1,I,ab,aH,a8⟩:=h.ex
 ⟨h.rM,v0,v1,v2,v3,v4,e,af.ext he,h1.ext he,I.ext he,ab.ext he,aH.ext he,a8⟩
theorem fZ.form{w:A_}{cs:C_ B_}{s:Scope}(h:fZ w cs s):∃a0 bx db c1 a2 c2 a3 bu a4 bC,cs=[.slice a0 s.scalars.length bx,.slice db s.vars.length c1,.slice a2 s.aw.length c2,.slice a3 s.procs.length bu,.slice a4 s.locals.length bC,.I s.self] /\
  ih w (.slice a0 s.scalars.length bx) s.scalars/\h3 w (.slice db s.vars.length c1) s.vars/\mT w (.slice a2 s.aw.length c2) s.aw/\qV w (.slice a3 s.procs.length bu) s.procs/\h3 w (.slice a4 s.locals.length bC) s.locals /\
  s.scalars.length<=4611686018427387904/\s.vars.length<=9223372036854775807/\s.aw.length<=9223372036854775807/\s.procs.length<=9223372036854775807/\s.locals.length<=9223372036854775807:=by
 obtain⟨v0,v1,v2,v3,v4,rfl,af,h1,I,ab,aH,a8⟩:=h.ex;obtain⟨a0,bx,rfl,_⟩:=af.form;obtain⟨db,c1,rfl,eE⟩:=h1.form;obtain⟨a2,c2,rfl,eJ⟩:=I.form;obtain⟨a3,bu,rfl,er⟩:=ab.form;obtain⟨a4,bC,rfl,eH⟩:=aH.form;exact⟨a0,bx,db,c1,a2,c2,a3,bu,a4,bC,rfl,af,h1,I,ab,aH,a8,eE,eJ,er,eH⟩
end o
namespace Go.Proofs.R
open Go Go.RowKit ba
theorem RG(n:Int)(cs:C_ B_)(s:o.Scope)(w:A_)(h:o.fZ w cs s) :
  DD F.f8 #[.I n,.agg cs.toArray] w fun v w'=>v = .tuple #[.I (o.hC n s).1,.bool (o.hC n s).2]/\Ext w w':=by
 obtain⟨a0,bx,db,c1,a2,c2,a3,bu,a4,bC,rfl,af,h1,I,ab,aH,e2,eE,eJ,er,eH⟩:=h.form;refine br E.f8 ?_;refine aT ?_;refine O_ fun w1 b ao ai al=>?_
 (repeat' (refine aA ?_;first | (refine I_ (fun _=>?_) (fun _=>?_)<;>try (exfalso;omega)) | refine N_ (fun _=>?_) (fun _=>?_)))<;>try refine aA ?_
 all_goals
  refine⟨?_,fK⟩;unfold o.hC
  (repeat' split)<;>first | rfl | (exfalso;omega)
theorem arE(v:B_)(l:C_ o.Var)(n:Int)(cs:C_ B_)(s:o.Scope)(w:A_)(aC:o.h3 w v l)(h:o.fZ w cs s) :
  DD F.ID #[v,.I n,.agg cs.toArray] w fun v w'=>v = .tuple #[.I (o.gn l n s).1,.I (o.gn l n s).2.1,.bool (o.gn l n s).2.2]/\Ext w w':=by
 obtain⟨a0,bx,db,c1,a2,c2,a3,bu,a4,bC,rfl,_⟩:=h.form;obtain⟨aQ,cap,rfl,hlen⟩:=aC.form;refine br E.ID ?_;refine aT ?_;refine O_ fun w1 b ao ai al=>?_;refine aT ?_;apply I_<;>intro g1
 .refine aT ?_;rw[o.gn,o.gX (.inl g1)];exact cd
 refine aT ?_;apply I_<;>intro g2
 .refine aT ?_;rw[o.gn,o.gX (.inr AK)];exact cd
 refine aT ?_;obtain⟨i,rfl⟩:=QA (show 0<=n by omega);have U:i<l.length:=AK
 rw[o.gn,o.iM AK AK];simp only[Int.toNat_natCast];obtain⟨a,rfl⟩:=aC.addr;refine aA ?_;refine R_ (c:=[_,_,_,_,_,_]) al (Ext.refl _) rfl ?_;refine aT ?_;refine P_ _ (fun w' e=>RG _ _ s w' (h.ext (ai.trans e))) ?_;refine aT ?_;intro aD aj;refine aA ?_;refine R_ (c:=[_,_,_,_,_,_]) al aj rfl ?_;refine aT ?_;refine P_ _ (fun w' e=>RG _ _ s w' (h.ext ((ai.trans aj).trans e))) ?_;refine aT ?_;intro aN ah;refine aA ?_;refine N_ (fun g3=>?_) (fun g3=>?_)
 all_goals
  refine aT ?_;refine⟨?_,fK⟩;simp[g3]
theorem al8(x:o.Node)(cs:C_ B_)(s:o.Scope)(w:A_)(ag:x.ok)(h:o.fZ w cs s) :
  DD F.IC #[.agg x.enc.toArray,.agg cs.toArray] w fun v w'=>v = .tuple #[.I (o.mJ x s).1,.I (o.mJ x s).2]/\Ext w w':=by
 obtain⟨a0,bx,db,c1,a2,c2,a3,bu,a4,bC,rfl,af,h1,I,ab,aH,e2,eE,eJ,er,eH⟩:=h.form;refine br E.IC ?_;refine aT ?_;refine O_ fun w1 bw cM ai al=>?_;refine aT ?_;refine O_ fun aD bS dm aj av=>?_;have cE:aD.heap[bw]? = some (.cells #[.I x.op,.I x.n] T.h):=aj.obj al;clear al;refine aA ?_;apply I_<;>intro g5
 ·(repeat' (refine aA ?_;first | (refine I_ (fun _=>?_) (fun _=>?_)<;>try (exfalso;omega)) | refine N_ (fun _=>?_) (fun _=>?_)))<;>try refine aA ?_
  all_goals
   refine⟨?_,fK⟩;rw[o.mJ,if_pos g5];split<;>first | rfl | (exfalso;omega)
 refine aA ?_;apply I_<;>intro g6
 .have hk:o.mJ x s=o.kD x.n s:=by rw[o.mJ,if_neg g5,if_pos g6]
  rw[hk,o.kD];refine aA ?_;apply I_<;>intro g1;rotate_left
  .refine aA ?_;rw[o.gX (.inl AK)];exact cd
  refine aA ?_;apply I_<;>intro g2;rotate_left
  .refine aA ?_;rw[o.gX (.inr AK)];exact cd
  refine aA ?_;rw[o.iM AK AK];obtain⟨a,rfl⟩:=I.addr;have U:x.n.toNat<s.aw.length:=AK
  refine K_ x.n.toNat AK U ?_;refine aA ?_;refine R_ (c:=[_,_,_,_,_,_]) av (Ext.refl _) rfl ?_;refine aT ?_;refine P_ _ (fun w' e=>RG _ _ s w' (h.ext ((ai.trans aj).trans e))) ?_;refine aT ?_;intro aN ah;refine N_ (fun g3=>?_) (fun g3=>?_)
  all_goals
   refine aT ?_;refine⟨?_,fK⟩;simp[g3]
 refine aA ?_;apply I_<;>intro g7
 .have hk:o.mJ x s=o.Cr x.n s:=by rw[o.mJ,if_neg g5,if_neg g6,if_pos g7]
  rw[hk,o.Cr];refine aA ?_;apply I_<;>intro g1;rotate_left
  .refine aA ?_;intro aN ah;refine aA ?_;rw[if_neg g1];exact cd
  rw[if_pos g1];obtain⟨i,U⟩:=QA g1;obtain⟨_,gW⟩:=ag.n;rw[U] at gW;have ar:x.n.tdiv 16=((i / 16:Nat):Int):=by rw[U];rfl
  have hm:x.n.tmod 16=((i % 16:Nat):Int):=by rw[U];rfl
  refine aA ?_;refine _J AK ?_;rw[ar];refine aA ?_;apply I_<;>intro g2;rotate_left
  .refine aA ?_;intro aN ah;refine aA ?_;rw[o.gX (.inr AK)];exact cd
  have aF:i / 16<s.procs.length:=AK
  rw[o.iM AK AK];simp only[Int.toNat_natCast];refine aA ?_;refine _s AK ?_;refine aA ?_;refine _J AK ?_;rw[ar];obtain⟨a,rfl⟩:=ab.addr;obtain⟨_,b2,dV,EK,_⟩:=ab.at (i / 16) aF;have OR:w.cell? ((a.add (i / 16*5)).add 2)=some (.I s.procs[i / 16].cp):=EK 2 _ rfl;refine aA ?_;refine M_ ((ai.trans aj).cell OR) ?_;refine aA ?_;rw[hm];intro aN ah;refine aA ?_;apply I_<;>intro g3
  all_goals
   refine aA ?_;refine⟨?_,fK⟩
   first | rw[if_pos g3] | rw[if_neg g3]
 refine aA ?_;apply I_<;>intro g8
 ·(repeat' (refine aA ?_;first | (refine I_ (fun _=>?_) (fun _=>?_)<;>try (exfalso;omega)) | refine N_ (fun _=>?_) (fun _=>?_)))<;>try refine aA ?_
  all_goals
   refine⟨?_,fK⟩;rw[o.mJ,if_neg g5,if_neg g6,if_neg g7,if_pos g8];split<;>first | rfl | (exfalso;omega)
 refine aA ?_;refine⟨?_,fK⟩;rw[o.mJ,if_neg g5,if_neg g6,if_neg g7,if_neg g8]
end Go.Proofs.R
end
section
namespace o
open Go ba
def ew(n b:Nat):Prop:=n*b<=140737488351232
structure Scalar.cK(x:Scalar):Prop where
 size:ee x.size
structure Var.cK(x:Var):Prop where
 scalar:ee x.scalar
 over:ee x.over
 aR:ee x.aR
 U:ee x.U
 init:ee x.init
structure dB.cK(x:dB):Prop where
 scalar:ee x.scalar
 cap:ee x.cap
 aR:ee x.aR
 U:ee x.U
structure Act.cK(x:Act):Prop where
 kind:ee x.kind
 to:ee x.to
 loc:ee x.loc
 index:ew x.index.length 16
 value:ew x.value.length 16
structure ea.cK(x:ea):Prop where
 from_:ee x.from_
 to:ee x.to
 guard:ew x.guard.length 16
 bQ:ew x.bQ.length 72
 act:∀a∈x.bQ,a.cK
structure dJ.cK(x:dJ):Prop where
 over:ee x.over
 cp:ee x.cp
 vars:ew x.vars.length 56
 cQ:ew x.cQ.length 88
 var:∀a∈x.vars,a.cK
 cmd:∀a∈x.cQ,a.cK
structure lY.cK(x:lY):Prop where
 expr:ew x.expr.length 16
structure Model.cK(m:Model):Prop where
 scalars:ew m.scalars.length 24
 vars:ew m.vars.length 56
 aw:ew m.aw.length 56
 procs:ew m.procs.length 80
 props:ew m.props.length 40
 scalar:∀a∈m.scalars,a.cK
 var:∀a∈m.vars,a.cK
 chan:∀a∈m.aw,a.cK
 proc:∀a∈m.procs,a.cK
 prop:∀a∈m.props,a.cK
end o
end