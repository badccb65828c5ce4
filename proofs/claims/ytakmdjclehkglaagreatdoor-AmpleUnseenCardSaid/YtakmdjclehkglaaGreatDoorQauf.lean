/- Parts. -/
import Derived.Test.YtakmdjclehkglaaGreatDoorQaue
set_option linter.all false
set_option maxRecDepth 100000
set_option maxHeartbeats 6400000
section
namespace Go.Proofs.R
open Go bb Go.Proofs
theorem E.y7:bf F.y7 ⟨94,[.tmp 8],bj Tryz.prog [1,10] [(8,(.dM (.take (aq 33 0) (.take (bD 34 (.e3 (ae 33))) (.take (bl 35 1 34) (.take (bp 36 35) (.take (bl 37 0 5) (.take (bp 38 37) (.take (ez 39 (.nv (.int .i64) (.agg #[cv,cv,cv,.nilFunc]) true (ae 36) (ae 38))) (.take (aq 32 39) (.take (bD 40 (.ext (ae 32) 0)) (.take (bD 41 (.ext (ae 32) 1)) (.alt (bN 12 (.new T.a3 (.agg #[cv,cv,cv,.nilFunc]))) (.bk (e6 (.hz 4 (ae 12) (ae 40))) (.take (aq 13 41) .done) .nil) .nil))))))))))))),(14,(.dM (.take (aq 70 0) (.take (aq 71 0) (.take (bD 72 (.e3 (ae 71))) (.take (bl 73 0 72) (.take (bp 74 73) (.take (aq 75 0) (.take (bD 76 (.e3 (ae 75))) (.take (bl 77 0 76) (.take (bp 78 77) (.take (j2 79 78) (.take (aq 80 9) (.take (fU .sub T.a 81 79 80) (.take (bD 82 (.hl 1 (ae 74) none (some (ae 81)) none)) (.take (aq 83 10) (.alt (bN 84 (.fZ T.a 1 1 [cv] [(0,(ae 83))])) (.bk (bN 85 (.app T.b T.a 1 8 (ae 82) (ae 84))) (.take (bD 86 (.e3 (ae 70))) (.take (bl 87 0 86) (.bk (ys 87 85) .done .nil))) .nil) .nil)))))))))))))))))] (bm Tryz.f236)⟩:=bg
theorem E.qw:bf F.qw ⟨12,[.tmp 4,.tmp 5],bj Tryz.prog [] [] (bm Tryz.f237)⟩:=bg
theorem E.fd:bf F.fd ⟨96,[.tmp 4,.tmp 5],bj Tryz.prog [7,11] [] (bm Tryz.f238)⟩:=bg
theorem E.HH:bf F.HH ⟨45,[.tmp 6,.tmp 7,.tmp 8],bj Tryz.prog [3,4] [] (bm Tryz.f239)⟩:=bg
theorem E.HI:bf F.HI ⟨15,[.tmp 2],bj Tryz.prog [1] [] (bm Tryz.f240)⟩:=bg
theorem E.HJ:bf F.HJ ⟨15,[.tmp 4,.tmp 5],bj Tryz.prog [] [] (bm Tryz.f246)⟩:=bg
theorem E.HK:bf F.HK ⟨208,[.jw 5 2],bj Tryz.prog [24] [(6,(.dM (.take (bl 40 0 3) (.take (bp 41 40) (.take (aq 42 0) (.take (bD 43 (.e3 (ae 42))) (.take (bl 44 2 43) (.take (bp 45 44) (.take (aq 46 6) (.take (aq 47 6) (.take (ez 48 (.dY 6 (ae 5))) (.take (aq 49 0) (.take (bD 50 (.e3 (ae 49))) (.take (bl 51 0 50) (.take (bp 52 51) (.take (bD 53 (.e3 (ae 52))) (.take (bl 54 0 53) (.take (bl 55 0 54) (.take (bp 56 55) (.alt (cb 57 (.fn F.pM [(ae 48),(ae 56)])) (.take (fU .add T.a 58 47 57) (.take (bD 59 (.hl 1 (ae 45) (some (ae 46)) (some (ae 58)) none)) (.alt (bN 60 (.fZ T.b 1 1 [cp] [(0,(ae 59))])) (.bk (bN 61 (.app T.qx T.b 1 24 (ae 41) (ae 60))) (.take (bl 62 0 3) (.bk (ys 62 61) .done .nil)) .nil) .nil))) .nil)))))))))))))))))))),(11,(.dM (.take (bl 77 1 3) (.take (bp 78 77) (.take (aq 79 0) (.take (bD 80 (.e3 (ae 79))) (.take (bl 81 2 80) (.take (bp 82 81) (.take (aq 83 8) (.take (dE 84 1 82 83) (.take (bp 85 84) (.alt (bN 86 (.fZ T.a 1 1 [cv] [(0,(ae 85))])) (.bk (bN 87 (.app T.b T.a 1 8 (ae 78) (ae 86))) (.take (bl 88 1 3) (.bk (ys 88 87) .done .nil)) .nil) .nil)))))))))))),(16,(.dM (.take (bl 103 3 3) (.take (bp 104 103) (.take (bl 105 2 10) (.take (bp 106 105) (.alt (bN 107 (.uA T.a 1 8 cv (ae 106) (ae 106))) (.alt (bN 108 (.fZ T.b 1 1 [cp] [(0,(ae 107))])) (.bk (bN 109 (.app T.qx T.b 1 24 (ae 104) (ae 108))) (.take (bl 110 3 3) (.bk (ys 110 109) .done .nil)) .nil) .nil) .nil))))))),(21,(.dM (.take (bl 125 3 3) (.take (bp 126 125) (.take (bl 127 0 12) (.take (bp 128 127) (.take (dE 129 1 126 128) (.take (bp 130 129) (.take (aq 131 0) (.take (bD 132 (.e3 (ae 131))) (.take (bl 133 2 132) (.take (bp 134 133) (.take (aq 135 0) (.take (bD 136 (.e3 (ae 135))) (.take (bl 137 0 136) (.take (bp 138 137) (.take (bD 139 (.e3 (ae 138))) (.take (bl 140 5 139) (.take (bl 141 2 140) (.take (bp 142 141) (.take (aq 143 11) (.take (dE 144 1 142 143) (.take (bp 145 144) (.take (dE 146 1 134 145) (.take (bp 147 146) (.take (dE 148 1 130 147) (.take (bp 149 148) (.take (gZ .add T.a 150 149 1) (.take (dE 151 1 130 147) (.bk (ys 151 150) .done .nil)))))))))))))))))))))))))))))),(23,(.dM (.take (aq 153 0) (.take (bD 154 (.e3 (ae 153))) (.take (bl 155 0 154) (.take (bp 156 155) (.take (bD 157 (.e3 (ae 156))) (.take (bl 158 11 157) (.take (bp 159 158) (.take (aq 160 0) (.take (bD 161 (.e3 (ae 160))) (.take (bl 162 1 161) (.take (bp 163 162) (.take (dE 164 2 159 163) (.take (ez 165 (.dY 2 (ae 164))) (.alt (bN 13 (.new T.e (.agg #[cv,cv]))) (.bk (e6 (.hz 2 (ae 13) (ae 165))) .done .nil) .nil)))))))))))))))),(25,(.dM (.take (aq 181 0) (.take (bD 182 (.e3 (ae 181))) (.take (bl 183 2 182) (.take (bp 184 183) (.take (aq 185 14) (.take (aq 186 14) (.take (aq 187 0) (.take (bD 188 (.e3 (ae 187))) (.take (bl 189 0 188) (.take (bp 190 189) (.take (bD 191 (.e3 (ae 190))) (.take (bl 192 0 191) (.take (bl 193 3 192) (.take (bp 194 193) (.take (bl 195 0 13) (.take (bp 196 195) (.take (dE 197 5 194 196) (.take (bl 198 3 197) (.take (bp 199 198) (.take (j2 200 199) (.take (fU .add T.a 201 186 200) (.take (bD 202 (.hl 1 (ae 184) (some (ae 185)) (some (ae 201)) none)) (.take (bl 203 2 3) (.bk (ys 203 202) .done .nil))))))))))))))))))))))))))] (bm Tryz.f247)⟩:=bg
theorem E.Jr:bf F.Jr ⟨22,[.tmp 6,.tmp 7],bj Tryz.prog [] [] (bm Tryz.f249)⟩:=bg
theorem E.JT:bf F.JT ⟨39,[.tmp 4],bj Tryz.prog [9] [] (bm Tryz.f250)⟩:=bg
theorem E.JU:bf F.JU ⟨25,[.tmp 6,.tmp 7],bj Tryz.prog [] [] (bm Tryz.f251)⟩:=bg
theorem E.JH:bf F.JH ⟨14,[.tmp 4],bj Tryz.prog [] [] (bm Tryz.f252)⟩:=bg
theorem E.HO:bf F.HO ⟨12,[.tmp 3],bj Tryz.prog [] [] (bm Tryz.f254)⟩:=bg
theorem E.fn:bf F.fn ⟨10,[.tmp 4],bj Tryz.prog [] [] (bm Tryz.f255)⟩:=bg
theorem E.Dn:bf F.Dn ⟨39,[.jw 6 6,.tmp 7,.tmp 8],bj Tryz.prog [3] [] (bm Tryz.f256)⟩:=bg
theorem E.bv:bf F.bv ⟨25,[.tmp 4,.tmp 5],bj Tryz.prog [3] [] (bm Tryz.f257)⟩:=bg
theorem E.HP:bf F.HP ⟨32,[.tmp 6],bj Tryz.prog [] [] (bm Tryz.f258)⟩:=bg
theorem E.iP:bf F.iP ⟨9,[.tmp 4,.tmp 5],bj Tryz.prog [] [] (bm Tryz.f260)⟩:=bg
theorem E.HQ:bf F.HQ ⟨4,[.tmp 2],bj Tryz.prog [] [] (bm Tryz.f261)⟩:=bg
theorem E.qx:bf F.qx ⟨10,[.tmp 4,.tmp 5],bj Tryz.prog [] [] (bm Tryz.f262)⟩:=bg
theorem E.sA:bf F.sA ⟨12,[.tmp 4,.tmp 5],bj Tryz.prog [] [] (bm Tryz.f263)⟩:=bg
theorem E.sB:bf F.sB ⟨12,[.tmp 4,.tmp 5],bj Tryz.prog [] [] (bm Tryz.f264)⟩:=bg
theorem E.i:bf F.i ⟨8,[.jw 4 4],bj Tryz.prog [] [] (bm Tryz.f265)⟩:=bg
theorem E.am:bf F.am ⟨8,[.tmp 4],bj Tryz.prog [] [] (bm Tryz.f266)⟩:=bg
theorem E.sD:bf F.sD ⟨8,[.tmp 4],bj Tryz.prog [] [] (bm Tryz.f267)⟩:=bg
theorem E.sE:bf F.sE ⟨8,[.tmp 4],bj Tryz.prog [] [] (bm Tryz.f268)⟩:=bg
theorem E.ap:bf F.ap ⟨8,[.tmp 4],bj Tryz.prog [] [] (bm Tryz.f269)⟩:=bg
theorem E.tI:bf F.tI ⟨11,[.tmp 4],bj Tryz.prog [] [] (bm Tryz.f270)⟩:=bg
theorem E.kD:bf F.kD ⟨11,[.tmp 4],bj Tryz.prog [] [] (bm Tryz.f271)⟩:=bg
theorem E.HS:bf F.HS ⟨26,[.tmp 4],bj Tryz.prog [] [(5,(.dk [aq 18 1,aq 19 0,ez 20 (.nv (.int .i64) (.agg #[cv,cv,cv,.nilFunc]) true (ae 18) (ae 19)),aq 17 20,bD 21 (.ext (ae 17) 0),bD 22 (.ext (ae 17) 1),bN 5 (.new T.a3 (.agg #[cv,cv,cv,.nilFunc])),e6 (.hz 4 (ae 5) (ae 21)),aq 6 22]))] (bm Tryz.f272)⟩:=bg
theorem E.bJ:bf F.bJ ⟨8,[.tmp 4],bj Tryz.prog [] [] (bm Tryz.f273)⟩:=bg
theorem E.hC:bf F.hC ⟨24,[.tmp 6,.tmp 7],bj Tryz.prog [] [] (bm Tryz.f274)⟩:=bg
theorem E.fM:bf F.fM ⟨21,[.tmp 4,.tmp 5],bj Tryz.prog [] [] (bm Tryz.f275)⟩:=bg
theorem E.HW:bf F.HW ⟨12,[.tmp 4,.tmp 5],bj Tryz.prog [] [] (bm Tryz.f288)⟩:=bg
theorem E.HX:bf F.HX ⟨117,[.tmp 6,.tmp 7],bj Tryz.prog [13,26] [] (bm Tryz.f289)⟩:=bg
theorem E.HY:bf F.HY ⟨26,[.tmp 4,.tmp 5],bj Tryz.prog [1] [] (bm Tryz.f290)⟩:=bg
theorem E.Js:bf F.Js ⟨9,[.tmp 2],bj Tryz.prog [] [] (bm Tryz.f291)⟩:=bg
theorem E.HZ:bf F.HZ ⟨32,[.tmp 6,.tmp 7],bj Tryz.prog [] [] (bm Tryz.f292)⟩:=bg
theorem E.ki:bf F.ki ⟨8,[.tmp 4],bj Tryz.prog [] [] (bm Tryz.f293)⟩:=bg
theorem E.l0:bf F.l0 ⟨8,[.tmp 4],bj Tryz.prog [] [] (bm Tryz.f294)⟩:=bg
theorem E.q:bf F.q ⟨12,[.tmp 5,.tmp 6],bj Tryz.prog [] [] (bm Tryz.f295)⟩:=bg
theorem E.H0:bf F.H0 ⟨18,[.tmp 2],bj Tryz.prog [] [] (bm Tryz.f296)⟩:=bg
theorem E.H2:bf F.H2 ⟨18,[.tmp 4,.tmp 5],bj Tryz.prog [] [] (bm Tryz.f311)⟩:=bg
theorem E.bo:bf F.bo ⟨34,[.tmp 4],bj Tryz.prog [] [(2,(.dM (.take (aq 15 6) (.take (aq 16 15) (.take (bT 16 true (aq 17 1)) (.take (bT 16 true (aq 18 1)) (.take (bT 16 true (bD 19 (.e3 (ae 18)))) (.take (bT 16 true (bl 20 0 19)) (.take (bT 16 true (bp 21 20)) (.take (bT 16 true (bD 22 (.e3 (ae 21)))) (.take (bT 16 true (bl 23 5 22)) (.take (bT 16 true (bl 24 0 23)) (.take (bT 16 true (bp 25 24)) (.take (bT 16 true (bl 26 0 2)) (.take (bT 16 true (bl 27 1 26)) (.take (bT 16 true (bp 28 27)) (.take (bT 16 true (dE 29 1 25 28)) (.take (bT 16 true (bp 30 29)) (.take (bT 16 true (aq 31 5)) (.bk (bT 16 true (cb 32 (.fn F.r [(ae 17),(ae 30),(ae 31)]))) (.take (oR 33 16 32) (.take (aq 4 33) .done)) .nil))))))))))))))))))))] (bm Tryz.f335)⟩:=bg
theorem E.r:bf F.r ⟨42,[.tmp 6],bj Tryz.prog [] [] (bm Tryz.f336)⟩:=bg
theorem E.bR:bf F.bR ⟨80,[.tmp 4],bj Tryz.prog [3] [(5,(.dM (.take (aq 61 1) (.take (aq 62 1) (.take (bD 63 (.e3 (ae 62))) (.take (bl 64 0 63) (.take (bp 65 64) (.take (bD 66 (.e3 (ae 65))) (.take (bl 67 5 66) (.take (bl 68 0 67) (.take (bp 69 68) (.take (bl 70 0 2) (.take (bl 71 1 70) (.take (bp 72 71) (.take (dE 73 1 69 72) (.take (bp 74 73) (.take (aq 75 5) (.take (fU .add T.a 76 74 75) (.take (gZ .sub T.a 77 76 1) (.take (aq 78 7) (.bk (cb 79 (.fn F.r [(ae 61),(ae 77),(ae 78)])) (.take (aq 4 79) .done) .nil)))))))))))))))))))))] (bm Tryz.f337)⟩:=bg
theorem E.b0:bf F.b0 ⟨40,[.tmp 4],bj Tryz.prog [] [(2,(.dM (.take (aq 15 6) (.take (aq 16 15) (.take (bT 16 true (aq 17 1)) (.take (bT 16 true (aq 18 1)) (.take (bT 16 true (bD 19 (.e3 (ae 18)))) (.take (bT 16 true (bl 20 0 19)) (.take (bT 16 true (bp 21 20)) (.take (bT 16 true (bD 22 (.e3 (ae 21)))) (.take (bT 16 true (bl 23 5 22)) (.take (bT 16 true (bl 24 2 23)) (.take (bT 16 true (bp 25 24)) (.take (bT 16 true (aq 26 1)) (.take (bT 16 true (bD 27 (.e3 (ae 26)))) (.take (bT 16 true (bl 28 1 27)) (.take (bT 16 true (bp 29 28)) (.take (bT 16 true (dE 30 1 25 29)) (.take (bT 16 true (bp 31 30)) (.take (bT 16 true (gZ .add T.a 32 31 1)) (.take (bT 16 true (bl 33 0 2)) (.take (bT 16 true (bl 34 1 33)) (.take (bT 16 true (bp 35 34)) (.take (bT 16 true (fU .add T.a 36 32 35)) (.take (bT 16 true (aq 37 5)) (.bk (bT 16 true (cb 38 (.fn F.r [(ae 17),(ae 36),(ae 37)]))) (.take (oR 39 16 38) (.take (aq 4 39) .done)) .nil))))))))))))))))))))))))))] (bm Tryz.f338)⟩:=bg
theorem E.cF:bf F.cF ⟨99,[.tmp 4],bj Tryz.prog [3,6] [(2,(.dM (.take (aq 22 1) (.take (bD 23 (.e3 (ae 22))) (.take (bl 24 0 23) (.take (bp 25 24) (.take (bD 26 (.e3 (ae 25))) (.take (bl 27 0 26) (.take (bl 28 2 27) (.take (bp 29 28) (.take (bl 30 0 2) (.take (bl 31 1 30) (.take (bp 32 31) (.take (dE 33 6 29 32) (.take (ez 34 (.dY 6 (ae 33))) (.alt (bN 7 (.new T.t (.agg #[qh,cv,cv,cv,cv,(.bool false)]))) (.bk (e6 (.hz 6 (ae 7) (ae 34))) .done .nil) .nil)))))))))))))))),(8,(.dk [aq 89 1,bD 90 (.e3 (ae 89)),bl 91 2 90,bp 92 91,aq 93 10,aq 94 11,bD 95 (.hl 1 (ae 92) (some (ae 93)) (some (ae 94)) none),aq 96 12,bN 97 (.raw (.call ⟨.builtin .copy,#[(ae 95),(ae 96)],#[T.b,T.b]⟩) T.a)]))] (bm Tryz.f339)⟩:=bg
theorem E.f0:bf F.f0 ⟨26,[.tmp 4,.tmp 5],bj Tryz.prog [] [] (bm Tryz.f340)⟩:=bg
theorem E.f1:bf F.f1 ⟨24,[.tmp 2],bj Tryz.prog [] [] (bm Tryz.f341)⟩:=bg
theorem E.dx:bf F.dx ⟨17,[.tmp 4],bj Tryz.prog [] [(3,(.dk [aq 12 5,bD 13 (.hl 1 (ae 12) (some (cf 1)) none none),aq 14 1,bN 15 (.raw (.call ⟨.builtin .copy,#[(ae 13),(ae 14)],#[T.b,T.b]⟩) T.a)]))] (bm Tryz.f342)⟩:=bg
theorem E.f2:bf F.f2 ⟨24,[.tmp 2],bj Tryz.prog [] [(4,(.dM (.take (aq 11 3) (.take (aq 12 0) (.take (aq 13 0) (.take (bD 14 (.mH 1 (ae 13) (cf 0))) (.take (bp 15 14) (.take (bD 16 (.bin .add T.a (cf 1) (ae 15))) (.take (aq 17 0) (.take (bD 18 (.mH 1 (ae 17) (cf 0))) (.take (bp 19 18) (.take (bD 20 (.bin .add T.a (cf 1) (ae 19))) (.take (bD 21 (.hl 1 (ae 12) (some (cf 1)) (some (ae 16)) (some (ae 20)))) (.bk (bN 22 (.raw (.call ⟨.builtin .copy,#[(ae 11),(ae 21)],#[T.b,T.b]⟩) T.a)) .done .nil))))))))))))))] (bm Tryz.f343)⟩:=bg
theorem E.f3:bf F.f3 ⟨15,[.tmp 6],bj Tryz.prog [] [] (bm Tryz.f344)⟩:=bg
theorem E.as:bf F.as ⟨5,[.tmp 2],bj Tryz.prog [] [] (bm Tryz.f345)⟩:=bg
theorem E.dP:bf F.dP ⟨67,[.tmp 4],bj Tryz.prog [1] [(3,(.dk [aq 33 1,bD 34 (.e3 (ae 33)),bl 35 2 34,bp 36 35,aq 37 5,aq 38 6,bD 39 (.hl 1 (ae 36) (some (ae 37)) (some (ae 38)) none),aq 40 7,bN 41 (.raw (.call ⟨.builtin .copy,#[(ae 39),(ae 40)],#[T.b,T.b]⟩) T.a)])),(4,(.dM (.take (aq 42 9) (.take (aq 43 42) (.take (bT 43 true (aq 44 1)) (.take (bT 43 true (aq 45 1)) (.take (bT 43 true (bD 46 (.e3 (ae 45)))) (.take (bT 43 true (bl 47 0 46)) (.take (bT 43 true (bp 48 47)) (.take (bT 43 true (bD 49 (.e3 (ae 48)))) (.take (bT 43 true (bl 50 5 49)) (.take (bT 43 true (bl 51 2 50)) (.take (bT 43 true (bp 52 51)) (.take (bT 43 true (aq 53 1)) (.take (bT 43 true (bD 54 (.e3 (ae 53)))) (.take (bT 43 true (bl 55 1 54)) (.take (bT 43 true (bp 56 55)) (.take (bT 43 true (dE 57 1 52 56)) (.take (bT 43 true (bp 58 57)) (.take (bT 43 true (gZ .add T.a 59 58 1)) (.take (bT 43 true (bl 60 0 2)) (.take (bT 43 true (bl 61 2 60)) (.take (bT 43 true (bp 62 61)) (.take (bT 43 true (fU .add T.a 63 59 62)) (.take (bT 43 true (aq 64 8)) (.bk (bT 43 true (cb 65 (.fn F.r [(ae 44),(ae 63),(ae 64)]))) (.take (oR 66 43 65) (.take (aq 4 66) .done)) .nil))))))))))))))))))))))))))] (bm Tryz.f346)⟩:=bg
theorem E.f4:bf F.f4 ⟨19,[.tmp 2,.tmp 3,.tmp 4],bj Tryz.prog [] [(4,(.dM (.take (aq 11 0) (.take (j2 12 11) (.take (aq 13 5) (.take (bD 14 (.hl 1 (ae 13) (some (cf 1)) none none)) (.take (aq 16 5) (.take (bD 17 (.mH 1 (ae 16) (cf 0))) (.take (bp 18 17) (.alt (cb 15 (.fn F.dx [(ae 12),(ae 14)])) (.take (aq 2 15) (.take (aq 3 18) (.take (fe 4 (js true)) .done))) .nil))))))))))] (bm Tryz.f347)⟩:=bg
theorem E.j:bf F.j ⟨42,[.tmp 4], (cJ [fe 4 (.const cp)] (cJ [aq 8 0,aq 9 1,nC 10 F.y3 [8,9],aq 5 10] (.seq (cJ [aq 11 5,gZ .eql T.a 12 11 (-1)] (jL 12 (cJ [aq 13 0,aq 4 13] .ret) .skip)) (.seq (cJ [aq 14 5,gZ .add T.a 15 14 1,aq 6 15] (.cu 0 (.loop (.seq (cJ [aq 16 6,aq 17 0,j2 18 17,fU .lss T.a 19 16 18] (jL 19 .skip (.exit 0))) (.seq (.cu 1 (cJ [aq 22 0,aq 23 6,dE 24 3 22 23,h0 25 3 24,bN 7 (.new T.p (.agg #[cv,cv,cp])),pC 3 7 25] (cJ [aq 26 1,h0 27 3 7,cb 28 (.val (ae 26) [(ae 27)]),bD 29 (.un .not (ae 28))] (jL 29 (cJ [aq 30 0,aq 31 5,h0 32 3 7,dE 33 3 30 31,pC 3 33 32] (.dk [aq 34 5,gZ .add T.a 35 34 1,aq 5 35])) .skip)))) (.dk [aq 20 6,gZ .add T.a 21 20 1,aq 6 21])))))) (cJ [aq 36 0,aq 37 5,bD 38 (.hl 3 (ae 36) (some (ae 37)) none none),e6 (.raw (.call ⟨.builtin .clear,#[(ae 38)],#[T.ap]⟩) T.z)] (cJ [aq 39 0,aq 40 5,bD 41 (.hl 3 (ae 39) none (some (ae 40)) none),aq 4 41] .ret))))))⟩:=bg
theorem E.iz:bf F.iz ⟨5,[.tmp 2], (cJ [fe 2 (.const cp)] (cJ [aq 3 0,cb 4 (.fn F.f5 [(.const cp),(ae 3)]),aq 2 4] .ret))⟩:=bg
theorem E.n:bf F.n ⟨9,[.tmp 4], (cJ [fe 4 (js false)] (cJ [aq 5 0,aq 6 1,nC 7 F.p [5,6],gZ .geq T.a 8 7 0,aq 4 8] .ret))⟩:=bg
theorem E.y3:bf F.y3 ⟨19,[.tmp 4], (cJ [fe 4 (cf 0)] (.seq (cJ [aq 6 0,j2 7 6,fe 8 (cf 0)] (.cu 0 (.loop (cJ [fU .lss T.a 9 8 7] (uS 9 0
 (.seq (.cu 1 (cJ [aq 10 8,aq 5 10] (cJ [aq 11 1,aq 12 0,aq 13 5,dE 14 3 12 13,h0 15 3 14,cb 16 (.val (ae 11) [(ae 15)])] (jL 16 (cJ [aq 17 5,aq 4 17] .ret) .skip)))) (uR T.a 18 8))))))) (cJ [fe 4 (cf (-1))] .ret)))⟩:=bg
theorem E.p:bf F.p ⟨19,[.tmp 4], (cJ [fe 4 (cf 0)] (.seq (cJ [aq 6 0,j2 7 6,fe 8 (cf 0)] (.cu 0 (.loop (cJ [fU .lss T.a 9 8 7] (uS 9 0
 (.seq (.cu 1 (cJ [aq 10 8,aq 5 10] (cJ [aq 11 1,aq 12 0,aq 13 5,dE 14 1 12 13,bp 15 14,cb 16 (.val (ae 11) [(ae 15)])] (jL 16 (cJ [aq 17 5,aq 4 17] .ret) .skip)))) (uR T.a 18 8))))))) (cJ [fe 4 (cf (-1))] .ret)))⟩:=bg
theorem E.f6:bf F.f6 ⟨8,[.tmp 2], (cJ [fe 2 (.const cp)] (.seq (cJ [aq 3 0,bD 4 (.bin .eql T.b (ae 3) (.const cp))] (jL 4 (cJ [fe 2 (.const cp)] .ret) .skip)) (cJ [bN 5 (.fZ T.a 0 1 [] []),aq 6 0,bN 7 (.app T.b T.a 1 8 (ae 5) (ae 6)),aq 2 7] .ret)))⟩:=bg
theorem E.f9:bf F.f9 ⟨9,[.tmp 4], (cJ [fe 4 (js false)] (cJ [aq 5 0,aq 6 1,nC 7 F.f7 [5,6],gZ .geq T.a 8 7 0,aq 4 8] .ret))⟩:=bg
theorem E.v:bf F.v ⟨61,[.tmp 2], (cJ [fe 2 (.const cp)] (.seq (cJ [aq 6 0,j2 7 6,gZ .lss T.a 8 7 2] (jL 8 (cJ [aq 9 0,aq 2 9] .ret) .skip)) (.seq (cJ [fe 3 (cf 1)] (.cu 0 (.loop (.seq (cJ [aq 10 3,aq 11 0,j2 12 11,fU .lss T.a 13 10 12] (jL 13 .skip (.exit 0))) (.seq (.cu 1 (.seq (.qD [aq 16 0,aq 17 3,dE 18 2 16 17,h0 19 2 18,aq 20 0,aq 21 3,gZ .sub T.a 22 21 1,dE 23 2 20 22,h0 24 2 23,fU .eql T.f 25 19 24]) (jL 25 (cJ [aq 26 0,aq 27 3,bD 28 (.hl 2 (ae 26) (some (ae 27)) none none),aq 4 28] (.seq (cJ [fe 5 (cf 1)] (.cu 2 (.loop (.seq (cJ [aq 29 5,aq 30 4,j2 31 30,fU .lss T.a 32 29 31] (jL 32 .skip (.exit 2))) (.seq (.cu 3 (.seq (.qD [aq 35 4,aq 36 5,dE 37 2 35 36,h0 38 2 37,aq 39 4,aq 40 5,gZ .sub T.a 41 40 1,dE 42 2 39 41,h0 43 2 42,fU .neq T.f 44 38 43]) (jL 44 (cJ [aq 45 0,aq 46 3,aq 47 4,aq 48 5,dE 49 2 47 48,h0 50 2 49,dE 51 2 45 46,pC 2 51 50] (.dk [aq 52 3,gZ .add T.a 53 52 1,aq 3 53])) .skip))) (.dk [aq 33 5,gZ .add T.a 34 33 1,aq 5 34])))))) (cJ [aq 54 0,aq 55 3,bD 56 (.hl 2 (ae 54) (some (ae 55)) none none),e6 (.raw (.call ⟨.builtin .clear,#[(ae 56)],#[T.u]⟩) T.z)] (cJ [aq 57 0,aq 58 3,bD 59 (.hl 2 (ae 57) none (some (ae 58)) none),aq 2 59] .ret)))) .skip))) (.dk [aq 14 3,gZ .add T.a 15 14 1,aq 3 15])))))) (cJ [aq 60 0,aq 2 60] .ret))))⟩:=bg
theorem E.MX:bf F.MX ⟨9,[.tmp 4], (cJ [fe 4 (js false)] (cJ [aq 5 0,aq 6 1,nC 7 F.f8 [5,6],gZ .geq T.a 8 7 0,aq 4 8] .ret))⟩:=bg
theorem E.f7:bf F.f7 ⟨19,[.tmp 4], (cJ [fe 4 (cf 0)] (.seq (cJ [aq 6 0,j2 7 6,fe 8 (cf 0)] (.cu 0 (.loop (cJ [fU .lss T.a 9 8 7] (uS 9 0
 (.seq (.cu 1 (cJ [aq 10 8,aq 5 10] (cJ [aq 11 1,aq 12 0,aq 13 5,dE 14 6 12 13,h0 15 6 14,cb 16 (.val (ae 11) [(ae 15)])] (jL 16 (cJ [aq 17 5,aq 4 17] .ret) .skip)))) (uR T.a 18 8))))))) (cJ [fe 4 (cf (-1))] .ret)))⟩:=bg
theorem E.c8:bf F.c8 ⟨8,[.tmp 2], (cJ [fe 2 (.const cp)] (.seq (cJ [aq 3 0,bD 4 (.bin .eql T.ru (ae 3) (.const cp))] (jL 4 (cJ [fe 2 (.const cp)] .ret) .skip)) (cJ [bN 5 (.fZ T.pM 0 2 [] []),aq 6 0,bN 7 (.app T.ru T.pM 2 24 (ae 5) (ae 6)),aq 2 7] .ret)))⟩:=bg
theorem E.dQ:bf F.dQ ⟨8,[.tmp 2], (cJ [fe 2 (.const cp)] (.seq (cJ [aq 3 0,bD 4 (.bin .eql T.sx (ae 3) (.const cp))] (jL 4 (cJ [fe 2 (.const cp)] .ret) .skip)) (cJ [bN 5 (.fZ T.m 0 6 [] []),aq 6 0,bN 7 (.app T.sx T.m 6 56 (ae 5) (ae 6)),aq 2 7] .ret)))⟩:=bg
theorem E.gm:bf F.gm ⟨8,[.tmp 2], (cJ [fe 2 (.const cp)] (.seq (cJ [aq 3 0,bD 4 (.bin .eql T.GJ (ae 3) (.const cp))] (jL 4 (cJ [fe 2 (.const cp)] .ret) .skip)) (cJ [bN 5 (.fZ T.t 0 6 [] []),aq 6 0,bN 7 (.app T.GJ T.t 6 56 (ae 5) (ae 6)),aq 2 7] .ret)))⟩:=bg
theorem E.f8:bf F.f8 ⟨19,[.tmp 4], (cJ [fe 4 (cf 0)] (.seq (cJ [aq 6 0,j2 7 6,fe 8 (cf 0)] (.cu 0 (.loop (cJ [fU .lss T.a 9 8 7] (uS 9 0
 (.seq (.cu 1 (cJ [aq 10 8,aq 5 10] (cJ [aq 11 1,aq 12 0,aq 13 5,dE 14 6 12 13,h0 15 6 14,cb 16 (.val (ae 11) [(ae 15)])] (jL 16 (cJ [aq 17 5,aq 4 17] .ret) .skip)))) (uR T.a 18 8))))))) (cJ [fe 4 (cf (-1))] .ret)))⟩:=bg
theorem E.c3:bf F.c3 ⟨8,[.tmp 2], (cJ [fe 2 (.const cp)] (.seq (cJ [aq 3 0,bD 4 (.bin .eql T.u (ae 3) (.const cp))] (jL 4 (cJ [fe 2 (.const cp)] .ret) .skip)) (cJ [bN 5 (.fZ T.f 0 2 [] []),aq 6 0,bN 7 (.app T.u T.f 2 16 (ae 5) (ae 6)),aq 2 7] .ret)))⟩:=bg
end Go.Proofs.R
end
section
namespace bb
open Go Go.RowKit
section
variable{α:Type}{P:Program}{f:FuncId}{t Ag:TypeId}{sz:Nat}{enc:α->List Value}
def Mi(cz t:F_)(sz b:Nat):mq:=⟨8,[.tmp 2],
 (.seq (.dk [fe 2 (.const (.slice none 0 0))])
 (.seq (.seq (.dk [aq 3 0,bD 4 (.bin .eql cz (ae 3) (.const (.slice none 0 0)))])
 (.cond (ae 4) (.seq (.dk [fe 2 (.const (.slice none 0 0))])
 .ret)
 .skip))
 (.seq (.dk [bN 5 (.fZ t 0 sz [] []),aq 6 0,bN 7 (.app cz t sz b (ae 5) (ae 6)),aq 2 7])
 .ret)))⟩
theorem Vb{R:A_->Addr->α->Prop}{C:A_->C_ B_->α->Prop}[Rel R C sz]{cz:F_}{b:Nat}(hm:P.follows .mixedOrders=true)(dK:k6 P f=some (Mi cz t sz b))(EJ:P.underlying cz=some (.slice t))
  (v:B_)(xs:C_ α)(w:A_)(h:bh sz R w v xs)(ak:xs.length*b<=140737488355328) :
  a7 P f #[v] w fun b9 w'=>(∃cm:C_ (e1 sz),cm.length=xs.length/\oV t sz w.heap.size w' b9 cm/\∀i (h1:i<cm.length) (I:i<xs.length),C w' cm[i].1 xs[i])/\Ext w w':=by
 obtain⟨bO,c1,rfl,bo⟩:=h.form;refine _h hm dK (args:=[_]) (Nat.le_of_ble_eq_true rfl) ?_;dsimp only[Mi,ae,cf,js,bD,ez,bN,cb,e6,bT,aq,fe,bl,bp,dE,ys,j2];refine J ?_;refine AB1 EJ ?_;refine J ?_;refine N_ (fun g=>?_) (fun g=>?_)
 .refine J ?_
  have:xs=[]:=by
   obtain⟨aQ,cap,e,I,ab,aD,aY⟩:=h.ex;injection e with bt aI ba
   subst bt;by_cases ag:xs=[]
   .exact ag
   .have:=aD ag
    cases bO<;>simp_all
  subst this;exact⟨⟨[],rfl,aW.nil _ _ _ _ _,fun i h=>by cases h⟩,Ext.refl _⟩
 obtain⟨a,rfl⟩:∃a,bO=some a:=by cases bO with | none=>cases g | some a=>exact⟨a,rfl⟩
 obtain⟨cm,aF,gx,bC⟩:=h.cells;refine J ?_;intro w1 bo cT al ai;refine J ?_;have aM:oV t sz w.heap.size w1 (.slice (some ⟨bo,0,none⟩) 0 0) []:=aW.empty cT ai;refine _X (ys:=cm) aM jS (bh.flat jS (fun _ _ h=>h) (bh.ext Flat.ext al gx)) (by rw[aF]) sN (by rw[List.length_nil,Nat.zero_add,aF];exact ak) (by have:=gx.len;have e:=h.len;rw[List.length_nil,aF];omega) (by exact al.size) fun b9 w' mC aK _=>?_;obtain⟨aQ,cap,rfl,_⟩:=mC.form;have ao:Ext w w':=al.grown aK fun k hk=>by injection hk with hk;subst hk;exact cT
 refine J ?_;exact⟨⟨cm,aF,by simpa using mC,fun i h1 I=>Rel.ext (R:=R) ao (bC i h1 I)⟩,ao⟩
theorem eD.clone{R:A_->Addr->α->Prop}{C:A_->C_ B_->α->Prop}[Rel R C sz]{w w':A_}{v:B_}{xs:C_ α}{cm:C_ (e1 sz)}(aF:cm.length=xs.length)(aM:oV t sz w.heap.size w' v cm)
  (ax:∀{w w':A_} {cs x},C w cs x->C w' cs x)(ah:∀i (h1:i<cm.length) (I:i<xs.length),C w' cm[i].1 xs[i]):eD w (fun w=>bh sz R w v xs) w':=fun aH m=>by
 have fo:=aW.mod aM m fun k hk a=>by have:=(aM.lt k hk).1;omega
 exact bh.Fj aF (fo.jH jS) fun i h1 I=>ax (ah i h1 I)
theorem GX{R:A_->Addr->α->Prop}{C:A_->C_ B_->α->Prop}[Rel R C sz]{cz:F_}{b:Nat}(hm:P.follows .mixedOrders=true)(dK:k6 P f=some (Mi cz t sz b))(EJ:P.underlying cz=some (.slice t))
  (ax:∀{w w':A_} {cs x},C w cs x->C w' cs x)(v:B_)(xs:C_ α)(w:A_)(h:bh sz R w v xs)(ak:xs.length*b<=140737488355328) :
  a7 P f #[v] w fun b9 w'=>(∃aQ c,b9 = .slice aQ xs.length c)/\eD w (fun w=>bh sz R w b9 xs) w'/\Ext w w' :=
 (Vb hm dK EJ v xs w h ak).mono fun b9 w' ⟨⟨cm,aF,aM,ah⟩,he⟩=>by
  have ay:=eD.clone (R:=R) aF aM ax ah;obtain⟨aQ,c,e,_⟩:=ay.here.form;exact⟨⟨aQ,c,e⟩,ay,he⟩
def Ph(Ag:F_)(sz:Nat):mq:=⟨19,[.tmp 4],
 (.seq (.dk [fe 4 (cf 0)])
 (.seq (.seq (.dk [aq 6 0,j2 7 6,fe 8 (cf 0)])
 (.cu 0 (.loop (.seq (.dk [bD 9 (.bin .lss Ag (ae 8) (ae 7))])
 (.seq (.cond (ae 9) .skip
 (.exit 0))
 (.seq (.cu 1 (.seq (.dk [aq 10 8,aq 5 10])
 (.seq (.dk [aq 11 1,aq 12 0,aq 13 5,dE 14 sz 12 13,ez 15 (.dY sz (ae 14)),cb 16 (.val (ae 11) [(ae 15)])])
 (.cond (ae 16) (.seq (.dk [aq 17 5,aq 4 17])
 .ret)
 .skip))))
 (.dk [bD 18 (.bin .add Ag (ae 8) (cf 1)),aq 8 18])))))))
 (.seq (.dk [fe 4 (cf (-1))])
 .ret)))⟩
def lE(p:α->Bool):C_ α->Nat->Int
 | [],_ => -1
 | x :: r,i=>if p x then i else lE p r (i+1)
theorem MP{p:α->Bool}{l:C_ α}{k:Nat}(h:k<l.length):lE p (l.drop k) k=if p l[k] then (k:Int) else lE p (l.drop (k+1)) (k+1):=by
 rw[List.drop_eq_getElem_cons h];rfl
theorem HL{p:α->Bool}:∀{l:C_ α} {i:Nat},(0<=lE p l i↔l.any p=true)
 | [],_=>by simp[lE]
 | x :: r,i=>by
  simp only[lE,List.any_cons];by_cases h:p x=true
  .rw[if_pos h];simp[h]
  .rw[if_neg h,HL];simp[h]
theorem Pj{R:A_->Addr->α->Prop}{C:A_->C_ B_->α->Prop}[Rel R C sz](hm:P.follows .mixedOrders=true)(dK:k6 P f=some (Ph Ag sz))
  (v:B_)(xs:C_ α)(w:A_)(h:bh sz R w v xs)(g:E_)(aK:okF P g=true)(first cap:C_ B_)(p:α->Bool)
  (ar:∀(i:Nat) (U:i<xs.length) (cs:C_ B_) (w':A_),Ext w w'->C w' cs xs[i]->a7 P g (first++[Value.agg cs.toArray]++cap).toArray w' fun v bK=>v = .bool (p xs[i])/\Ext w' bK) :
  a7 P f #[v,.func (.func g) first.toArray cap.toArray] w fun b9 w'=>b9 = .int .i64 (lE p xs 0)/\Ext w w':=by
 obtain⟨bO,c1,rfl,bo⟩:=h.form;refine _h hm dK (args:=[_,_]) (Nat.le_of_ble_eq_true rfl) ?_;dsimp only[Ph,ae,cf,js,bD,ez,bN,cb,e6,bT,aq,fe,bl,bp,dE,ys,j2];refine J ?_;refine L_ 8 xs.length [0,1,7] (fun _=>[]) () (fun k _ w'=>Ext w w'/\lE p xs 0=lE p (xs.drop k) k) bc bc ⟨Ext.refl _,by simp⟩ ?_;rintro k _ S aH hk ⟨ao,a8⟩;refine J ?_;apply I_<;>intro g1
 .have aZ:k<xs.length:=by omega
  obtain⟨a,rfl⟩:=h.addr;obtain⟨cs,gx,bC⟩:=Rel.out (h.at k aZ);have hlen:=Rel.len (R:=R) bC;rw[MP aZ] at a8;refine J ?_;refine _B (gx.ext ao) hlen ?_;refine J ?_;refine U_ aK (ar k aZ cs aH ao (Rel.ext (R:=R) ao bC)) ?_;rintro _ aP ⟨rfl,aj⟩;refine J ?_;refine N_ (fun g2=>?_) (fun g2=>?_)
  .refine J ?_;exact⟨by rw[a8,if_pos g2],ao.trans aj⟩
  .refine J ?_;exact⟨aZ,aU,(),trivial,ao.trans aj,by rw[a8,if_neg (by simp[g2])]⟩
 .refine J ?_;exact⟨by rw[a8,List.drop_eq_nil_of_le (by omega)];rfl,ao⟩
def Vo(Ag:F_)(g:E_):mq:=⟨9,[.tmp 4],
 (.seq (.dk [fe 4 (js false)])
 (.seq (.dk [aq 5 0,aq 6 1,cb 7 (.fn g [(ae 5),(ae 6)]),bD 8 (.bin .geq Ag (ae 7) (cf 0)),aq 4 8])
 .ret))⟩
theorem Vp{R:A_->Addr->α->Prop}{C:A_->C_ B_->α->Prop}[Rel R C sz]{tU:E_}{aqe:F_}(hm:P.follows .mixedOrders=true)(aht:k6 P tU=some (Vo aqe f))(dK:k6 P f=some (Ph Ag sz))
  (v:B_)(xs:C_ α)(w:A_)(h:bh sz R w v xs)(g:E_)(aK:okF P g=true)(first cap:C_ B_)(p:α->Bool)
  (ar:∀(i:Nat) (U:i<xs.length) (cs:C_ B_) (w':A_),Ext w w'->C w' cs xs[i]->a7 P g (first++[Value.agg cs.toArray]++cap).toArray w' fun v bK=>v = .bool (p xs[i])/\Ext w' bK) :
  a7 P tU #[v,.func (.func g) first.toArray cap.toArray] w fun b9 w'=>b9 = .bool (xs.any p)/\Ext w w':=by
 refine _h hm aht (args:=[_,_]) (Nat.le_of_ble_eq_true rfl) ?_;dsimp only[Vo,ae,cf,js,bD,ez,bN,cb,e6,bT,aq,fe,bl,bp,dE,ys,j2];refine J ?_;refine J_ (Pj hm dK v xs w h g aK first cap p ar) ?_;rintro _ aH ⟨rfl,ao⟩;refine J ?_;refine⟨?_,ao⟩;congr 1;rw[Bool.eq_iff_iff,decide_eq_true_eq];exact HL
end
end bb
end
section
namespace bb
open Go Go.RowKit
structure yM(w:World)(a:Addr)(n:Int):Prop where
 cells:e0 w a [Value.int .i64 n]
 ok:o.dH n
theorem yM.ext(w w':A_)(a:Addr)(n:Int)(he:Ext w w')(h:yM w a n):yM w' a n:=⟨h.cells.ext he,h.ok⟩
instance atb:qj yM (fun n=>[Value.int .i64 n]):=⟨fun _ _ _ h=>h.cells⟩
abbrev oq(w:A_)(v:B_)(l:C_ Int):Prop:=bh 1 yM w v l
theorem oq.ext{w w':A_}{v:B_}{l:C_ Int}(he:Ext w w')(h:oq w v l):oq w' v l:=bh.ext yM.ext he h
theorem oq.ok{w:A_}{v:B_}{l:C_ Int}(h:oq w v l):∀z∈l,o.dH z:=by
 intro z bA;obtain⟨i,U,rfl⟩:=List.mem_iff_getElem.1 bA;obtain⟨aQ,cap,rfl,_⟩:=h.form;obtain⟨a,rfl⟩:=h.addr;exact(h.at i U).ok
def AJ(w:A_)(a:Addr)(l:C_ Int):Prop := ∃v,w.cell? a=some v/\oq w v l
theorem AJ.ext(w w':A_)(a:Addr)(l:C_ Int)(he:Ext w w')(h:AJ w a l):AJ w' a l:=let ⟨v,h1,I⟩:=h; ⟨v,he.cell h1,I.ext he⟩
abbrev u6(w:A_)(v:B_)(l:C_ (C_ Int)):Prop:=bh 1 AJ w v l
theorem u6.ext{w w':A_}{v:B_}{l:C_ (C_ Int)}(he:Ext w w')(h:u6 w v l):u6 w' v l:=bh.ext AJ.ext he h
end bb
namespace o
open Go Go.RowKit bb
structure pF(w:World)(cs:List Value)(v:Env):Prop where
 ex:∃v0 v1 v2 v3,cs=[v0,v1,v2,v3,.int .i64 v.self]/\u6 w v0 v.vars/\oq w v1 v.lens/\oq w v2 v.locals/\u6 w v3 v.at_/\dH v.self
theorem pF.ext{w w':A_}{cs:C_ B_}{v:Env}(he:Ext w w')(h:pF w cs v):pF w' cs v :=
 let ⟨v0,v1,v2,v3,e,af,h1,I,ab,aD⟩:=h.ex
 ⟨v0,v1,v2,v3,e,af.ext he,h1.ext he,I.ext he,ab.ext he,aD⟩
theorem pF.form{w:A_}{cs:C_ B_}{v:Env}(h:pF w cs v):∃a0 bw df c1 a2 c2 a3 br,cs=[.slice a0 v.vars.length bw,.slice df v.lens.length c1,.slice a2 v.locals.length c2,.slice a3 v.at_.length br,.int .i64 v.self] /\
  u6 w (.slice a0 v.vars.length bw) v.vars/\oq w (.slice df v.lens.length c1) v.lens/\oq w (.slice a2 v.locals.length c2) v.locals/\u6 w (.slice a3 v.at_.length br) v.at_/\dH v.self /\
  v.vars.length<=9223372036854775807/\v.lens.length<=9223372036854775807/\v.locals.length<=9223372036854775807/\v.at_.length<=9223372036854775807:=by
 obtain⟨v0,v1,v2,v3,rfl,af,h1,I,ab,aD⟩:=h.ex;obtain⟨a0,bw,rfl,eU⟩:=af.form;obtain⟨df,c1,rfl,ek⟩:=h1.form;obtain⟨a2,c2,rfl,ev⟩:=I.form;obtain⟨a3,br,rfl,ef⟩:=ab.form;exact⟨a0,bw,df,c1,a2,c2,a3,br,rfl,af,h1,I,ab,aD,eU,ek,ev,ef⟩
end o
end
section
namespace bb
open Go Go.RowKit
theorem bh.one{α:Type}{sz:Nat}{R:A_->Addr->α->Prop}{w:A_}{v:B_}{xs:C_ α}(h:bh sz R w v xs):v.oneCell'=true:=by
 obtain⟨aQ,c,rfl,_⟩:=h.form;rfl
def acI(_:A_)(cs:C_ B_)(n:Int):Prop:=cs=[Value.int .i64 n]/\o.dH n
instance atm:Rel yM acI 1 where
 out h:=⟨_,h.cells,rfl,h.ok⟩
 n1 h k:=by obtain⟨rfl,k⟩:=k;exact⟨h,k⟩
 len h:=by rw[h.1];rfl
 one h:=by rw[h.1];simp[Value.oneCell']
 ext _ h:=h
def acY(w:A_)(cs:C_ B_)(l:C_ Int):Prop := ∃v,cs=[v]/\oq w v l
instance att:Rel AJ acY 1 where
 out h:=by
  obtain⟨v,h1,I⟩:=h;exact⟨[v],fun j u aE=>by cases j with | zero=>simp at aE;subst aE;rw[add_zero];exact h1 | succ j=>simp at aE,v,rfl,I⟩
 n1 h k:=by
  obtain⟨v,rfl,k⟩:=k
  have:=h 0 v rfl
  rw[add_zero] at this;exact⟨v,this,k⟩
 len h:=by obtain⟨v,rfl,_⟩:=h;rfl
 one h:=by obtain⟨v,rfl,h⟩:=h;simpa using h.one
 ext e h:=let ⟨v,h1,I⟩:=h; ⟨v,h1,I.ext e⟩
end bb
namespace o
open Go Go.RowKit bb
def acZ(_:A_)(cs:C_ B_)(x:Scalar):Prop:=cs=x.enc/\jo x.name
def ac0(_:A_)(cs:C_ B_)(x:Var):Prop:=cs=x.enc/\jo x.name
def acy(_:A_)(cs:C_ B_)(x:dv):Prop:=cs=x.enc/\jo x.name
def acN(_:A_)(cs:C_ B_)(x:Node):Prop:=cs=x.enc/\x.ok
instance atu:Rel jO acZ 2 where
 out h:=⟨_,h.cells,rfl,h.ok⟩
 n1 h k:=by obtain⟨rfl,k⟩:=k;exact⟨h,k⟩
 len h:=by rw[h.1];rfl
 one h:=by rw[h.1];simp[Scalar.enc,Value.oneCell']
 ext _ h:=h
instance atv:Rel qs ac0 6 where
 out h:=⟨_,h.cells,rfl,h.ok⟩
 n1 h k:=by obtain⟨rfl,k⟩:=k;exact⟨h,k⟩
 len h:=by rw[h.1];rfl
 one h:=by rw[h.1];simp[Var.enc,Value.oneCell']
 ext _ h:=h
instance atj:Rel qq acy 6 where
 out h:=⟨_,h.cells,rfl,h.ok⟩
 n1 h k:=by obtain⟨rfl,k⟩:=k;exact⟨h,k⟩
 len h:=by rw[h.1];rfl
 one h:=by rw[h.1];simp[dv.enc,Value.oneCell']
 ext _ h:=h
instance ato:Rel yN acN 2 where
 out h:=⟨_,h.cells,rfl,h.ok⟩
 n1 h k:=by obtain⟨rfl,k⟩:=k;exact⟨h,k⟩
 len h:=by rw[h.1];rfl
 one h:=by rw[h.1];simp[Node.enc,Value.oneCell']
 ext _ h:=h
def CG(w:A_)(cs:C_ B_)(x:Act):Prop := ∃bM b7,cs=x.enc bM b7/\eV w bM x.index/\eV w b7 x.value
theorem CG.ext{w w':A_}{cs:C_ B_}{c:Act}(he:Ext w w')(h:CG w cs c):CG w' cs c:=let ⟨bM,b7,h1,I,ab⟩:=h; ⟨bM,b7,h1,I.ext he,ab.ext he⟩
instance ath:Rel yJ CG 5 where
 out h:=let ⟨bM,b7,h1,I,ab⟩:=h; ⟨_,h1,bM,b7,rfl,I,ab⟩
 n1 h k:=by obtain⟨bM,b7,rfl,I,ab⟩:=k;exact⟨bM,b7,h,I,ab⟩
 len h:=by obtain⟨bM,b7,rfl,I,ab⟩:=h;rfl
 one h:=by obtain⟨bM,b7,rfl,I,ab⟩:=h;simp[Act.enc,I.one,ab.one];simp[Value.oneCell']
 ext e h:=h.ext e
instance atk:Rel yK Au 6 where
 out h:=let ⟨af,bM,b7,h1,I,ab⟩:=h; ⟨_,h1,af,bM,b7,rfl,I,ab⟩
 n1 h k:=by obtain⟨af,bM,b7,rfl,I,ab⟩:=k;exact⟨af,bM,b7,h,I,ab⟩
 len h:=by obtain⟨af,bM,b7,rfl,I,ab⟩:=h;rfl
 one h:=by obtain⟨af,bM,b7,rfl,I,ab⟩:=h;simp[dI.enc,I.one,ab.one];simp[Value.oneCell']
 ext e h:=h.ext e
instance atr:Rel AH w6 5 where
 out h:=let ⟨af,bM,b7,h1,I,ab⟩:=h; ⟨_,h1,af,bM,b7,rfl,I,ab⟩
 n1 h k:=by obtain⟨af,bM,b7,rfl,I,ab⟩:=k;exact⟨af,bM,b7,h,I,ab⟩
 len h:=by obtain⟨af,bM,b7,rfl,I,ab⟩:=h;rfl
 one h:=by obtain⟨af,bM,b7,rfl,I,ab⟩:=h;simp[dz.enc,I.one,ab.one];simp[Value.oneCell']
 ext e h:=h.ext e
def Gx(w:A_)(cs:C_ B_)(x:k0):Prop:=jo x.name/\∃gI,cs=x.enc gI/\eV w gI x.expr
theorem Gx.ext{w w':A_}{cs:C_ B_}{c:k0}(he:Ext w w')(h:Gx w cs c):Gx w' cs c:=let ⟨af,bM,h1,I⟩:=h; ⟨af,bM,h1,I.ext he⟩
instance ats:Rel AI Gx 2 where
 out h:=let ⟨af,bM,h1,I⟩:=h; ⟨_,h1,af,bM,rfl,I⟩
 n1 h k:=by obtain⟨af,bM,rfl,I⟩:=k;exact⟨af,bM,h,I⟩
 len h:=by obtain⟨af,bM,rfl,I⟩:=h;rfl
 one h:=by obtain⟨af,bM,rfl,I⟩:=h;simp[k0.enc,I.one];simp[Value.oneCell']
 ext e h:=h.ext e
def abp:C_ jv:=[.i,.i]
end o
end
section
namespace bb
theorem aN{A B:Prop}(k:B)(h:wX B->A:=by
 intro q;simp -dsimp only[c0,cB,Nat.reduceAdd,Nat.reduceEqDiff,reduceIte,reduceCtorEq,dd];exact q.out):A:=h ⟨k⟩
end bb
end
section
namespace Go.Proofs.R
open Go Go.RowKit bb
abbrev acW:A_->Addr->Int->Prop:=Flat fun n=>[Value.int .i64 n]
abbrev Ints(w:A_)(v:B_)(l:C_ Int):Prop:=bh 1 acW w v l
theorem Ints.ext{w w':A_}{v:B_}{l:C_ Int}(he:Ext w w')(h:Ints w v l):Ints w' v l:=bh.ext Flat.ext he h
theorem Ints.cu{w:A_}{b n:Nat}{e:F_}{f:Nat×Nat}{xs:C_ Int}(ak:w.heap[b]? = some (.cells (xs.flatMap fun n=>[Value.int .i64 n]).toArray e f))(ay:n=xs.length)(hm:xs.length<=maxLen):Ints w (.slice (some ⟨b,0,none⟩) n n) xs :=
 bh.cu (enc:=fun n=>[Value.int .i64 n]) (fun _=>rfl) ak ay hm fun _ _ _ h=>h
theorem acb(v:B_)(l:C_ Int)(w:A_)(aF:Ints w v l):a7 Tryz.prog F.H0 #[v] w fun v w'=>v = .bool (l.all o.within)/\w'=w:=by
 obtain⟨aQ,cap,rfl,hlen⟩:=aF.form;refine bn E.H0 ?_;refine aN ?_;refine _i 7 l.length (fun k S w'=>w'=w/\(l.take k).all o.within=true) (by simp -dsimp only[c0,cB,Nat.reduceAdd,Nat.reduceEqDiff,reduceIte,reduceCtorEq,dd]) ⟨rfl,by simp⟩ ?_;rintro k S w' bZ hk b1 ⟨rfl,dA⟩;have af:=bZ 0 rfl;have aY:=bZ 5 rfl;have bx:=bZ 6 rfl;simp only[bL,Nat.reduceAdd,Nat.reduceEqDiff,reduceIte,jT,nf] at af aY bx;clear bZ;refine cg (i_ af (i_ aY (i_ bx b1))) ?_;refine I_ (fun h1=>?_) (fun h1=>?_);rotate_left
 .refine cg (i_ af (i_ aY (i_ bx b1))) ?_;rw[List.take_of_length_le (by omega)] at dA;rw[dA];exact ca
 have aZ:k<l.length:=by omega
 obtain⟨a,rfl⟩:=aF.addr;have xZ:l.take (k+1)=l.take k++[l[k]]:=List.take_succ_eq_append_getElem aZ;have rM:l.all o.within=((l.take (k+1)).all o.within&&(l.drop (k+1)).all o.within):=by rw[<-List.all_append,List.take_append_drop]
 rw[xZ,List.all_append] at rM
 (repeat' first
 | assumption
 | exact Ext.refl _
 | refine Ext.trans ?_ (by assumption)
 | refine Q_ (by omega) ?_
 | refine _K (by assumption) ?_ rfl ?_
 | refine _D (by assumption) ?_ rfl ?_
 | refine _O (by assumption) ?_ (by omega) rfl ?_
 | refine _P (by assumption) ?_ (by omega) rfl ?_
 | refine _Q (by assumption) ?_ (by omega) rfl ?_
 | refine _T (by omega) ?_
 | refine _R (by first | assumption | omega) ?_
 | refine _S (by first | assumption | omega) ?_
 | refine _G (by assumption) ?_
 | refine _H (by assumption) ?_
 | simp -dsimp only[c0,cB,Nat.reduceAdd,Nat.reduceEqDiff,reduceIte,reduceCtorEq,dd,aY,b1])
 generalize l[k]=z at *;refine I_ (fun I=>?_) (fun I=>?_)
 .refine aN ?_;rw[rM];refine⟨?_,trivial⟩
  have:o.within z=false:=by simp[o.within];omega
  simp[this]
 refine aN ?_;refine I_ (fun ab=>?_) (fun ab=>?_)
 .refine aN ?_;rw[rM];refine⟨?_,trivial⟩
  have:o.within z=false:=by simp[o.within];omega
  simp[this]
 refine cg b1 ?_;refine Q_ (by omega) ?_;refine aN ?_;refine⟨aZ,trivial,trivial,?_⟩;rw[xZ];simp[dA,o.within];omega
def Ge(f:E_)(g:Int->Int->Int):Prop := ∀a b w,(o.within a&&o.within b)=true->a7 Tryz.prog f #[.int .i64 a,.int .i64 b] w fun v w'=>v = .int .i64 (g a b)/\w'=w
theorem ada:Ge F.bJ (· + ·):=by
 intro a b w h;simp[o.within] at h;refine bn E.bJ ?_;refine az ?_;exact ca
theorem ap5:Ge F.ki (· - ·):=by
 intro a b w h;simp[o.within] at h;refine bn E.ki ?_;refine az ?_;exact ca
theorem ZW{a b:Int}(aV : -1048576<=a/\a<=1048576)(ak : -1048576<=b/\b<=1048576) : -1099511627776<=a*b/\a*b<=1099511627776:=by
 have h:(a*b).natAbs<=1048576*1048576:=by
  rw[Int.natAbs_mul];exact Nat.mul_le_mul (by omega) (by omega)
 omega
theorem ame:Ge F.l0 (· * ·):=by
 intro a b w h;simp[o.within] at h;have hm:=ZW h.1 h.2;refine bn E.l0 ?_;refine az ?_;exact ca
theorem Q4(f:E_)(g:Int->Int->Int)(ax:okF Tryz.prog f=true)(aK:Ge f g)(a b:Int)(w:A_) :
  a7 Tryz.prog F.hC #[.agg #[.func (.func f) #[] #[]],.int .i64 a,.int .i64 b] w fun v w'=>v = .tuple #[.int .i64 (o.tell g a b).1,.bool (o.tell g a b).2]/\Ext w w':=by
 refine bn E.hC ?_;refine aN ?_;refine O_ fun w1 p ar al ai=>?_;refine aN ?_;refine Y_ (cs:=[a,b].flatMap fun n=>[Value.int .i64 n]) (by simp[List.range,List.range.loop,eW,lay,dp,bL,jT,Value.cells]) fun aH q au ao av=>?_;refine aN ?_;refine J_ (acb _ [a,b] aH (Ints.cu av rfl (by simp[maxLen]))) ?_;rintro _ _ ⟨rfl,rfl⟩;refine aN ?_;refine N_ (fun h1=>?_) (fun h1=>?_);rotate_left
 .refine aN ?_
  have:(o.within a&&o.within b)=false:=by simpa using h1
  refine⟨?_,fw⟩;simp[o.tell,this]
 have D0:(o.within a&&o.within b)=true:=by simpa using h1
 refine az ?_;refine U_ (first:=[]) (cap:=[]) ax (aK a b _ D0) ?_;rintro _ _ ⟨rfl,rfl⟩;refine aN ?_;refine Y_ (cs:=[g a b].flatMap fun n=>[Value.int .i64 n]) (by simp[List.range,List.range.loop,eW,lay,dp,bL,jT,Value.cells]) fun aP dU asS aj bu=>?_;refine aN ?_;refine J_ (acb _ [g a b] aP (Ints.cu bu rfl (by simp[maxLen]))) ?_;rintro _ _ ⟨rfl,rfl⟩;refine aN ?_;refine N_ (fun I=>?_) (fun I=>?_)
 .refine aN ?_
  have:o.within (g a b)=true:=by simpa using I
  refine⟨?_,fw⟩;simp[o.tell,D0,this]
 .refine aN ?_
  have:o.within (g a b)=false:=by simpa using I
  refine⟨?_,fw⟩;simp[o.tell,this]
def tC(f:E_)(g:Int->Int->Int×Bool):Prop := ∀a b w,a7 Tryz.prog f #[.int .i64 a,.int .i64 b] w fun v w'=>v = .tuple #[.int .i64 (g a b).1,.bool (g a b).2]/\Ext w w'
theorem LN:tC F.qw (o.tell (· + ·)):=by
 intro a b w;refine bn E.qw ?_;refine aN ?_;refine W_ (cs:=[.func (.func F.bJ) #[] #[]]) (by simp[eW,lay,vp,Value.cells]) ?_;refine aN ?_;refine J_ (Q4 _ _ (by kernel_rfl) ada a b w) ?_;rintro _ w1 ⟨rfl,he⟩;refine aN ?_;exact ca
theorem abI:tC F.sA (o.tell (· - ·)):=by
 intro a b w;refine bn E.sA ?_;refine aN ?_;refine W_ (cs:=[.func (.func F.ki) #[] #[]]) (by simp[eW,lay,vp,Value.cells]) ?_;refine aN ?_;refine J_ (Q4 _ _ (by kernel_rfl) ap5 a b w) ?_;rintro _ w1 ⟨rfl,he⟩;refine aN ?_;exact ca
theorem amf:tC F.sB (o.tell (· * ·)):=by
 intro a b w;refine bn E.sB ?_;refine aN ?_;refine W_ (cs:=[.func (.func F.l0) #[] #[]]) (by simp[eW,lay,vp,Value.cells]) ?_;refine aN ?_;refine J_ (Q4 _ _ (by kernel_rfl) ame a b w) ?_;rintro _ w1 ⟨rfl,he⟩;refine aN ?_;exact ca
theorem UR(b:Bool)(w:A_):a7 Tryz.prog F.HQ #[.bool b] w fun v w'=>v = .int .i64 (o.bit b)/\w'=w:=by
 refine bn E.HQ ?_;refine aN ?_;refine N_ (fun h=>?_) (fun h=>?_)
 all_goals
  subst h;refine aN ?_;exact ca
theorem amY:tC F.iP fun a _=>(o.bit (decide (a=0)),true):=by
 intro a b w;refine bn E.iP ?_;refine aN ?_;refine J_ (UR _ w) ?_;rintro _ _ ⟨rfl,rfl⟩;refine aN ?_;exact ca
theorem amZ:tC F.qx fun a _=>o.tell (· - ·) 0 a:=by
 intro a b w;refine bn E.qx ?_;refine aN ?_;refine J_ (abI 0 a w) ?_;rintro _ w1 ⟨rfl,he⟩;refine aN ?_;exact ca
def u0(f:E_)(p:Int->Int->Bool):Prop := ∀a b w,a7 Tryz.prog f #[.int .i64 a,.int .i64 b] w fun v w'=>v = .bool (p a b)/\w'=w
theorem am0:u0 F.am fun a b=>decide (a=b):=by
 intro a b w;refine bn E.am ?_;refine aN ?_;exact ca
theorem am1:u0 F.sD fun a b => !decide (a=b):=by
 intro a b w;refine bn E.sD ?_;refine aN ?_;exact ca
theorem am2:u0 F.sE fun a b=>decide (a<b):=by
 intro a b w;refine bn E.sE ?_;refine aN ?_;exact ca
theorem am3:u0 F.ap fun a b=>decide (a<=b):=by
 intro a b w;refine bn E.ap ?_;refine aN ?_;exact ca
theorem am4:u0 F.tI fun a b => !decide (a=0) && !decide (b=0):=by
 intro a b w;refine bn E.tI ?_;refine aN ?_;refine I_ (fun h=>?_) (fun h=>?_)
 all_goals
  refine aN ?_;exact⟨by simp[h],trivial⟩
theorem am5:u0 F.kD fun a b => !decide (a=0) || !decide (b=0):=by
 intro a b w;refine bn E.kD ?_;refine aN ?_;refine I_ (fun h=>?_) (fun h=>?_)
 all_goals
  refine aN ?_;exact⟨by simp[h],trivial⟩
end Go.Proofs.R
end
section
namespace Go.Proofs.R
open Go Go.RowKit bb
def wS(w:A_)(v:B_)(g:Int->Int->Int×Bool):Prop :=
 (∃f,v = .func (.func f) #[] #[]/\okF Tryz.prog f=true/\tC f g) \/
 (∃c f p,v = .func (.func F.q) #[] #[.pointer (some ⟨c,0,none⟩)]/\w.heap[c]? = some (.cells #[.func (.func f) #[] #[]] T.ac)/\okF Tryz.prog f=true/\u0 f p/\g=fun a b=>(o.bit (p a b),true))
theorem apa(c f:Nat)(p:Int->Int->Bool)(a b:Int)(w:A_)(ah:w.heap[c]? = some (.cells #[.func (.func f) #[] #[]] T.ac))(ax:okF Tryz.prog f=true)(ar:u0 f p) :
  a7 Tryz.prog F.q #[.int .i64 a,.int .i64 b,.pointer (some ⟨c,0,none⟩)] w fun v w'=>v = .tuple #[.int .i64 (o.bit (p a b)),.bool true]/\Ext w w':=by
 refine bn E.q ?_;refine az ?_;refine U_ (first:=[]) (cap:=[]) ax (ar a b w) ?_;rintro _ _ ⟨rfl,rfl⟩;refine aN ?_;refine J_ (UR _ _) ?_;rintro _ _ ⟨rfl,rfl⟩;refine aN ?_;exact ca
theorem AB5{v:B_}{g:Int->Int->Int×Bool}{a b:Int}{w:A_}{cW:B_->A_->Prop}{t}(h:wS w v g)(hk:∀w',Ext w w'->cW (.tuple #[.int .i64 (g a b).1,.bool (g a b).2]) w'):uW Tryz.prog v [.int .i64 a,.int .i64 b] w cW t:=by
 rcases h with ⟨f,rfl,ax,h⟩ | ⟨c,f,p,rfl,ah,ax,h,rfl⟩
 .exact _e (first:=[]) (cap:=[]) ax (h a b w) fun v w' ⟨h1,I⟩=>by subst h1;exact hk w' I
 .exact _e (first:=[]) (cap:=[_]) (by kernel_rfl) (apa c f p a b w ah ax h) fun v w' ⟨h1,I⟩=>by subst h1;exact hk w' I
def CW(w:A_)(ad:o.oU)(v:B_):Prop := ∃u,v = .agg #[.int .i64 ad.parts,.int .i64 ad.jq,.int .i64 ad.makes,u]/\wS w u ad.y4
def qo(w:A_)(m:B_):Prop := ∃r es c l,m = .map (some r)/\w.heap[r]? = some (.map es c)/\iw (Value.int .i64) es.toList l /\
 ∀x:Int,match o.gQ x with
  | some ad => ∃p,l.find? (fun p=>decide (x=p.1))=some p/\CW w ad p.2
  | none=>l.find? (fun p=>decide (x=p.1))=none
theorem Co(jq:Int)(f:Nat)(w:A_):a7 Tryz.prog F.i #[.int .i64 jq,.func (.func f) #[] #[]] w
  fun v w'=>(∃c,v = .agg #[.int .i64 2,.int .i64 jq,.int .i64 1,.func (.func F.q) #[] #[.pointer (some ⟨c,0,none⟩)]]/\w'.heap[c]? = some (.cells #[.func (.func f) #[] #[]] T.ac))/\Ext w w':=by
 refine bn E.i ?_;refine aN ?_;refine O_ fun w1 c ah al ai=>?_;refine aN ?_;refine O_ fun aH b ak ao av=>?_;refine aN ?_;refine W_ (cs:=[.int .i64 2,.int .i64 jq,.int .i64 1,.func (.func F.q) #[] #[.pointer (some ⟨c,0,none⟩)]]) (by simp[eW,lay,dp,nT,bL,jT,Value.cells]) ?_;refine aN ?_;refine T_ av rfl rfl (by simp[Value.oneCell']) fun aP hw bu=>?_;have h1:=cy ai;have cw:c≠b:=by omega
 refine aN ?_;refine _B (hA bu) rfl ?_;refine aN ?_;exact⟨⟨c,rfl,(hw.block c cw).trans (ao.obj ai)⟩,hw.ext (al.trans ao) (by have:=al.size;omega)⟩
theorem am6(w:A_):a7 Tryz.prog F.xx #[] w fun v w'=>qo w' v/\Ext w w':=by
 refine bn E.xx ?_;refine aN ?_;refine _g fun w0 r aL Bz m0=>?_;refine aN ?_;refine W_ (cs:=[.int .i64 1,.int .i64 1,.int .i64 1,.func (.func F.iP) #[] #[]]) (by simp[eW,lay,dp,nT,vp,bL,jT,Value.cells]) ?_;refine aN ?_;refine _I m0 rfl fun w1 j0 m1=>?_;refine aN ?_;refine W_ (cs:=[.int .i64 1,.int .i64 0,.int .i64 0,.func (.func F.qx) #[] #[]]) (by simp[eW,lay,dp,nT,vp,bL,jT,Value.cells]) ?_;refine aN ?_;refine _I m1 rfl fun aH kX m2=>?_;refine aN ?_;refine W_ (cs:=[.int .i64 2,.int .i64 0,.int .i64 0,.func (.func F.qw) #[] #[]]) (by simp[eW,lay,dp,nT,vp,bL,jT,Value.cells]) ?_;refine aN ?_;refine _I m2 rfl fun aP pB m3=>?_;refine aN ?_;refine W_ (cs:=[.int .i64 2,.int .i64 0,.int .i64 0,.func (.func F.sA) #[] #[]]) (by simp[eW,lay,dp,nT,vp,bL,jT,Value.cells]) ?_;refine aN ?_;refine _I m3 rfl fun aR oP m4=>?_;refine aN ?_;refine W_ (cs:=[.int .i64 2,.int .i64 0,.int .i64 0,.func (.func F.sB) #[] #[]]) (by simp[eW,lay,dp,nT,vp,bL,jT,Value.cells]) ?_;refine aN ?_;refine _I m4 rfl fun bq K9 m5=>?_;have bU:Ext w bq:=K9.ext (oP.ext (pB.ext (kX.ext (j0.ext Bz aL) aL) aL) aL) aL;clear j0 kX pB oP K9 m0 m1 m2 m3 m4;refine aN ?_;refine J_ (Co (-1) F.am _) ?_;rintro _ v6 ⟨⟨sG,rfl,B1⟩,Rv⟩;refine aN ?_;refine _I (Rv.obj m5) rfl fun bB acn m6=>?_;refine aN ?_;refine J_ (Co (-1) F.sD _) ?_;rintro _ Cx ⟨⟨mZ,rfl,wa⟩,Ld⟩;refine aN ?_;refine _I (Ld.obj m6) rfl fun bQ Rr m7=>?_;refine aN ?_;refine J_ (Co 0 F.sE _) ?_;rintro _ Rg ⟨⟨UY,rfl,Zf⟩,Le⟩;refine aN ?_;refine _I (Le.obj m7) rfl fun de La m8=>?_;refine aN ?_;refine J_ (Co 0 F.ap _) ?_;rintro _ v9 ⟨⟨adZ,rfl,ET⟩,Lf⟩;refine aN ?_;refine _I (Lf.obj m8) rfl fun dc Rs m9=>?_;refine aN ?_;refine J_ (Co 1 F.tI _) ?_;rintro _ v10 ⟨⟨adW,rfl,Zc⟩,Lb⟩;refine aN ?_;refine _I (Lb.obj m9) rfl fun eY Rp m10=>?_;refine aN ?_;refine J_ (Co 1 F.kD _) ?_;rintro _ v11 ⟨⟨adX,rfl,ES⟩,Lc⟩;refine aN ?_;refine _I (Lc.obj m10) rfl fun gw Rq m11=>?_;refine aN ?_;have ne:∀{w:A_} {c:Nat} {es:Array MapEntry} {n:Nat} {cs:Array B_} {t:F_},w.heap[r]? = some (.map es n)->w.heap[c]? = some (.cells cs t)->c≠r:=by
  intro w c es n cs t h1 I e;subst e;rw[h1] at I;injection I with I
  cases I
 have mW:=(acn.block sG (ne (Rv.obj m5) B1)).trans B1;have rr:=(Rr.block mZ (ne (Ld.obj m6) wa)).trans wa;have AR:=(La.block UY (ne (Le.obj m7) Zf)).trans Zf;have a9:=(Rs.block adZ (ne (Lf.obj m8) ET)).trans ET;have GG:=(Rp.block adW (ne (Lb.obj m9) Zc)).trans Zc;have ac3:=(Rq.block adX (ne (Lc.obj m10) ES)).trans ES;have t7:∀{c:Nat} {ad:Obj},c≠r->bB.heap[c]? = some ad->bQ.heap[c]? = some ad:=fun ah h=>(Rr.block _ ah).trans (Ld.obj h);have t8:∀{c:Nat} {ad:Obj},c≠r->bQ.heap[c]? = some ad->de.heap[c]? = some ad:=fun ah h=>(La.block _ ah).trans (Le.obj h);have t9:∀{c:Nat} {ad:Obj},c≠r->de.heap[c]? = some ad->dc.heap[c]? = some ad:=fun ah h=>(Rs.block _ ah).trans (Lf.obj h);have t10:∀{c:Nat} {ad:Obj},c≠r->dc.heap[c]? = some ad->eY.heap[c]? = some ad:=fun ah h=>(Rp.block _ ah).trans (Lb.obj h);have t11:∀{c:Nat} {ad:Obj},c≠r->eY.heap[c]? = some ad->gw.heap[c]? = some ad:=fun ah h=>(Rq.block _ ah).trans (Lc.obj h);have n6:=ne m6 mW;have n7:=ne m7 rr;have n8:=ne m8 AR;have n9:=ne m9 a9;have n10:=ne m10 GG;replace mW:=t11 n6 (t10 n6 (t9 n6 (t8 n6 (t7 n6 mW))));replace rr:=t11 n7 (t10 n7 (t9 n7 (t8 n7 rr)));replace AR:=t11 n8 (t10 n8 (t9 n8 AR));replace a9:=t11 n9 (t10 n9 a9);replace GG:=t11 n10 GG;have ag:Ext w gw:=Rq.ext ((Rp.ext ((Rs.ext ((La.ext ((Rr.ext ((acn.ext (bU.trans Rv) aL).trans Ld) aL).trans Le) aL).trans Lf) aL).trans Lb) aL).trans Lc) aL;refine⟨⟨r,_,_,[(9,_),(10,_),(11,_),(12,_),(13,_),(14,_),(15,_),(16,_),(17,_),(18,_),(19,_)],rfl,m11,rfl,fun x=>?_⟩,ag⟩;have a6:∀{f:Nat} {g:Int->Int->Int×Bool},okF Tryz.prog f=true->tC f g->wS gw (.func (.func f) #[] #[]) g:=fun h1 I=>.inl ⟨_,rfl,h1,I⟩;have an:∀{c f:Nat} {p:Int->Int->Bool},gw.heap[c]? = some (.cells #[.func (.func f) #[] #[]] T.ac)->okF Tryz.prog f=true->u0 f p->wS gw (.func (.func F.q) #[] #[.pointer (some ⟨c,0,none⟩)]) fun a b=>(o.bit (p a b),true) :=
  fun h1 I ab=>.inr ⟨_,_,_,rfl,h1,I,ab,rfl⟩
 unfold o.gQ;by_cases g9:x=9
 .subst g9;exact⟨_,rfl,_,rfl,a6 (by kernel_rfl) amY⟩
 by_cases g10:x=10
 .subst g10;exact⟨_,rfl,_,rfl,a6 (by kernel_rfl) amZ⟩
 by_cases g11:x=11
 .subst g11;exact⟨_,rfl,_,rfl,a6 (by kernel_rfl) LN⟩
 by_cases g12:x=12
 .subst g12;exact⟨_,rfl,_,rfl,a6 (by kernel_rfl) abI⟩
 by_cases g13:x=13
 .subst g13;exact⟨_,rfl,_,rfl,a6 (by kernel_rfl) amf⟩
 by_cases g14:x=14
 .subst g14;exact⟨_,rfl,_,rfl,an mW (by kernel_rfl) am0⟩
 by_cases g15:x=15
 .subst g15;exact⟨_,rfl,_,rfl,an rr (by kernel_rfl) am1⟩
 by_cases g16:x=16
 .subst g16;exact⟨_,rfl,_,rfl,an AR (by kernel_rfl) am2⟩
 by_cases g17:x=17
 .subst g17;exact⟨_,rfl,_,rfl,an a9 (by kernel_rfl) am3⟩
 by_cases g18:x=18
 .subst g18;exact⟨_,rfl,_,rfl,an GG (by kernel_rfl) am4⟩
 by_cases g19:x=19
 .subst g19;exact⟨_,rfl,_,rfl,an ac3 (by kernel_rfl) am5⟩
 simp[g9,g10,g11,g12,g13,g14,g15,g16,g17,g18,g19]
theorem qo.look{w:A_}{m:B_}(h:qo w m)(x:Int):∃es r,rn w m es/\Instr.findNow (.int .i64) (.int .i64 x) es.toList 0=some r /\
  match o.gQ x with
  | some ad => ∃i v,r=some (i,v)/\CW w ad v
  | none=>r=none:=by
 obtain⟨r,es,c,l,rfl,cU,lK,ag⟩:=h;obtain⟨q,h1,I⟩:=y8 (KD .i64 .i64) x es.toList l 0 lK;refine⟨es,q,.inr ⟨r,c,rfl,cU⟩,h1,?_⟩
 have:=ag x
 cases aM:o.gQ x with
 | none =>
  simp only[aM] at this ⊢;rw[this] at I;cases q with
  | none=>rfl
  | some q=>simp at I
 | some ad =>
  simp only[aM] at this ⊢;obtain⟨p,ar,aG⟩:=this;rw[ar] at I;cases q with
  | none=>simp at I
  | some q=>simp at I;exact⟨q.1,q.2,rfl,I ▸ aG⟩
theorem qo.mod{A:Nat->Prop}{w w':A_}{m:B_}(h:qo w m)(hm:Mod A w w')(dh:∀k ad,w.heap[k]? = some ad->(∃es c,ad = .map es c)\/(∃cs,ad = .cells cs T.ac)->¬A k):qo w' m:=by
 obtain⟨r,es,c,l,rfl,cU,lK,ag⟩:=h;refine⟨r,es,c,l,rfl,hm.obj (dh r _ cU (.inl ⟨_,_,rfl⟩)) cU,lK,fun x=>?_⟩
 have:=ag x
 cases aM:o.gQ x with
 | none=>simpa only[aM] using this
 | some ad =>
  simp only[aM] at this ⊢;obtain⟨p,ar,u,aG,a6⟩:=this;refine⟨p,ar,u,aG,?_⟩;rcases a6 with a6 | ⟨c,f,p,h1,I,ab⟩
  .exact .inl a6
  .exact .inr ⟨c,f,p,h1,hm.obj (dh c _ I (.inr ⟨_,rfl⟩)) I,ab⟩
theorem qo.ext{w w':A_}{m:B_}(h:qo w m)(he:Ext w w'):qo w' m:=h.mod (A:=fun _=>False) he.mod fun _ _ _ _ h=>h
theorem anw(x:Int)(m:B_)(w:A_)(h:qo w m):a7 Tryz.prog F.HS #[.int .i64 x,m] w fun v w'=>v = .int .i64 (o.fc x)/\Ext w w':=by
 refine bn E.HS ?_;obtain⟨es,r,I,ab,aD⟩:=h.look x;simp -dsimp only[cB];simp -dsimp only[c0,Nat.reduceAdd,Nat.reduceEqDiff,reduceIte,reduceCtorEq,dd];refine _s (fun aX w'=>aX 0 = .int .i64 x/\aX 1=m/\w'=w/\x≠3/\¬(1<=x/\x<=8)) ?_ ?_
 .refine aN ?_;refine I_ (fun h1=>?_) (fun h1=>?_)
  .refine aN ?_;exact⟨by simp[o.fc,h1],Ext.refl _⟩
  refine aN ?_;refine I_ (fun aY=>?_) (fun aY=>?_)
  .refine aN ?_;refine I_ (fun bx=>?_) (fun bx=>?_)
   .refine aN ?_;exact⟨by simp[o.fc,h1,aY,bx],Ext.refl _⟩
   .refine aN ?_;refine⟨trivial,trivial,trivial,h1,by omega⟩
  .refine aN ?_;refine⟨trivial,trivial,trivial,h1,by omega⟩
 .rintro S w' bZ ⟨jZ,s1,rfl,pB,La⟩;refine cg (i_ jZ s1) ?_;refine _l I ab ?_;cases aM:o.gQ x with
  | none =>
   simp only[aM] at aD;subst aD;simp only[mK,Option.map_none,Option.getD_none,Option.isSome_none,if_true];have ar:o.fc x = -1:=by
    unfold o.gQ at aM;unfold o.fc
    repeat' split
    all_goals first | rfl | (exfalso;omega) | skip
    all_goals
     exfalso
     (repeat' split at aM)
     all_goals first | (cases aM;done) | omega
   refine aN ?_;refine _L (vs:=[.int .i64 0,.int .i64 0,.int .i64 0,.nilFunc]) (fun _=>by simp -dsimp only[c0,cB,Nat.reduceAdd,Nat.reduceEqDiff,reduceIte,reduceCtorEq,dd]) rfl rfl (by simp[Value.oneCell']) fun w1 b ak he ah=>?_;refine aN ?_;rw[ar];exact ca
  | some ad =>
   simp only[aM] at aD;obtain⟨i,v,rfl,u,rfl,a6⟩:=aD;simp only[mK,Option.map_some,Option.getD_some,Option.isSome_some,if_true];refine aN ?_;refine _L (vs:=[.int .i64 ad.parts,.int .i64 ad.jq,.int .i64 ad.makes,u]) (fun _=>by simp -dsimp only[c0,cB,Nat.reduceAdd,Nat.reduceEqDiff,reduceIte,reduceCtorEq,dd]) rfl rfl (by rcases a6 with ⟨f,rfl,_⟩ | ⟨c,f,p,rfl,_⟩<;>simp[Value.oneCell']) fun w1 b ak he ah=>?_;refine az ?_;rw[(o.Fk aM).1];exact ca
end Go.Proofs.R
end
section
namespace o
open Go Go.RowKit bb
structure fJ(w:World)(cs:List Value)(s:Scope):Prop where
 q7:s.vars.length<=1152921504606846976/\s.aw.length<=1152921504606846976/\s.procs.length<=1152921504606846976/\s.locals.length<=1152921504606846976/\dH s.self
 ex:∃v0 v1 v2 v3 v4,cs=[v0,v1,v2,v3,v4,.int .i64 s.self]/\h2 w v0 s.scalars/\hP w v1 s.vars/\mS w v2 s.aw/\qp w v3 s.procs/\hP w v4 s.locals/\s.scalars.length<=4611686018427387904
theorem fJ.ext{w w':A_}{cs:C_ B_}{s:Scope}(he:Ext w w')(h:fJ w cs s):fJ w' cs s :=
 let ⟨v0,v1,v2,v3,v4,e,af,h1,I,ab,aD,aY⟩:=h.ex
 ⟨h.q7,v0,v1,v2,v3,v4,e,af.ext he,h1.ext he,I.ext he,ab.ext he,aD.ext he,aY⟩
theorem fJ.form{w:A_}{cs:C_ B_}{s:Scope}(h:fJ w cs s):∃a0 bw df c1 a2 c2 a3 br a4 bF,cs=[.slice a0 s.scalars.length bw,.slice df s.vars.length c1,.slice a2 s.aw.length c2,.slice a3 s.procs.length br,.slice a4 s.locals.length bF,.int .i64 s.self] /\
  h2 w (.slice a0 s.scalars.length bw) s.scalars/\hP w (.slice df s.vars.length c1) s.vars/\mS w (.slice a2 s.aw.length c2) s.aw/\qp w (.slice a3 s.procs.length br) s.procs/\hP w (.slice a4 s.locals.length bF) s.locals /\
  s.scalars.length<=4611686018427387904/\s.vars.length<=9223372036854775807/\s.aw.length<=9223372036854775807/\s.procs.length<=9223372036854775807/\s.locals.length<=9223372036854775807:=by
 obtain⟨v0,v1,v2,v3,v4,rfl,af,h1,I,ab,aD,aY⟩:=h.ex;obtain⟨a0,bw,rfl,_⟩:=af.form;obtain⟨df,c1,rfl,ek⟩:=h1.form;obtain⟨a2,c2,rfl,ev⟩:=I.form;obtain⟨a3,br,rfl,ef⟩:=ab.form;obtain⟨a4,bF,rfl,ew⟩:=aD.form;exact⟨a0,bw,df,c1,a2,c2,a3,br,a4,bF,rfl,af,h1,I,ab,aD,aY,ek,ev,ef,ew⟩
end o
namespace Go.Proofs.R
open Go Go.RowKit bb
theorem QG(n:Int)(cs:C_ B_)(s:o.Scope)(w:A_)(h:o.fJ w cs s) :
  a7 Tryz.prog F.fM #[.int .i64 n,.agg cs.toArray] w fun v w'=>v = .tuple #[.int .i64 (o.hv n s).1,.bool (o.hv n s).2]/\Ext w w':=by
 obtain⟨a0,bw,df,c1,a2,c2,a3,br,a4,bF,rfl,af,h1,I,ab,aD,eU,ek,ev,ef,ew⟩:=h.form;refine bn E.fM ?_;refine aN ?_;refine O_ fun w1 b ak al ai=>?_
 (repeat' (refine az ?_;first | (refine I_ (fun _=>?_) (fun _=>?_)<;>try (exfalso;omega)) | refine N_ (fun _=>?_) (fun _=>?_)))<;>try refine az ?_
 all_goals
  refine⟨?_,fw⟩;unfold o.hv
  (repeat' split)<;>first | rfl | (exfalso;omega)
theorem aqI(v:B_)(l:C_ o.Var)(n:Int)(cs:C_ B_)(s:o.Scope)(w:A_)(aF:o.hP w v l)(h:o.fJ w cs s) :
  a7 Tryz.prog F.HH #[v,.int .i64 n,.agg cs.toArray] w fun v w'=>v = .tuple #[.int .i64 (o.fY l n s).1,.int .i64 (o.fY l n s).2.1,.bool (o.fY l n s).2.2]/\Ext w w':=by
 obtain⟨a0,bw,df,c1,a2,c2,a3,br,a4,bF,rfl,_⟩:=h.form;obtain⟨aQ,cap,rfl,hlen⟩:=aF.form;refine bn E.HH ?_;refine aN ?_;refine O_ fun w1 b ak al ai=>?_;refine aN ?_;apply I_<;>intro g1
 .refine aN ?_;rw[o.fY,o.gX (.inl g1)];exact ca
 refine aN ?_;apply I_<;>intro g2
 .refine aN ?_;rw[o.fY,o.gX (.inr (by omega))];exact ca
 refine aN ?_;obtain⟨i,rfl⟩:=Int.eq_ofNat_of_zero_le (show 0<=n by omega);have U:i<l.length:=by omega
 rw[o.fY,o.ja (by omega) (by omega)];simp only[Int.toNat_natCast];obtain⟨a,rfl⟩:=aF.addr;refine az ?_;refine R_ (c:=[_,_,_,_,_,_]) ai (Ext.refl _) rfl ?_;refine aN ?_;refine P_ _ (fun w' e=>QG _ _ s w' (h.ext (al.trans e))) ?_;refine aN ?_;intro aH ao;refine az ?_;refine R_ (c:=[_,_,_,_,_,_]) ai ao rfl ?_;refine aN ?_;refine P_ _ (fun w' e=>QG _ _ s w' (h.ext ((al.trans ao).trans e))) ?_;refine aN ?_;intro aP aj;refine az ?_;refine N_ (fun g3=>?_) (fun g3=>?_)
 all_goals
  refine aN ?_;refine⟨?_,fw⟩;simp[g3]
theorem alf(x:o.Node)(cs:C_ B_)(s:o.Scope)(w:A_)(ag:x.ok)(h:o.fJ w cs s) :
  a7 Tryz.prog F.fd #[.agg x.enc.toArray,.agg cs.toArray] w fun v w'=>v = .tuple #[.int .i64 (o.mc x s).1,.int .i64 (o.mc x s).2]/\Ext w w':=by
 obtain⟨a0,bw,df,c1,a2,c2,a3,br,a4,bF,rfl,af,h1,I,ab,aD,eU,ek,ev,ef,ew⟩:=h.form;refine bn E.fd ?_;refine aN ?_;refine O_ fun w1 bo cT al ai=>?_;refine aN ?_;refine O_ fun aH bR dt ao av=>?_;have cC:aH.heap[bo]? = some (.cells #[.int .i64 x.op,.int .i64 x.n] T.f):=ao.obj ai;clear ai;refine az ?_;apply I_<;>intro g5
 ·(repeat' (refine az ?_;first | (refine I_ (fun _=>?_) (fun _=>?_)<;>try (exfalso;omega)) | refine N_ (fun _=>?_) (fun _=>?_)))<;>try refine az ?_
  all_goals
   refine⟨?_,fw⟩;rw[o.mc,if_pos g5];split<;>first | rfl | (exfalso;omega)
 refine az ?_;apply I_<;>intro g6
 .have hk:o.mc x s=o.j8 x.n s:=by rw[o.mc,if_neg g5,if_pos g6]
  rw[hk,o.j8];refine az ?_;apply I_<;>intro g1;rotate_left
  .refine az ?_;rw[o.gX (.inl (by omega))];exact ca
  refine az ?_;apply I_<;>intro g2;rotate_left
  .refine az ?_;rw[o.gX (.inr (by omega))];exact ca
  refine az ?_;rw[o.ja (by omega) (by omega)];obtain⟨a,rfl⟩:=I.addr;have U:x.n.toNat<s.aw.length:=by omega
  refine K_ x.n.toNat (by omega) U ?_;refine az ?_;refine R_ (c:=[_,_,_,_,_,_]) av (Ext.refl _) rfl ?_;refine aN ?_;refine P_ _ (fun w' e=>QG _ _ s w' (h.ext ((al.trans ao).trans e))) ?_;refine aN ?_;intro aP aj;refine N_ (fun g3=>?_) (fun g3=>?_)
  all_goals
   refine aN ?_;refine⟨?_,fw⟩;simp[g3]
 refine az ?_;apply I_<;>intro g7
 .have hk:o.mc x s=o.B2 x.n s:=by rw[o.mc,if_neg g5,if_neg g6,if_pos g7]
  rw[hk,o.B2];refine az ?_;apply I_<;>intro g1;rotate_left
  .refine az ?_;intro aP aj;refine az ?_;rw[if_neg g1];exact ca
  rw[if_pos g1];obtain⟨i,U⟩:=Int.eq_ofNat_of_zero_le g1;obtain⟨_,gp⟩:=ag.n;rw[U] at gp;have au:x.n.tdiv 16=((i / 16:Nat):Int):=by rw[U];rfl
  have hm:x.n.tmod 16=((i % 16:Nat):Int):=by rw[U];rfl
  refine az ?_;refine _J (by omega) ?_;rw[au];refine az ?_;apply I_<;>intro g2;rotate_left
  .refine az ?_;intro aP aj;refine az ?_;rw[o.gX (.inr (by omega))];exact ca
  have aE:i / 16<s.procs.length:=by omega
  rw[o.ja (by omega) (by omega)];simp only[Int.toNat_natCast];refine az ?_;refine _p (by omega) ?_;refine az ?_;refine _J (by omega) ?_;rw[au];obtain⟨a,rfl⟩:=ab.addr;obtain⟨_,b7,ec,Eg,_⟩:=ab.at (i / 16) aE;have NK:w.cell? ((a.add (i / 16*5)).add 2)=some (.int .i64 s.procs[i / 16].b8):=Eg 2 _ rfl;refine az ?_;refine M_ ((al.trans ao).cell NK) ?_;refine az ?_;rw[hm];intro aP aj;refine az ?_;apply I_<;>intro g3
  all_goals
   refine az ?_;refine⟨?_,fw⟩
   first | rw[if_pos g3] | rw[if_neg g3]
 refine az ?_;apply I_<;>intro g8
 ·(repeat' (refine az ?_;first | (refine I_ (fun _=>?_) (fun _=>?_)<;>try (exfalso;omega)) | refine N_ (fun _=>?_) (fun _=>?_)))<;>try refine az ?_
  all_goals
   refine⟨?_,fw⟩;rw[o.mc,if_neg g5,if_neg g6,if_neg g7,if_pos g8];split<;>first | rfl | (exfalso;omega)
 refine az ?_;refine⟨?_,fw⟩;rw[o.mc,if_neg g5,if_neg g6,if_neg g7,if_neg g8]
end Go.Proofs.R
end
section
namespace o
open Go bb
def ei(n b:Nat):Prop:=n*b<=140737488351232
structure Scalar.cN(x:Scalar):Prop where
 size:dH x.size
structure Var.cN(x:Var):Prop where
 scalar:dH x.scalar
 over:dH x.over
 aO:dH x.aO
 U:dH x.U
 init:dH x.init
structure dv.cN(x:dv):Prop where
 scalar:dH x.scalar
 cap:dH x.cap
 aO:dH x.aO
 U:dH x.U
structure Act.cN(x:Act):Prop where
 kind:dH x.kind
 to:dH x.to
 loc:dH x.loc
 index:ei x.index.length 16
 value:ei x.value.length 16
structure dI.cN(x:dI):Prop where
 from_:dH x.from_
 to:dH x.to
 guard:ei x.guard.length 16
 bY:ei x.bY.length 72
 act:∀a∈x.bY,a.cN
structure dz.cN(x:dz):Prop where
 over:dH x.over
 b8:dH x.b8
 vars:ei x.vars.length 56
 cL:ei x.cL.length 88
 var:∀a∈x.vars,a.cN
 cmd:∀a∈x.cL,a.cN
structure k0.cN(x:k0):Prop where
 expr:ei x.expr.length 16
structure Model.cN(m:Model):Prop where
 scalars:ei m.scalars.length 24
 vars:ei m.vars.length 56
 aw:ei m.aw.length 56
 procs:ei m.procs.length 80
 props:ei m.props.length 40
 scalar:∀a∈m.scalars,a.cN
 var:∀a∈m.vars,a.cN
 chan:∀a∈m.aw,a.cN
 proc:∀a∈m.procs,a.cN
 prop:∀a∈m.props,a.cN
end o
end
section
namespace o
open Go Go.RowKit bb
structure Scope.cN(s:Scope):Prop where
 scalars:ei s.scalars.length 24
 vars:ei s.vars.length 56
 aw:ei s.aw.length 56
 procs:ei s.procs.length 80
 locals:ei s.locals.length 56
 proc:∀a∈s.procs,a.cN
 self:dH s.self
theorem Model.cN.scope{m:Model}(h:m.cN):(ey m).cN:=⟨h.scalars,h.vars,h.aw,h.procs,by simp[ey,ei],h.proc,by simp[ey,dH]⟩
theorem Scope.cN.inner{s:Scope}{p:dz}(h:s.cN)(ar:p.cN):(inner p s).cN:=⟨h.scalars,h.vars,h.aw,h.procs,ar.vars,h.proc,ar.over⟩
theorem Scope.cN.q7{s:Scope}(h:s.cN):(s.vars.length<=1152921504606846976/\s.aw.length<=1152921504606846976/\s.procs.length<=1152921504606846976/\s.locals.length<=1152921504606846976/\dH s.self)/\s.scalars.length<=4611686018427387904:=by
 have af:=h.scalars;have h1:=h.vars;have I:=h.aw;have ab:=h.procs;have aD:=h.locals;unfold ei at af h1 I ab aD;exact⟨⟨by omega,by omega,by omega,by omega,h.self⟩,by omega⟩
end o
namespace Go.Proofs.R
open Go Go.RowKit bb
theorem PQ(v:B_)(xs:C_ o.Node)(w:A_)(h:o.eV w v xs)(ak:o.ei xs.length 16) :
  a7 Tryz.prog F.c3 #[v] w fun b9 w'=>(∃aQ c,b9 = .slice aQ xs.length c)/\eD w (fun w=>o.eV w b9 xs) w'/\Ext w w' :=
 GX lj E.c3 (by kernel_rfl) (fun h=>h) v xs w h (by unfold o.ei at ak;omega)
theorem Rj(v:B_)(xs:C_ o.Var)(w:A_)(h:o.hP w v xs)(ak:o.ei xs.length 56) :
  a7 Tryz.prog F.dQ #[v] w fun b9 w'=>(∃aQ c,b9 = .slice aQ xs.length c)/\eD w (fun w=>o.hP w b9 xs) w'/\Ext w w' :=
 GX lj E.dQ (by kernel_rfl) (fun h=>h) v xs w h (by unfold o.ei at ak;omega)
theorem apf(v:B_)(xs:C_ o.Scalar)(w:A_)(h:o.h2 w v xs)(ak:o.ei xs.length 24) :
  a7 Tryz.prog F.c8 #[v] w fun b9 w'=>(∃aQ c,b9 = .slice aQ xs.length c)/\eD w (fun w=>o.h2 w b9 xs) w'/\Ext w w' :=
 GX lj E.c8 (by kernel_rfl) (fun h=>h) v xs w h (by unfold o.ei at ak;omega)
theorem aeG(v:B_)(xs:C_ o.dv)(w:A_)(h:o.mS w v xs)(ak:o.ei xs.length 56) :
  a7 Tryz.prog F.gm #[v] w fun b9 w'=>(∃aQ c,b9 = .slice aQ xs.length c)/\eD w (fun w=>o.mS w b9 xs) w'/\Ext w w' :=
 GX lj E.gm (by kernel_rfl) (fun h=>h) v xs w h (by unfold o.ei at ak;omega)
abbrev hc:=H_ Addr×Nat×Nat
theorem aeX(v:B_)(l:C_ o.dI)(w:A_)(h:o.rk w v l)(ak:o.ei l.length 88)(aK:∀c∈l,c.cN) :
  a7 Tryz.prog F.jQ #[v] w fun b9 w'=>(∃aQ c,b9 = .slice aQ l.length c)/\eD w (fun w=>o.rk w b9 l) w'/\Ext w w':=by
 obtain⟨bO,c1,rfl,bo⟩:=h.form;refine bn E.jQ ?_;refine J ?_;refine L_ 11 l.length [9,10] (fun v:hc=>[(3,.slice v.1 v.2.1 v.2.2)]) (none,0,0) (fun k v w'=>Ext w w'/\eO o.Au T.k 6 w.heap.size w' (.slice v.1 v.2.1 v.2.2) (l.take k)) bc bc ⟨Ext.refl _,by simpa using eO.nil _ _ _ _ _⟩ ?_;rintro k v S w1 hk ⟨al,xW⟩;refine J ?_;apply I_<;>intro g1
 .have aZ:k<l.length:=by omega
  have N2:=aK l[k] (List.getElem_mem _);obtain⟨a,rfl⟩:=h.addr;obtain⟨an,gu,ea,ah,x1,vW⟩:=h.at k aZ;obtain⟨_,_,rfl,_⟩:=x1.form;obtain⟨aQ,fD,rfl,adT⟩:=vW.form;refine J ?_;intro aH bR dt ao av;have Et:=cy av;refine J ?_;refine J_ (PQ _ _ aH (x1.ext (al.trans ao)) N2.guard) ?_;rintro _ aR ⟨⟨gy,ga,rfl⟩,nr,aA⟩;have bH:=aA.obj av;have nj:=ao.trans aA;refine J ?_;intro bq fb cc;have pV:=fb.ext nj dt;have aJ:=al.trans pV;have Om:=nr.wr fb Et;have ajf:=cy cc;refine J ?_;refine L_ 22 l[k].bY.length [3,5,9,10,11,20,21] (fun v:hc=>[(6,.slice v.1 v.2.1 v.2.2)]) (none,0,0) (fun j v w'=>Ext bq w'/\eO o.CG T.y 5 bq.heap.size w' (.slice v.1 v.2.1 v.2.2) (l[k].bY.take j)) bc bc ⟨Ext.refl _,by simpa using eO.nil _ _ _ _ _⟩ ?_;rintro j KZ S bB aE ⟨aT,dB⟩;have b4:=aT.obj cc;refine J ?_;apply I_<;>intro g2
  .have et:j<l[k].bY.length:=by omega
   have XN:=N2.act l[k].bY[j] (List.getElem_mem _);obtain⟨a2,rfl⟩:=vW.addr;obtain⟨bM,b7,tY,fp,qV⟩:=vW.at j et;obtain⟨_,_,rfl,_⟩:=fp.form;obtain⟨_,_,rfl,_⟩:=qV.form;have BA:=aJ.trans aT;refine J ?_;intro bQ ho h6 bz c9;have Iz:=BA.trans bz;have asO:=cy c9;refine J ?_;intro de bP;have c4:=bP.obj c9;have IA:=Iz.trans bP;refine J ?_;refine J_ (PQ _ _ de (fp.ext IA) XN.index) ?_;rintro _ dc ⟨⟨cx,ci,rfl⟩,IV,ck⟩;refine⟨ck,?_⟩;have dX:=ck.obj c4;have aiJ:=IA.trans ck;refine J ?_;refine J_ (PQ _ _ dc (qV.ext aiJ) XN.value) ?_;rintro _ eY ⟨⟨P2,cX,rfl⟩,qQ,cG⟩;have ko:=cG.obj dX;have I9:=IV.ext cG ck.size;refine J ?_;intro gw ia kK;refine J ?_;intro jr ln iC;refine J ?_;intro nA vd Np iD kL;have X3:=cy c4;have X4:=cy dX;have Li:=ck.size;have Ry:=cG.size;have Lh:=ia.size;have acr:=ln.size;have akC:=((I9.wr ia X3).wr ln X3).ext iD (by omega);have akK:=((qQ.wr ia X4).wr ln X4).ext iD (by omega);have afm:=((bz.trans bP).trans ck).trans cG;have VN:=(ln.ext (ia.ext afm h6) h6).trans iD;have Rx:=(bz.trans bP).size;have VM:=aT.trans VN;have aaY:=dB.ext VN;have au:=QA et N2.bY adT;refine J ?_;refine _Y (x:=l[k].bY[j]) (cs:=l[k].bY[j].enc (.slice cx l[k].bY[j].index.length ci) (.slice P2 l[k].bY[j].value.length cX)) aaY (hA kL)
    (eD.own (((akC.low Rx).and (akK.low (by omega))).imp fun w h=>⟨_,_,rfl,h.1,h.2⟩) dB aT.size) rfl (by simp[o.Act.enc,Value.oneCell']) au.1 au.2 VM.size fun b9 w' aL BI=>?_
   obtain⟨kv,pN,rfl,_⟩:=aL.form;refine J ?_;exact⟨et,aU,(kv,_,pN),bc,aaY.mw VM BI (Nat.le_refl _),aL.snoc et⟩
  .have sV:=dB.done (by omega);have Nc:eD bq (fun w=>o.mQ w (.slice KZ.1 KZ.2.1 KZ.2.2) l[k].bY) bB:=sV.new;obtain⟨tj,xg,c8,_⟩:=Nc.here.form;rw[c8] at Nc;refine J ?_;intro bQ dT c9;refine J ?_;intro de iR oC bP c4;have z25:aH.heap.size<=bq.heap.size:=by have:=aA.size;have:=fb.size;omega
   have Ap:=aT.size;have z67:=dT.size;have akD:=((Om.ext aT z25).wr dT Et).ext bP (by omega);have akL:=(Nc.wr dT ajf).ext bP (by omega);have VK:=(dT.ext (pV.trans aT) dt).trans bP;have VE:=al.trans VK;have aaZ:=xW.ext VK;have z12:=ao.size;have au:=QA aZ ak bo;refine J ?_;refine _Y (x:=l[k]) (cs:=l[k].enc (.slice gy l[k].guard.length ga) (.slice tj l[k].bY.length xg)) aaZ (by have:=hA c4;rw[c8] at this;exact this)
    (eD.own (((akD.low z12).and (akL.low pV.size)).imp fun w h=>⟨an,_,_,rfl,h.1,h.2⟩) xW al.size) rfl (by simp[o.dI.enc,Value.oneCell']) au.1 au.2 VE.size fun b9 w' aL BI=>?_
   obtain⟨kv,pN,rfl,_⟩:=aL.form;refine J ?_;exact⟨aZ,aU,(kv,_,pN),bc,aaZ.mw VE BI (Nat.le_refl _),aL.snoc aZ⟩
 .refine J ?_;have sV:=xW.done (by omega);have fV:eD w (fun w=>o.rk w (.slice v.1 v.2.1 v.2.2) l) w1:=sV.new;obtain⟨tj,xg,c8,_⟩:=fV.here.form;exact⟨⟨tj,xg,c8⟩,fV,al⟩
end Go.Proofs.R
namespace Go.Proofs.R
open Go Go.RowKit bb
theorem YN(p:o.dz)(cd bO bV b2 cj e4 ob:H_ Addr)(hK lq ku qd tf zV PO bw c1 c2 br bF fL k5:Nat)(n:Int)(w:A_) :
  a7 Tryz.prog F.Dk #[.agg (p.enc (.slice e4 zV fL) (.slice ob PO k5)).toArray,.agg #[.slice cd hK bw,.slice bO lq c1,.slice bV ku c2,.slice b2 qd br,.slice cj tf bF,.int .i64 n]] w fun v w' =>
   v = .agg #[.slice cd hK bw,.slice bO lq c1,.slice bV ku c2,.slice b2 qd br,.slice e4 zV fL,.int .i64 p.over]/\Ext w w':=by
 refine bn E.Dk ?_;simp -dsimp only[cB];refine eh ?_;intro w1 bo cT al ai;refine eh ?_;intro aH bR dt ao av;refine eh ?_;intro aP b0 fW aj bu;refine eh ?_;have dq:bR≠bo:=by have:=cy ai;omega
 have dU:b0≠bR:=by have:=cy av;omega
 refine S_ [2,3,4] (fun _=>[]) (fun(_:Unit) w'=>(Ext w w'/\aP.heap.size<=w'.heap.size)/\w'.heap[bR]? = some (.cells #[.slice cd hK bw,.slice bO lq c1,.slice bV ku c2,.slice b2 qd br,.slice e4 zV fL,.int .i64 p.over] T.w)/\w'.heap[b0]? = aP.heap[b0]?) ?_ ?_
 .refine J ?_;intro aR aA;have ai:=((ao.trans aj).trans aA).obj ai;have av:=(aj.trans aA).obj av;have bu:=aA.obj bu;have pU:=((al.trans ao).trans aj).trans aA;have aum:=al.size;have CF:=aA.size;have fin:∀bq bB,dn bR aR bq->dn bR bq bB->bB.heap[bR]? = some (.cells #[.slice cd hK bw,.slice bO lq c1,.slice bV ku c2,.slice b2 qd br,.slice e4 zV fL,.int .i64 p.over] T.w) ->
    (Ext w bB/\aP.heap.size<=bB.heap.size)/\bB.heap[bR]? = some (.cells #[.slice cd hK bw,.slice bO lq c1,.slice bV ku c2,.slice b2 qd br,.slice e4 zV fL,.int .i64 p.over] T.w)/\bB.heap[b0]? = aP.heap[b0]? := fun bq bB a b c=>by
   have:=a.size
   have:=b.size
   refine⟨⟨b.ext (a.ext pU (by omega)) (by omega),by omega⟩,c,?_⟩;rw[b.block b0 dU,a.block b0 dU,bu]
   symm
   assumption
  refine J ?_;refine⟨?_,?_⟩
  .refine J ?_;refine⟨?_,?_⟩
   .refine J ?_;intro bq fb cc;refine J ?_;intro bB gn b4;refine J ?_;exact⟨(),trivial,fin bq bB fb gn b4⟩
   .refine J ?_;intro bq fb cc;have ai:=fb.obj ai (Ne.symm dq);refine J ?_;intro bB gn b4;refine J ?_;exact⟨(),trivial,fin bq bB fb gn b4⟩
  .refine J ?_;intro bq fb cc;refine J ?_;intro bB gn b4;refine J ?_;exact⟨(),trivial,fin bq bB fb gn b4⟩
 rintro _ S aR ⟨⟨aA,z4⟩,bH,NO⟩;rw[bu] at NO;have ch:=cy bu;refine J ?_;intro bq fb cc;refine J ?_;exact⟨aU,fb.ext aA (by have:=al.size;have:=ao.size;omega)⟩
theorem ae2(cs:C_ B_)(s:o.Scope)(w:A_)(h:o.fJ w cs s)(aK:s.cN) :
  a7 Tryz.prog F.Hv #[.agg cs.toArray] w fun v w'=>(∃iS,v = .agg iS.toArray/\eD w (fun w=>o.fJ w iS s) w')/\Ext w w':=by
 have uj:=aK.q7;obtain⟨cd,bw,bO,c1,bV,c2,b2,br,cj,bF,rfl,af,h1,I,ab,aD,_,ek,ev,ef,ew⟩:=h.form;refine bn E.Hv ?_;refine J ?_;intro w1 bo cT al ai;refine J ?_;intro aH bR dt ao av;have sR:bR≠bo:=by have:=cy ai;omega
 refine J ?_;intro aP aj;have vn:=(al.trans ao).trans aj;have ai:=(ao.trans aj).obj ai;have av:=aj.obj av;have Es:=cy ai;have Et:=cy av;refine J ?_;refine J_ (apf _ _ aP (af.ext vn) aK.scalars) ?_;rintro _ aR ⟨⟨ml,FX,rfl⟩,hK,aA⟩;refine⟨aA,?_⟩;refine J ?_;refine J_ (Rj _ _ aR (h1.ext (vn.trans aA)) aK.vars) ?_;rintro _ bq ⟨⟨j0,j1,rfl⟩,lq,aJ⟩;refine⟨aA.trans aJ,?_⟩;refine J ?_;refine J_ (aeG _ _ bq (I.ext ((vn.trans aA).trans aJ)) aK.aw) ?_;rintro _ bB ⟨⟨kX,jK,rfl⟩,ku,aT⟩;have ai:=((aA.trans aJ).trans aT).obj ai;have av:=((aA.trans aJ).trans aT).obj av;have xt:=((vn.trans aA).trans aJ).trans aT;have n36:=(hK.ext (aJ.trans aT) aA.size).and (((lq.ext aT aJ.size).low aA.size).and (ku.low (aA.trans aJ).size));refine J ?_;intro bQ dT c9;refine J ?_;intro de iH c4;refine J ?_;intro dc hG dX;have VF:=hG.ext (iH.ext (dT.ext xt cT) cT) cT;have n39:=((n36.wr dT Es).wr iH Es).wr hG Es;have z36:=((aA.trans aJ).trans aT).size;have aus:dc.heap.size=bB.heap.size:=by rw[hG.size,iH.size,dT.size]
 have av:=hG.obj (iH.obj (dT.obj av sR) sR) sR;refine J ?_;refine J_ (Rj _ _ dc (aD.ext VF) aK.locals) ?_;rintro _ eY ⟨⟨oP,CD,rfl⟩,tf,cG⟩;have ko:=cG.obj dX;have av:=cG.obj av;refine J ?_;intro gw ia kK;have av:=ia.obj av sR;have VC:=ia.ext (VF.trans cG) cT;have Ry:=cG.size;have Lh:=ia.size;have n311:=((n39.ext cG (by omega)).wr ia Es).and ((tf.wr ia (cy dX)).low (w0:=aP) (by omega));have ajd:=cy kK;refine J ?_;refine L_ 25 s.procs.length [1,2,23,24] (fun v:hc=>[(3,.slice v.1 v.2.1 v.2.2)]) (none,0,0) (fun k v w'=>Ext gw w'/\eO o.w6 T.l 5 gw.heap.size w' (.slice v.1 v.2.1 v.2.2) (s.procs.take k)) bc bc ⟨Ext.refl _,by simpa using eO.nil _ _ _ _ _⟩ ?_;rintro k v S jr hk ⟨fz,Ot⟩;have iC:=fz.obj kK;refine J ?_;apply I_<;>intro g1
 .have aZ:k<s.procs.length:=by omega
  have N4:=aK.proc s.procs[k] (List.getElem_mem _);obtain⟨a,rfl⟩:=ab.addr;obtain⟨an,b7,ec,dD,e2,fO⟩:=ab.at k aZ;obtain⟨_,_,rfl,_⟩:=e2.form;obtain⟨_,_,rfl,_⟩:=fO.form;have VD:=VC.trans fz;refine J ?_;intro oh yT Ij zq Iq;have afj:=VD.trans zq;refine J ?_;refine J_ (Rj _ _ oh (e2.ext afj) N4.vars) ?_;rintro _ Ak ⟨⟨e4,fL,rfl⟩,zV,qL⟩;have ua:=qL.obj Iq;refine J ?_;intro Cz O5 Xh;have My:=O5.ext (zq.trans qL) Ij;have afk:=VD.trans My;refine J ?_;refine J_ (aeX _ _ Cz (fO.ext afk) N4.cL N4.cmd) ?_;rintro _ aue ⟨⟨ob,k5,rfl⟩,PO,ID⟩;have asw:=ID.obj Xh;refine J ?_;intro auf I5 dF;have afl:=I5.ext (My.trans ID) Ij;refine J ?_;intro aug arI asn NU aip;have VI:=afl.trans NU;have acv:=cy Iq;have auB:=qL.size;have auC:=O5.size;have auD:=ID.size;have auE:=I5.size;have amE:=(((zV.wr O5 acv).ext ID (by omega)).wr I5 acv).ext NU (by omega);have amm:=(PO.wr I5 (cy Xh)).ext NU (by omega);have aa0:=Ot.ext VI;have au:=QA aZ aK.procs ef;have VH:=fz.trans VI;refine J ?_;refine _Y (x:=s.procs[k]) (cs:=s.procs[k].enc (.slice e4 s.procs[k].vars.length fL) (.slice ob s.procs[k].cL.length k5)) aa0 (hA aip)
   (eD.own (((amE.low zq.size).and (amm.low My.size)).imp fun w h=>⟨an,_,_,rfl,h.1,h.2⟩) Ot fz.size) rfl (by simp[o.dz.enc,Value.oneCell']) au.1 au.2 VH.size fun b9 w' aL BI=>?_
  obtain⟨kv,pN,rfl,_⟩:=aL.form;refine J ?_;exact⟨aZ,aU,(kv,_,pN),bc,aa0.mw VH BI (Nat.le_refl _),aL.snoc aZ⟩
 .have sV:=Ot.done (by omega);have fV:eD gw (fun w=>o.qp w (.slice v.1 v.2.1 v.2.2) s.procs) jr:=sV.new;obtain⟨tj,xg,c8,_⟩:=fV.here.form;rw[c8] at fV;have av:=fz.obj av;refine J ?_;intro nA jX kL;have av:=jX.obj av sR;refine J ?_;intro wM x2 pf;have acr:=fz.size;have n14:=(((n311.ext fz (by omega)).wr jX Es).wr x2 Et).and (((fV.wr jX ajd).wr x2 (Nat.lt_of_lt_of_le Et (by omega))).low (w0:=aP) (by omega));have z12:=al.size;have ej:=x2.ext (jX.ext (VC.trans fz) cT) (by omega);refine J ?_;refine⟨⟨[.slice ml s.scalars.length FX,.slice j0 s.vars.length j1,.slice kX s.aw.length jK,.slice tj s.procs.length xg,.slice oP s.locals.length CD,.int .i64 s.self],?_,
   (n14.low vn.size).imp fun w h=>⟨uj.1,_,_,_,_,_,rfl,h.1.1.1,h.1.1.2.1,h.1.1.2.2,h.2,h.1.2,uj.2⟩⟩,ej⟩
  rw[c8]
  first | trivial | rfl
end Go.Proofs.R
end
section
namespace o
open Go Go.RowKit bb
theorem dV.form{w:A_}{cs:C_ B_}{m:Model}(h:dV w cs m):∃a0 bw df c1 a2 c2 a3 br a4 bF,cs=[.slice a0 m.scalars.length bw,.slice df m.vars.length c1,.slice a2 m.aw.length c2,.slice a3 m.procs.length br,.slice a4 m.props.length bF] /\
  h2 w (.slice a0 m.scalars.length bw) m.scalars/\hP w (.slice df m.vars.length c1) m.vars/\mS w (.slice a2 m.aw.length c2) m.aw/\qp w (.slice a3 m.procs.length br) m.procs/\AF w (.slice a4 m.props.length bF) m.props /\
  m.scalars.length<=9223372036854775807/\m.vars.length<=9223372036854775807/\m.aw.length<=9223372036854775807/\m.procs.length<=9223372036854775807/\m.props.length<=9223372036854775807:=by
 obtain⟨v0,v1,v2,v3,v4,rfl,af,h1,I,ab,aD⟩:=h.ex;obtain⟨a0,bw,rfl,eU⟩:=af.form;obtain⟨df,c1,rfl,ek⟩:=h1.form;obtain⟨a2,c2,rfl,ev⟩:=I.form;obtain⟨a3,br,rfl,ef⟩:=ab.form;obtain⟨a4,bF,rfl,ew⟩:=aD.form;exact⟨a0,bw,df,c1,a2,c2,a3,br,a4,bF,rfl,af,h1,I,ab,aD,eU,ek,ev,ef,ew⟩
theorem aaw{m:Model}{k:Nat}(h:k<m.procs.length):hi m (k:Int)=inner m.procs[k] (ey m):=by
 unfold hi;rw[ja (by omega) (by omega)];simp
theorem Ks{m:Model}{i:Int}(h:i<0\/(m.procs.length:Int)<=i):hi m i=ey m:=by
 unfold hi;rw[gX h]
theorem Model.cN.hi{m:Model}(h:m.cN)(i:Int):(hi m i).cN:=by
 unfold o.hi;cases ay:nth m.procs i with
 | none=>exact h.scope
 | some p =>
  refine h.scope.inner (h.proc p ?_);unfold nth at ay;by_cases af:0<=i
  .rw[if_pos af] at ay;exact List.mem_of_getElem? ay
  .rw[if_neg af] at ay;cases ay
end o
namespace Go.Proofs.R
open Go Go.RowKit bb
theorem abl(cs:C_ B_)(m:o.Model)(i:Int)(w:A_)(h:o.dV w cs m)(aK:m.cN) :
  a7 Tryz.prog F.gM #[.agg cs.toArray,.int .i64 i] w fun v w'=>(∃iS,v = .agg iS.toArray/\eD w (fun w=>o.fJ w iS (o.hi m i)) w')/\Ext w w':=by
 obtain⟨cd,bw,bO,c1,bV,c2,b2,br,cj,bF,rfl,af,h1,I,ab,aD,eU,ek,ev,ef,ew⟩:=h.form;have uj:=aK.scope.q7;refine bn E.gM ?_;simp -dsimp only[cB];refine eh ?_;intro w1 bo cT al ai;refine eh ?_;intro aH bR dt ao av;simp -dsimp only[cB];refine eh ?_;intro aP b0 fW aj bu;refine eh ?_;have CM:∀{w':A_},Ext aP w'->Ext w w':=fun e=>((al.trans ao).trans aj).trans e;have bZ:∀w',Ext w w'->o.fJ w' [.slice cd m.scalars.length bw,.slice bO m.vars.length c1,.slice bV m.aw.length c2,.slice b2 m.procs.length br,.slice none 0 0,.int .i64 0] (o.ey m):=fun w' e =>
  ⟨uj.1,_,_,_,_,_,rfl,af.ext e,h1.ext e,I.ext e,ab.ext e,bh.nil,uj.2⟩
 refine S_ [2,4,5] (fun _=>[]) (fun(x:C_ B_) w'=>Ext w w'/\Ext aH w'/\w'.heap[b0]? = some (.cells x.toArray T.w)/\o.fJ w' x (o.hi m i)) ?_ ?_
 .refine J ?_;apply I_<;>intro g1;rotate_left
  .refine J ?_;exact⟨_,trivial,CM (Ext.refl _),aj,bu,by rw[o.Ks (.inl (by omega))];exact bZ _ (CM (Ext.refl _))⟩
  refine J ?_;apply I_<;>intro g2;rotate_left
  .refine J ?_;exact⟨_,trivial,CM (Ext.refl _),aj,bu,by rw[o.Ks (.inr (by omega))];exact bZ _ (CM (Ext.refl _))⟩
  obtain⟨k,rfl⟩:=Int.eq_ofNat_of_zero_le (show 0<=i by omega);have hk:k<m.procs.length:=by omega
  obtain⟨a,rfl⟩:=ab.addr;obtain⟨an,b7,ec,dD,e2,fO⟩:=ab.at k hk;obtain⟨e4,fL,rfl,_⟩:=e2.form;obtain⟨_,_,rfl,_⟩:=fO.form;refine J ?_;intro aR aA;have bH:=aA.obj bu;refine J ?_;refine J_ (YN m.procs[k] _ _ _ _ _ _ _ _ _ _ _ _ _ _ _ _ _ _ _ _ _ _ aR) ?_;rintro _ bq ⟨rfl,aJ⟩;have cc:=aJ.obj bH;refine J ?_;intro bB gn b4;refine J ?_;have xt:=gn.ext (CM (aA.trans aJ)) (by have:=al.size;have:=ao.size;omega);exact⟨_,trivial,xt,gn.ext ((aj.trans aA).trans aJ) fW,b4,by
   rw[o.aaw hk];exact⟨(aK.scope.inner (aK.proc _ (List.getElem_mem hk))).q7.1,_,_,_,_,_,rfl,af.ext xt,h1.ext xt,I.ext xt,ab.ext xt,e2.ext xt,uj.2⟩⟩
 rintro x S aR ⟨Dy,Hq,bH,ag⟩;have av:=Hq.obj av;refine J ?_;refine _B (hA bH) ?_ ?_
 .obtain⟨_,_,_,_,_,rfl,_⟩:=ag.ex;rfl
 refine J ?_;refine J_ (ae2 _ _ aR ag (aK.hi i)) ?_;rintro _ bq ⟨⟨iS,rfl,ay⟩,aJ⟩;have cc:=aJ.obj av;obtain⟨FX,d0,j1,d1,jK,d2,re,d3,CD,d4,rfl,_⟩:=ay.here.form;refine J ?_;intro bB gn b4;refine J ?_
 have:=cy av
 exact⟨⟨_,rfl,(ay.wr gn this).low Dy.size⟩,gn.ext (Dy.trans aJ) (by have:=al.size;omega)⟩
theorem aoE{w0:A_}(cs:C_ B_)(m:o.Model)(i:Int)(w:A_)(h:o.dV w0 cs m)(ej:Ext w0 w)(aK:m.cN) :
  a7 Tryz.prog F.E5 #[.agg cs.toArray,.int .i64 i] w fun v w'=>(∃iS,v = .agg iS.toArray/\∀bK,Ext w0 bK->o.fJ bK iS (o.hi m i))/\Ext w w':=by
 obtain⟨cd,bw,bO,c1,bV,c2,b2,br,cj,bF,rfl,af,h1,I,ab,aD,eU,ek,ev,ef,ew⟩:=h.form;have uj:=aK.scope.q7;refine bn E.E5 ?_;refine J ?_;intro w1 bo cT al ai;refine J ?_;intro aH bR dt ao av;have Lm:∀{w':A_},Ext aH w'->Ext w w':=fun e=>(al.trans ao).trans e;have xS:∀{w':A_},i<0\/(m.procs.length:Int)<=i->Ext w0 w'->o.fJ w' [.slice cd m.scalars.length bw,.slice bO m.vars.length c1,.slice bV m.aw.length c2,.slice b2 m.procs.length br,.slice none 0 0,.int .i64 0] (o.hi m i):=fun {w'} U e=>by
  rw[o.Ks U];exact⟨uj.1,_,_,_,_,_,rfl,af.ext e,h1.ext e,I.ext e,ab.ext e,bh.nil,uj.2⟩
 refine J ?_;apply I_<;>intro g1
 .refine J ?_;intro aP gd bu;have vn:=gd.ext (Lm (Ext.refl _)) (by have:=al.size;omega);refine J ?_;exact⟨⟨_,rfl,fun bK e=>xS (.inl g1) e⟩,vn⟩
 refine J ?_;apply I_<;>intro g2
 .refine J ?_;intro aP gd bu;have vn:=gd.ext (Lm (Ext.refl _)) (by have:=al.size;omega);refine J ?_;exact⟨⟨_,rfl,fun bK e=>xS (.inr g2) e⟩,vn⟩
 obtain⟨k,rfl⟩:=Int.eq_ofNat_of_zero_le (show 0<=i by omega);have hk:k<m.procs.length:=by omega
 obtain⟨a,rfl⟩:=ab.addr;obtain⟨an,b7,ec,dD,e2,fO⟩:=ab.at k hk;obtain⟨e4,fL,rfl,_⟩:=e2.form;obtain⟨_,_,rfl,_⟩:=fO.form;refine J ?_;intro aP b0 fW aj bu;have av:=aj.obj av;refine J ?_;intro aR du bH;have Dy:=du.ext (Lm aj) (by have:=al.size;omega);refine J ?_;exact⟨⟨_,rfl,fun bK e=>by
  rw[o.aaw hk];exact⟨(aK.scope.inner (aK.proc _ (List.getElem_mem hk))).q7.1,_,_,_,_,_,rfl,af.ext e,h1.ext e,I.ext e,ab.ext e,e2.ext e,uj.2⟩⟩,Dy⟩
abbrev lB:=H_ Addr×Nat×Nat
def KI(x:lB):B_:=.slice x.1 x.2.1 x.2.2
def encS(x:ByteArray):C_ B_:=[.string x]
theorem afz(y:ByteArray):∀u∈encS y,u.oneCell'=true:=by
 intro u hu;simp only[encS,List.mem_cons,List.not_mem_nil,or_false] at hu;subst hu;rfl
abbrev AE(base:Nat)(w:A_)(v:lB)(b5:C_ ByteArray):Prop:=aW encS T.ad 1 base w (KI v) b5
structure acJ(m:o.Model):Prop where
 s:m.scalars.length<=20
 v:m.vars.length<=20
 c:m.aw.length<=20
 p:m.procs.length<=20
 q:m.props.length<=20
 i:∀(j:Nat) (h:j<m.procs.length),m.procs[j].vars.length<=20/\m.procs[j].cL.length<=20
structure j4(w w':World)(bo:Nat)(cs:List Value)(v:lB)(b5:List ByteArray):Prop where
 ext:Ext w w'
 h1:w'.heap[bo]? = some (.cells cs.toArray T.g)
 own:AE w.heap.size w' v b5
theorem j4.then{w w' bK:A_}{bo:Nat}{cs:C_ B_}{v:lB}{b5:C_ ByteArray}(h:j4 w w' bo cs v b5)(he:Ext w' bK):j4 w bK bo cs v b5:=⟨h.ext.trans he,he.obj h.h1,h.own.ext he⟩
theorem j4.grown{w w' bK:A_}{bo:Nat}{cs:C_ B_}{v b9:lB}{b5 od:C_ ByteArray}(h:j4 w w' bo cs v b5)(aK:w'.grownBy bK (KI v).ownBlock)(aM:AE w.heap.size bK b9 od):j4 w bK bo cs b9 od:=by
 refine⟨Ext.grown h.ext aK fun k hk=>(h.own.lt k hk).1,?_,aM⟩;rw[aK.block bo (cy h.h1) fun e'=>?_]
 .exact h.h1
 rcases h.own.2 with ⟨e,_⟩ | ⟨g,cap,c2,e,_,BG,_⟩
 .rw[e] at e';cases e'
 .rw[e] at e';simp only[Value.ownBlock,Option.some.injEq] at e';subst e'
  have:=h.h1.symm.trans BG
  injection this with this
  injection this with _ this
  revert this;decide
theorem j4.jc{w w':A_}{bo:Nat}{cs:C_ B_}{v:lB}{b5 od:C_ ByteArray}(h:j4 w w' bo cs v b5)(e:b5=od):j4 w w' bo cs v od:=e ▸ h
theorem Cu{α β:Type}(f:α->β)(pre:C_ β)(l:C_ α)(k:Nat)(h:k<l.length):pre++(l.take k).map f++[f l[k]]=pre++(l.take (k+1)).map f:=by
 rw[List.take_succ_eq_append_getElem h,List.map_append,<-List.append_assoc];rfl
end Go.Proofs.R
end