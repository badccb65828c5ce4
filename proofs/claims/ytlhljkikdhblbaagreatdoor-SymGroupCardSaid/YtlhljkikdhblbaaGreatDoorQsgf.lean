/- Parts. -/
import Derived.Test.YtlhljkikdhblbaaGreatDoorQsge
set_option linter.all false
set_option maxRecDepth 100000
set_option maxHeartbeats 4000000
namespace Go.Proofs.R
open Go a8 Go.Proofs
def E.MX:bc F.MX ⟨69,[.tmp 4],zA_ [(5,.w)] Tryz.f156⟩:=bd
def E.HJ:bc F.HJ ⟨22,[.tmp 4],zA_ [] Tryz.f157⟩:=bd
def E.MY:bc F.MY ⟨92,[.tmp 6,.tmp 7],zA_ [(15,.w)] Tryz.f158⟩:=bd
def E.MC:bc F.MC ⟨99,[.tmp 4,.tmp 5],zA_ [(2,.c (.cN [aL 10 0,aL 11 1,cl 12 (.n8 (aO 10) (aO 11)),fr 13 (.fn F.D9 [(aO 12)])])),(3,.c (.cN [aL 14 6,aL 15 0,cl 16 (.qN (aO 15)),gX .lss T.a 17 14 16,aL 18 17,cK 18 true (aL 19 0),cK 18 true (aL 20 6),cK 18 true (cl 21 (.n8 (aO 19) (aO 20))),cK 18 true (fr 22 (.fn F.D9 [(aO 21)])),cK 18 true (aL 23 22),cK 23 false (aL 24 0),cK 23 false (aL 25 6),cK 23 false (cl 26 (.n8 (aO 24) (aO 25))),cK 23 false (fr 27 (.fn F.BV [(aO 26)])),cK 18 true (om 28 23 27),cK 18 true (aL 29 28),cK 29 false (aL 30 0),cK 29 false (aL 31 6),cK 29 false (cl 32 (.n8 (aO 30) (aO 31))),cK 29 false (cl 33 (.bin .eql T.ox (aO 32) (.const (.int .u8 95)))),cK 18 true (om 34 29 33),qd 35 18 34])),(6,.c (.cN [aL 41 0,aL 42 1,cl 43 (.n8 (aO 41) (aO 42)),fr 44 (.fn F.BV [(aO 43)])])),(7,.c (.cN [aL 45 6,aL 46 0,cl 47 (.qN (aO 46)),gX .lss T.a 48 45 47,aL 49 48,cK 49 true (aL 50 0),cK 49 true (aL 51 6),cK 49 true (cl 52 (.n8 (aO 50) (aO 51))),cK 49 true (fr 53 (.fn F.BV [(aO 52)])),qd 54 49 53])),(14,.c (.si [aL 67 0,cl 68 (.qN (aO 67)),aL 69 1,gX .sub T.a 70 68 69,aL 71 7,aL 72 8,gO 73 1 71 72,dD 74 73,cl 75 (.qN (aO 74)),gX .geq T.a 76 70 75,aL 77 76,cK 77 true (aL 78 0),cK 77 true (aL 79 1),cK 77 true (aL 80 1),cK 77 true (aL 81 7),cK 77 true (aL 82 8),cK 77 true (gO 83 1 81 82),cK 77 true (dD 84 83),cK 77 true (cl 85 (.qN (aO 84))),cK 77 true (gX .add T.a 86 80 85),cK 77 true (cl 87 (.Ch (aO 78) (some (aO 79)) (some (aO 86)))),cK 77 true (aL 88 7),cK 77 true (aL 89 8),cK 77 true (gO 90 1 88 89),cK 77 true (dD 91 90),cK 77 true (gX .eql T.m 92 87 91),qd 93 77 92])),(15,.c (.cN [aL 94 7,aL 95 8,gO 96 1 94 95,dD 97 96,cl 98 (.qN (aO 97)),aL 4 98,dn 5 (bQ 3)]))] Tryz.f159⟩:=bd
def E.MN:bc F.MN ⟨118,[.tmp 4,.tmp 5],zA_ [(27,.w)] Tryz.f160⟩:=bd
def E.MO:bc F.MO ⟨51,[.tmp 6,.tmp 7],zA_ [] Tryz.f161⟩:=bd
def E.MQ:bc F.MQ ⟨27,[.tmp 6,.tmp 7],zA_ [] Tryz.f162⟩:=bd
theorem E.xd:bc F.xd ⟨11,[.tmp 2,.tmp 3],zA_ [] Tryz.f163⟩:=bd
noncomputable def C.a:mi:=⟨17,[],zA_ [(1,.c (.u4 [aL 10 0,aL 11 1,aL 12 2,aL 13 3,cl 14 (.hL [dk,dk,dk,dk] [(0,1),(1,1),(2,1),(3,1)] [(0,(aO 10)),(1,(aO 11)),(2,(aO 12)),(3,(aO 13))]),cl 15 (.hL [dk,dk,dk,dk] [(0,4)] [(0,(aO 14))]),cl 16 (.Ee T.j9 (aO 15))] (aO 16)))] Tryz.f164⟩
theorem E.a:k7 Tryz.prog F.a=some C.a:=Cg
def E.De:bc F.De ⟨17,[.tmp 6,.tmp 7],zA_ [(1,.c (.cN [dD 8 3,gg 9 8,aL 10 2,cl 11 (.x5 (aO 10) (bQ 0)),cl 12 (.z1 F.w [] [(aO 3)]),cl 13 (.z1 F.x [] [(aO 3),(aO 4)]),fr 14 (.fn F.ox [(aO 9),(aO 11),(aO 12),(aO 13)]),cl 15 (.ext (aO 14) 0),cl 16 (.ext (aO 14) 1),aL 6 15,aL 7 16]))] Tryz.f165⟩:=bd
noncomputable def C.f:mi:=⟨16,[],zA_ [(0,.c (.cN [aL 8 0,aL 9 1,na 10 (.qO .string (.bool false) false (aO 8) (aO 9))])),(1,.c (.fS [aL 11 2,aL 12 3] (some 13) F.a [(bQ 7),(aO 11),(aO 12),(bQ 0)])),(2,.c (.cN [aL 14 0,aL 15 1,hH (.lM .string (aO 14) (aO 15) (h3 true))]))] Tryz.f166⟩
theorem E.f:k7 Tryz.prog F.f=some C.f:=Cg
def E.rn:bc F.rn ⟨13,[.tmp 4,.tmp 5],zA_ [] Tryz.f167⟩:=bd
def E.el:bc F.el ⟨64,[.tmp 4,.tmp 5,.tmp 6],zA_ [] Tryz.f168⟩:=bd
def E.em:bc F.em ⟨33,[.jq 6 4],zA_ [(3,.s (.q 0 6 (.f 6 (.f 7 .d .n) .n)))] Tryz.f169⟩:=bd
def E.tg:bc F.tg ⟨79,[.tmp 2,.tmp 3,.tmp 4],zA_ [(10,.c (.cN [aL 36 7,fp 37 2 11,dD 38 37,cl 39 (.x5 (aO 38) (bQ 0)),cl 40 (.z0 (aO 39) (bQ 4)),cl 41 (.bin .add T.a (bQ 1) (aO 40)),gX .add T.a 42 36 41,aL 7 42]))] Tryz.f170⟩:=bd
def E.J6:bc F.J6 ⟨34,[.tmp 2],zA_ [(1,.c (.cN [aL 5 0,cl 6 (.bin .eql T.m (aO 5) (.const yy)),aL 7 6,cK 7 false (aL 8 0),cK 7 false (cl 9 (.qN (aO 8))),cK 7 false (mh .gtr T.a 10 9 16),om 11 7 10,aL 12 11,cK 12 false (aL 13 0),cK 12 false (cl 14 (.n8 (aO 13) (bQ 0))),cK 12 false (cl 15 (.Da .i32 (aO 14))),cK 12 false (fr 16 (.fn F.w2 [(aO 15)])),cK 12 false (cl 17 (.un .not (aO 16))),om 18 12 17,aL 19 18,cK 19 false (aL 20 0),cK 19 false (fr 21 (.fn F.FF [(aO 20),(.func F.y)])),cK 19 false (aL 22 0),cK 19 false (cl 23 (.qN (aO 22))),cK 19 false (gX .lss T.a 24 21 23),om 25 19 24])),(5,.c (.cN [cl 29 (.BP 4 (aO 26) (aO 27)),aL 4 29]))] Tryz.f171⟩:=bd
def E.J7:bc F.J7 ⟨15,[.tmp 4,.tmp 5],zA_ [] Tryz.f172⟩:=bd
theorem E.s:bc F.s ⟨50,[.tmp 8],zA_ [(5,.s (.w (.q 0 4 (.q 6 4 (.a 4 (.a 5 (.t 12 (.a 10 (.f 11 (.f 13 (.t 14 (.f 15 .d .n)) .n) .n) .n)) (.a 10 (.a 5 (.t 12 (.f 11 (.f 13 (.t 14 (.f 15 .d .n)) .n) .n)) .n) .n)) (.a 10 (.a 4 (.a 5 (.t 12 (.f 11 (.f 13 (.t 14 (.f 15 .d .n)) .n) .n)) .n) .n) .n))))))] Tryz.f173⟩:=bd
theorem E.fi:bc F.fi ⟨19,[.jq 3 4],zA_ [] Tryz.f174⟩:=bd
theorem E.t:bc F.t ⟨39,[],zA_ [] Tryz.f176⟩:=bd
def E.eq:bc F.eq ⟨32,[.tmp 4],zA_ [] Tryz.f177⟩:=bd
theorem E.cX:bc F.cX ⟨4,[.tmp 2],zA_ [] Tryz.f179⟩:=bd
theorem E.cP:bc F.cP ⟨55,[.tmp 4],zA_ [(8,.s (.q 0 8 (.f 8 (.t 9 .d) .n)))] Tryz.f180⟩:=bd
def E.D8:bc F.D8 ⟨62,[.tmp 4],zA_ [(12,.s (.q 1 3 (.q 5 4 (.f 0 (.f 4 (.f 9 (.t 10 .d) .n) .n) .n))))] Tryz.f181⟩:=bd
def E.th:bc F.th ⟨23,[.tmp 4,.tmp 5],zA_ [(2,.w)] Tryz.f182⟩:=bd
theorem E.eJ:bc F.eJ ⟨20,[.tmp 4],zA_ [] Tryz.f183⟩:=bd
def E.Nv:bc F.Nv ⟨19,[.tmp 2,.tmp 3,.tmp 4],zA_ [(4,.s (.q 0 4 (.q 5 3 (.a 4 (.q 8 3 .d) .n))))] Tryz.f184⟩:=bd
def E.NI:bc F.NI ⟨32,[.tmp 8,.tmp 9],zA_ [] Tryz.f185⟩:=bd
def E.Nu:bc F.Nu ⟨29,[.tmp 4,.tmp 5],zA_ [] Tryz.f186⟩:=bd
def E.MK:bc F.MK ⟨18,[.tmp 4,.tmp 5],zA_ [] Tryz.f187⟩:=bd
def E.MI:bc F.MI ⟨4,[.tmp 2],zA_ [] Tryz.f188⟩:=bd
def E.Mw:bc F.Mw ⟨14,[.tmp 4,.tmp 5],zA_ [] Tryz.f189⟩:=bd
def E.Mu:bc F.Mu ⟨14,[.tmp 4,.tmp 5],zA_ [] Tryz.f190⟩:=bd
def E.Mv:bc F.Mv ⟨14,[.tmp 4,.tmp 5],zA_ [] Tryz.f191⟩:=bd
def E.dV:bc F.dV ⟨20,[.tmp 4,.tmp 5],zA_ [] Tryz.f192⟩:=bd
theorem E.a5:bc F.a5 ⟨46,[.tmp 4],zA_ [] Tryz.f193⟩:=bd
theorem E.az:bc F.az ⟨11,[.tmp 2],zA_ [] Tryz.f194⟩:=bd
def E.fM:bc F.fM ⟨12,[.tmp 5],zA_ [(1,.s (.q 0 3 (.t 4 (.a 3 (.f 5 (.t 6 .d) .n) .n))))] Tryz.f195⟩:=bd
theorem E.a6:bc F.a6 ⟨16,[.tmp 4],zA_ [] Tryz.f196⟩:=bd
theorem E.bt:bc F.bt ⟨31,[.tmp 4],zA_ [] Tryz.f197⟩:=bd
theorem E.l:bc F.l ⟨34,[.jq 6 4],zA_ [(2,.s (.q 0 21 (.f 21 .d .n)))] Tryz.f198⟩:=bd
theorem E.bJ:bc F.bJ ⟨40,[.tmp 6],zA_ [(5,.s (.q 0 2 (.q 3 5 (.a 2 (.f 8 (.t 9 .d) .n) .n))))] Tryz.f199⟩:=bd
def E.M3:bc F.M3 ⟨21,[.tmp 6],zA_ [] Tryz.f200⟩:=bd
def E.M1:bc F.M1 ⟨96,[.tmp 6],zA_ [(19,.w)] Tryz.f201⟩:=bd
def E.D9:bc F.D9 ⟨17,[.tmp 2],zA_ [] Tryz.f202⟩:=bd
def E.BV:bc F.BV ⟨9,[.tmp 2],zA_ [] Tryz.f203⟩:=bd
def E.MD:bc F.MD ⟨2,[.tmp 0],zA_ [] Tryz.f204⟩:=bd
def E.MJ:bc F.MJ ⟨41,[.jq 6 6,.tmp 7],zA_ [(1,.w)] Tryz.f205⟩:=bd
def E.HH:bc F.HH ⟨7,[.tmp 2],zA_ [] Tryz.f206⟩:=bd
def E.ME:bc F.ME ⟨32,[.jq 6 4,.tmp 5],zA_ [(1,.w)] Tryz.f207⟩:=bd
def E.ox:bc F.ox ⟨44,[.tmp 8,.tmp 9],zA_ [(1,.c (.cN [c6 14 .z2,aL 10 14])),(12,.c (.cN [aL 34 10,aL 35 12,na 36 (.qO .string (.bool false) false (aO 34) (aO 35)),aL 33 36])),(16,.c (.cN [aL 41 10,aL 42 12,hH (.lM .string (aO 41) (aO 42) (h3 true))]))] Tryz.f208⟩:=bd
def E.s4:bc F.s4 ⟨9,[.tmp 3],zA_ [] Tryz.f209⟩:=bd
def E.s5:bc F.s5 ⟨18,[.tmp 3],zA_ [] Tryz.f210⟩:=bd
theorem E.w:bc F.w ⟨9,[.tmp 3],zA_ [] Tryz.f211⟩:=bd
theorem E.x:bc F.x ⟨51,[.tmp 4],zA_ [] Tryz.f212⟩:=bd
def E.zi:bc F.zi ⟨18,[.tmp 4],zA_ [] Tryz.f213⟩:=bd
def E.A0:bc F.A0 ⟨22,[.tmp 4],zA_ [] Tryz.f214⟩:=bd
def E.s6:bc F.s6 ⟨9,[.tmp 3],zA_ [] Tryz.f215⟩:=bd
def E.g1:bc F.g1 ⟨36,[.tmp 4],zA_ [] Tryz.f216⟩:=bd
def E.fd:bc F.fd ⟨36,[.tmp 4],zA_ [] Tryz.f217⟩:=bd
def E.Kc:bc F.Kc ⟨40,[.tmp 4,.tmp 5],zA_ [] Tryz.f218⟩:=bd
def E.Kd:bc F.Kd ⟨12,[.jq 6 4],zA_ [(1,.s (.t 0 (.t 2 (.f 1 (.t 4 (.f 3 (.f 5 (.t 6 (.f 7 .d .n)) .n) (.f 5 (.f 3 (.t 6 (.f 7 .d .n)) .n) .n))) (.f 3 (.f 1 (.t 4 (.f 5 (.t 6 (.f 7 .d .n)) .n)) .n) .n)))))] Tryz.f219⟩:=bd
def E.Ke:bc F.Ke ⟨60,[.tmp 6,.tmp 7],zA_ [] Tryz.f220⟩:=bd
def E.fz:bc F.fz ⟨9,[.tmp 3],zA_ [] Tryz.f222⟩:=bd
def E.Kf:bc F.Kf ⟨45,[.jq 6 2],zA_ [(1,.s (.q 0 2 (.q 3 2 (.q 6 2 (.a 2 (.t 9 (.a 5 (.f 8 (.f 10 (.t 11 (.f 12 (.t 13 (.f 14 .d .n)) .n)) .n) .n) .n)) .n)))))] Tryz.f223⟩:=bd
def E.w2:bc F.w2 ⟨17,[.tmp 2],zA_ [] Tryz.f224⟩:=bd
def E.FF:bc F.FF ⟨20,[.tmp 4],zA_ [(1,.c (.cN [aL 7 0,c6 8 (.Cc (aO 7))])),(2,.c (.cN [c6 9 (.B3 (aO 8)),cl 10 (.ext (aO 9) 0)])),(6,.c (.cN [aL 18 0,cl 19 (.qN (aO 18)),aL 4 19]))] Tryz.f225⟩:=bd
theorem E.y:bc F.y ⟨13,[.tmp 2],zA_ [] Tryz.f226⟩:=bd
def E.Kg:bc F.Kg ⟨52,[.tmp 8,.tmp 9],zA_ [] Tryz.f227⟩:=bd
def E.Kn:bc F.Kn ⟨12,[.tmp 4,.tmp 5],zA_ [] Tryz.f228⟩:=bd
def E.xh:bc F.xh ⟨74,[.tmp 6,.tmp 7],zA_ [] Tryz.f229⟩:=bd
def E.Ko:bc F.Ko ⟨33,[.tmp 4,.tmp 5],zA_ [] Tryz.f230⟩:=bd
def E.Kp:bc F.Kp ⟨7,[.tmp 2],zA_ [] Tryz.f231⟩:=bd
theorem E.z:bc F.z ⟨14,[],zA_ [] Tryz.f232⟩:=bd
def E.fn:bc F.fn ⟨15,[.tmp 2],zA_ [] Tryz.f233⟩:=bd
def E.Kq:bc F.Kq ⟨24,[.tmp 2],zA_ [] Tryz.f234⟩:=bd
def E.MA:bc F.MA ⟨14,[.tmp 2],zA_ [] Tryz.f236⟩:=bd
def E.Mz:bc F.Mz ⟨19,[.tmp 2],zA_ [] Tryz.f237⟩:=bd
def E.fV:bc F.fV ⟨6,[.tmp 2],zA_ [] Tryz.f238⟩:=bd
def E.Nt:bc F.Nt ⟨23,[.tmp 2],zA_ [] Tryz.f239⟩:=bd
def E.Nw:bc F.Nw ⟨31,[.tmp 4],zA_ [] Tryz.f240⟩:=bd
def E.Nx:bc F.Nx ⟨37,[.tmp 2],zA_ [] Tryz.f241⟩:=bd
def E.Mx:bc F.Mx ⟨22,[.tmp 6,.tmp 7],zA_ [] Tryz.f242⟩:=bd
def E.Kv:bc F.Kv ⟨17,[.tmp 2,.tmp 3],zA_ [(3,.s (.q 0 2 (.t 3 (.t 5 (.a 2 (.a 4 (.a 6 (.t 7 (.f 8 (.q 9 2 .d) .n)) .n) .n) .n)))))] Tryz.f243⟩:=bd
def E.Kw:bc F.Kw ⟨31,[.tmp 2],zA_ [(7,.c (.cN [aL 15 5,mh .lss T.a 16 15 0,aL 17 16,cK 17 false (aL 18 5),cK 17 false (aL 19 0),cK 17 false (gg 20 19),cK 17 false (gX .geq T.a 21 18 20),om 22 17 21,aL 23 22,cK 23 false (aL 24 5),cK 23 false (cl 25 (.qL 8 1 (aO 3) (aO 24))),cK 23 false (dD 26 25),om 27 23 26])),(9,.c (.cN [aL 28 5,cl 29 (.qL 8 1 (aO 3) (aO 28)),hH (.st (aO 29) (h3 true))]))] Tryz.f244⟩:=bd
def E.Kx:bc F.Kx ⟨37,[.tmp 4],zA_ [] Tryz.f245⟩:=bd
def E.f0:bc F.f0 ⟨20,[.tmp 2,.tmp 3],zA_ [(5,.w)] Tryz.f246⟩:=bd
def E.f1:bc F.f1 ⟨90,[.tmp 6,.tmp 7],zA_ [(1,.s (.q 0 2 (.q 3 8 (.a 2 (.a 11 (.a 12 (.t 13 .d) .n) .n) (.a 11 (.a 2 (.a 12 (.t 13 .d) .n) .n) .n))))),(4,.w),(16,.s (.q 0 8 (.f 8 .d .n)))] Tryz.f247⟩:=bd
def E.f2:bc F.f2 ⟨39,[.tmp 8],zA_ [(4,.c (.p7 (.take (aL 29 11) (.take (aL 30 12) (.take (aL 31 13) (.take (cl 32 (.kG 1 (aO 29) (some (aO 30)) (some (aO 31)) none)) (.take (aL 33 1) (.take (aL 34 12) (.take (aL 35 13) (.take (cl 36 (.kG 1 (aO 33) (some (aO 34)) (some (aO 35)) none)) (.gv (c6 37 (.raw (.call ⟨.builtin .copy,#[(aO 32),(aO 36)],#[T.b,T.b]⟩) T.a)) .done .nil)))))))))))] Tryz.f248⟩:=bd
def E.M4:bc F.M4 ⟨39,[.tmp 4],zA_ [(9,.w)] Tryz.f249⟩:=bd
def E.M5:bc F.M5 ⟨25,[.tmp 6,.tmp 7],zA_ [] Tryz.f250⟩:=bd
def E.MP:bc F.MP ⟨14,[.tmp 4],zA_ [] Tryz.f251⟩:=bd
def E.be:bc F.be ⟨9,[.tmp 3],zA_ [] Tryz.f253⟩:=bd
def E.f6:bc F.f6 ⟨28,[.tmp 4],zA_ [] Tryz.f254⟩:=bd
def E.f7:bc F.f7 ⟨23,[.tmp 6],zA_ [] Tryz.f255⟩:=bd
def E.f8:bc F.f8 ⟨11,[.tmp 2],zA_ [] Tryz.f256⟩:=bd
def E.f9:bc F.f9 ⟨85,[.tmp 4],zA_ [] Tryz.f257⟩:=bd
def E.zj:bc F.zj ⟨47,[.tmp 2],zA_ [(10,.s (.q 0 2 (.q 3 2 (.a 2 (.t 6 (.f 5 (.f 7 (.t 8 (.f 9 .d .n)) .n) .n)) .n))))] Tryz.f262⟩:=bd
def E.zk:bc F.zk ⟨9,[.tmp 2],zA_ [] Tryz.f263⟩:=bd
def E.gc:bc F.gc ⟨14,[.tmp 0],zA_ [(1,.c (.cN [c6 1 .z2,cl 2 (.hL [dk,dk,dk,.nilFunc] [(0,1),(1,1),(2,1),(3,1)] [(0,(bQ 1)),(1,(bQ 1)),(2,(bQ 1)),(3,(.func F.sa))]),hH (.lM (.int .i64) (aO 1) (bQ 9) (aO 2)),cl 3 (.hL [dk,dk,dk,.nilFunc] [(0,1),(1,1),(2,1),(3,1)] [(0,(bQ 1)),(1,(bQ 0)),(2,(bQ 0)),(3,(.func F.ac))]),hH (.lM (.int .i64) (aO 1) (bQ 10) (aO 3)),cl 4 (.hL [dk,dk,dk,.nilFunc] [(0,1),(1,1),(2,1),(3,1)] [(0,(bQ 2)),(1,(bQ 0)),(2,(bQ 0)),(3,(.func F.rf))]),hH (.lM (.int .i64) (aO 1) (bQ 11) (aO 4)),cl 5 (.hL [dk,dk,dk,.nilFunc] [(0,1),(1,1),(2,1),(3,1)] [(0,(bQ 2)),(1,(bQ 0)),(2,(bQ 0)),(3,(.func F.s7))]),hH (.lM (.int .i64) (aO 1) (bQ 12) (aO 5)),cl 6 (.hL [dk,dk,dk,.nilFunc] [(0,1),(1,1),(2,1),(3,1)] [(0,(bQ 2)),(1,(bQ 0)),(2,(bQ 0)),(3,(.func F.tY))]),hH (.lM (.int .i64) (aO 1) (bQ 13) (aO 6)),fr 7 (.fn F.c [(bQ (-1)),(.func F.s8)]),hH (.lM (.int .i64) (aO 1) (bQ 14) (aO 7)),fr 8 (.fn F.c [(bQ (-1)),(.func F.oy)]),hH (.lM (.int .i64) (aO 1) (bQ 15) (aO 8)),fr 9 (.fn F.c [(bQ 0),(.func F.pE)]),hH (.lM (.int .i64) (aO 1) (bQ 16) (aO 9)),fr 10 (.fn F.c [(bQ 0),(.func F.j9)]),hH (.lM (.int .i64) (aO 1) (bQ 17) (aO 10)),fr 11 (.fn F.c [(bQ 1),(.func F.qp)]),hH (.lM (.int .i64) (aO 1) (bQ 18) (aO 11)),fr 12 (.fn F.c [(bQ 1),(.func F.ua)]),hH (.lM (.int .i64) (aO 1) (bQ 19) (aO 12)),aL 13 1,aL 0 13]))] Tryz.f264⟩:=bd
def E.Ky:bc F.Ky ⟨94,[.tmp 8],zA_ [(1,.w),(8,.c (.p7 (.take (aL 33 0) (.take (cl 34 (.sK (aO 33))) (.take (fp 35 1 34) (.take (dD 36 35) (.take (fp 37 0 5) (.take (dD 38 37) (.take (na 39 (.qO (.int .i64) (.agg #[dk,dk,dk,.nilFunc]) true (aO 36) (aO 38))) (.take (aL 32 39) (.take (cl 40 (.ext (aO 32) 0)) (.take (cl 41 (.ext (aO 32) 1)) (.alt (c6 12 (.new T.qq (.agg #[dk,dk,dk,.nilFunc]))) (.gv (hH (.mJ 4 (aO 12) (aO 40))) (.take (aL 13 41) .done) .nil) .nil))))))))))))),(10,.w),(14,.s (.q 0 14 (.a 14 (.f 15 (.q 16 2 (.f 18 .d .n)) .n) .n)))] Tryz.f265⟩:=bd
def E.rf:bc F.rf ⟨12,[.tmp 4,.tmp 5],zA_ [] Tryz.f266⟩:=bd
def E.ge:bc F.ge ⟨96,[.tmp 4,.tmp 5],zA_ [(7,.w),(11,.w)] Tryz.f267⟩:=bd
def E.hO:bc F.hO ⟨45,[.tmp 6,.tmp 7,.tmp 8],zA_ [(3,.w),(4,.w)] Tryz.f268⟩:=bd
def E.Kz:bc F.Kz ⟨15,[.tmp 2],zA_ [(1,.w)] Tryz.f269⟩:=bd
def E.My:bc F.My ⟨9,[.tmp 2],zA_ [] Tryz.f270⟩:=bd
def E.KA:bc F.KA ⟨18,[.tmp 4,.tmp 5],zA_ [] Tryz.f271⟩:=bd
def E.KB:bc F.KB ⟨56,[.tmp 2],zA_ [] Tryz.f272⟩:=bd
def E.Gh:bc F.Gh ⟨33,[.tmp 4,.tmp 5],zA_ [(1,.w)] Tryz.f273⟩:=bd
def E.KC:bc F.KC ⟨12,[.tmp 3],zA_ [] Tryz.f275⟩:=bd
def E.KD:bc F.KD ⟨10,[.tmp 4],zA_ [] Tryz.f276⟩:=bd
def E.FH:bc F.FH ⟨39,[.jq 6 6,.tmp 7,.tmp 8],zA_ [(3,.w)] Tryz.f277⟩:=bd
def E.FI:bc F.FI ⟨25,[.tmp 4,.tmp 5],zA_ [(3,.w)] Tryz.f278⟩:=bd
def E.vH:bc F.vH ⟨32,[.tmp 6],zA_ [] Tryz.f279⟩:=bd
def E.sa:bc F.sa ⟨9,[.tmp 4,.tmp 5],zA_ [] Tryz.f281⟩:=bd
def E.go:bc F.go ⟨4,[.tmp 2],zA_ [] Tryz.f282⟩:=bd
def E.ac:bc F.ac ⟨10,[.tmp 4,.tmp 5],zA_ [] Tryz.f283⟩:=bd
def E.s7:bc F.s7 ⟨12,[.tmp 4,.tmp 5],zA_ [] Tryz.f284⟩:=bd
def E.tY:bc F.tY ⟨12,[.tmp 4,.tmp 5],zA_ [] Tryz.f285⟩:=bd
theorem E.c:bc F.c ⟨8,[.jq 4 4],zA_ [] Tryz.f286⟩:=bd
def E.s8:bc F.s8 ⟨8,[.tmp 4],zA_ [] Tryz.f287⟩:=bd
def E.oy:bc F.oy ⟨8,[.tmp 4],zA_ [] Tryz.f288⟩:=bd
def E.pE:bc F.pE ⟨8,[.tmp 4],zA_ [] Tryz.f289⟩:=bd
def E.j9:bc F.j9 ⟨8,[.tmp 4],zA_ [] Tryz.f290⟩:=bd
def E.qp:bc F.qp ⟨11,[.tmp 4],zA_ [] Tryz.f291⟩:=bd
def E.ua:bc F.ua ⟨11,[.tmp 4],zA_ [] Tryz.f292⟩:=bd
def E.KF:bc F.KF ⟨26,[.tmp 4],zA_ [(5,.c (.cN [aL 18 1,aL 19 0,na 20 (.qO (.int .i64) (.agg #[dk,dk,dk,.nilFunc]) true (aO 18) (aO 19)),aL 17 20,cl 21 (.ext (aO 17) 0),cl 22 (.ext (aO 17) 1),c6 5 (.new T.qq (.agg #[dk,dk,dk,.nilFunc])),hH (.mJ 4 (aO 5) (aO 21)),aL 6 22]))] Tryz.f293⟩:=bd
def E.FJ:bc F.FJ ⟨8,[.tmp 4],zA_ [] Tryz.f294⟩:=bd
def E.KG:bc F.KG ⟨24,[.tmp 6,.tmp 7],zA_ [] Tryz.f295⟩:=bd
def E.KH:bc F.KH ⟨21,[.tmp 4,.tmp 5],zA_ [] Tryz.f296⟩:=bd
def E.gs:bc F.gs ⟨15,[.tmp 4,.tmp 5],zA_ [] Tryz.f297⟩:=bd
def E.gt:bc F.gt ⟨208,[.jq 5 2],zA_ [(6,.s (.q 0 17 (.a 17 (.q 18 2 (.a 20 (.f 21 (.t 22 (.f 23 .d .n)) .n) .n)) .n))),(11,.s (.q 0 9 (.a 9 (.f 10 (.t 11 (.f 12 .d .n)) .n) .n))),(16,.s (.q 0 4 (.a 4 (.a 5 (.f 6 (.t 7 (.f 8 .d .n)) .n) .n) .n))),(21,.s (.q 0 27 (.f 27 .d .n))),(23,.s (.q 0 13 (.a 13 (.f 14 .d .n) .n))),(24,.w),(25,.s (.q 0 23 (.f 23 .d .n)))] Tryz.f298⟩:=bd
def E.KI:bc F.KI ⟨32,[.tmp 6,.tmp 7],zA_ [] Tryz.f299⟩:=bd
def E.bi:bc F.bi ⟨8,[.tmp 4],zA_ [] Tryz.f300⟩:=bd
def E.FK:bc F.FK ⟨8,[.tmp 4],zA_ [] Tryz.f301⟩:=bd
theorem E.g:bc F.g ⟨12,[.tmp 5,.tmp 6],zA_ [] Tryz.f302⟩:=bd
def E.KJ:bc F.KJ ⟨18,[.tmp 2],zA_ [] Tryz.f303⟩:=bd
def E.KK:bc F.KK ⟨12,[.tmp 4,.tmp 5],zA_ [] Tryz.f304⟩:=bd
def E.KL:bc F.KL ⟨117,[.tmp 6,.tmp 7],zA_ [(13,.w),(26,.w)] Tryz.f305⟩:=bd
def E.KM:bc F.KM ⟨26,[.tmp 4,.tmp 5],zA_ [(1,.w)] Tryz.f306⟩:=bd
def E.KN:bc F.KN ⟨18,[.tmp 4,.tmp 5],zA_ [] Tryz.f307⟩:=bd
def E.FL:bc F.FL ⟨34,[.tmp 4],zA_ [(2,.s (.q 0 17 (.f 17 (.q 18 2 .d) .n)))] Tryz.f325⟩:=bd
def E.vG:bc F.vG ⟨42,[.tmp 6],zA_ [] Tryz.f326⟩:=bd
def E.FM:bc F.FM ⟨80,[.tmp 4],zA_ [(3,.w),(5,.s (.q 0 18 (.f 18 (.t 19 .d) .n)))] Tryz.f327⟩:=bd
def E.FN:bc F.FN ⟨40,[.tmp 4],zA_ [(2,.s (.q 0 23 (.f 23 (.q 24 2 .d) .n)))] Tryz.f328⟩:=bd
def E.FO:bc F.FO ⟨99,[.tmp 4],zA_ [(2,.s (.q 0 13 (.a 13 (.f 14 .d .n) .n))),(3,.w),(6,.w),(8,.c (.cN [aL 89 1,cl 90 (.sK (aO 89)),fp 91 2 90,dD 92 91,aL 93 10,aL 94 11,cl 95 (.kG 1 (aO 92) (some (aO 93)) (some (aO 94)) none),aL 96 12,c6 97 (.raw (.call ⟨.builtin .copy,#[(aO 95),(aO 96)],#[T.b,T.b]⟩) T.a)]))] Tryz.f329⟩:=bd
theorem E.aU:bc F.aU ⟨26,[.tmp 4,.tmp 5],zA_ [] Tryz.f330⟩:=bd
theorem E.a7:bc F.a7 ⟨24,[.tmp 2],zA_ [] Tryz.f331⟩:=bd
theorem E.bE:bc F.bE ⟨17,[.tmp 4],zA_ [(3,.c (.cN [aL 12 5,cl 13 (.kG 1 (aO 12) (some (bQ 1)) none none),aL 14 1,c6 15 (.raw (.call ⟨.builtin .copy,#[(aO 13),(aO 14)],#[T.b,T.b]⟩) T.a)]))] Tryz.f332⟩:=bd
theorem E.bP:bc F.bP ⟨24,[.tmp 2],zA_ [(4,.c (.p7 (.take (aL 11 3) (.take (aL 12 0) (.take (aL 13 0) (.take (cl 14 (.ph 1 (aO 13) (bQ 0))) (.take (dD 15 14) (.take (cl 16 (.bin .add T.a (bQ 1) (aO 15))) (.take (aL 17 0) (.take (cl 18 (.ph 1 (aO 17) (bQ 0))) (.take (dD 19 18) (.take (cl 20 (.bin .add T.a (bQ 1) (aO 19))) (.take (cl 21 (.kG 1 (aO 12) (some (bQ 1)) (some (aO 16)) (some (aO 20)))) (.gv (c6 22 (.raw (.call ⟨.builtin .copy,#[(aO 11),(aO 21)],#[T.b,T.b]⟩) T.a)) .done .nil))))))))))))))] Tryz.f333⟩:=bd
theorem E.c2:bc F.c2 ⟨15,[.tmp 6],zA_ [] Tryz.f334⟩:=bd
def E.nq:bc F.nq ⟨5,[.tmp 2],zA_ [] Tryz.f336⟩:=bd
def E.FR:bc F.FR ⟨67,[.tmp 4],zA_ [(1,.w),(3,.c (.cN [aL 33 1,cl 34 (.sK (aO 33)),fp 35 2 34,dD 36 35,aL 37 5,aL 38 6,cl 39 (.kG 1 (aO 36) (some (aO 37)) (some (aO 38)) none),aL 40 7,c6 41 (.raw (.call ⟨.builtin .copy,#[(aO 39),(aO 40)],#[T.b,T.b]⟩) T.a)])),(4,.s (.q 0 23 (.f 23 (.q 24 2 .d) .n)))] Tryz.f338⟩:=bd
def E.iD:bc F.iD ⟨19,[.tmp 2,.tmp 3,.tmp 4],zA_ [(4,.s (.q 0 4 (.q 5 3 (.a 4 (.q 8 3 .d) .n))))] Tryz.f339⟩:=bd
def E.d:bc F.d ⟨26,[.tmp 4], (b2 [dn 4 (h3 false)] (.seq (b2 [aL 6 0,gg 7 6,aL 8 1,gg 9 8,gX .neq T.a 10 7 9] (iA 10 (b2 [dn 4 (h3 false)] .ret) .skip)) (.seq (b2 [aL 11 0,gg 12 11,dn 13 (bQ 0)] (.b0 0 (.loop (b2 [gX .lss T.a 14 13 12] (oj 14 0
 (.seq (.b0 1 (b2 [aL 15 13,aL 5 15] (.seq (.si [aL 16 0,aL 17 5,gO 18 1 16 17,dD 19 18,aL 20 1,aL 21 5,gO 22 1 20 21,dD 23 22,gX .neq T.a 24 19 23]) (iA 24 (b2 [dn 4 (h3 false)] .ret) .skip)))) (oi T.a 25 13))))))) (b2 [dn 4 (h3 true)] .ret))))⟩:=bd
def E.mX:bc F.mX ⟨8,[.tmp 2], (b2 [dn 2 (.const hA)] (.seq (b2 [aL 3 0,cl 4 (.bin .eql T.b (aO 3) (.const hA))] (iA 4 (b2 [dn 2 (.const hA)] .ret) .skip)) (b2 [c6 5 (.hj T.a 0 1 [] []),aL 6 0,c6 7 (.app T.b T.a 1 8 (aO 5) (aO 6)),aL 2 7] .ret)))⟩:=bd
theorem E.aw:bc F.aw ⟨19,[.tmp 4], (b2 [dn 4 (bQ 0)] (.seq (b2 [aL 6 0,gg 7 6,dn 8 (bQ 0)] (.b0 0 (.loop (b2 [gX .lss T.a 9 8 7] (oj 9 0
 (.seq (.b0 1 (b2 [aL 10 8,aL 5 10] (b2 [aL 11 1,aL 12 0,aL 13 5,gO 14 1 12 13,dD 15 14,fr 16 (.val (aO 11) [(aO 15)])] (iA 16 (b2 [aL 17 5,aL 4 17] .ret) .skip)))) (oi T.a 18 8))))))) (b2 [dn 4 (bQ (-1))] .ret)))⟩:=bd
def E.gH:bc F.gH ⟨8,[.tmp 2], (b2 [dn 2 (.const hA)] (.seq (b2 [aL 3 0,cl 4 (.bin .eql T.Zy (aO 3) (.const hA))] (iA 4 (b2 [dn 2 (.const hA)] .ret) .skip)) (b2 [c6 5 (.hj T.g 0 2 [] []),aL 6 0,c6 7 (.app T.Zy T.g 2 16 (aO 5) (aO 6)),aL 2 7] .ret)))⟩:=bd
def E.w8:bc F.w8 ⟨9,[.tmp 4], (b2 [dn 4 (h3 false)] (b2 [aL 5 0,aL 6 1,qc 7 F.F0 [5,6],mh .geq T.a 8 7 0,aL 4 8] .ret))⟩:=bd
def E.gb:bc F.gb ⟨32,[.tmp 6], (b2 [dn 6 (h3 false)] (.seq (b2 [aL 10 0,gg 11 10,aL 12 1,gg 13 12,gX .neq T.a 14 11 13] (iA 14 (b2 [dn 6 (h3 false)] .ret) .skip)) (.seq (b2 [aL 15 0,gg 16 15,dn 17 (bQ 0)] (.b0 0 (.loop (b2 [gX .lss T.a 18 17 16] (oj 18 0
 (.seq (.b0 1 (b2 [aL 19 17,gO 20 1 15 17,dD 21 20,aL 7 19,aL 8 21] (b2 [aL 22 1,aL 23 7,gO 24 1 22 23,dD 25 24,aL 9 25] (b2 [aL 26 2,aL 27 8,aL 28 9,fr 29 (.val (aO 26) [(aO 27),(aO 28)]),cl 30 (.un .not (aO 29))] (iA 30 (b2 [dn 6 (h3 false)] .ret) .skip))))) (oi T.a 31 17))))))) (b2 [dn 6 (h3 true)] .ret))))⟩:=bd
def E.hM:bc F.hM ⟨19,[.tmp 4], (b2 [c6 3 (.box T.f (aO 1)),dn 4 (bQ 0)] (.seq (b2 [aL 6 0,gg 7 6,dn 8 (bQ 0)] (.b0 0 (.loop (b2 [gX .lss T.a 9 8 7] (oj 9 0
 (.seq (.b0 1 (b2 [aL 10 8,aL 5 10] (.seq (.si [m9 11 2 3,aL 12 0,aL 13 5,gO 14 2 12 13,m9 15 2 14,gX .eql T.f 16 11 15]) (iA 16 (b2 [aL 17 5,aL 4 17] .ret) .skip)))) (oi T.a 18 8))))))) (b2 [dn 4 (bQ (-1))] .ret)))⟩:=bd
def E.ds:bc F.ds ⟨5,[.tmp 2], (b2 [dn 2 (.const hA)] (b2 [aL 3 0,fr 4 (.fn F.n1 [(.const hA),(aO 3)]),aL 2 4] .ret))⟩:=bd
def E.F0:bc F.F0 ⟨19,[.tmp 4], (b2 [dn 4 (bQ 0)] (.seq (b2 [aL 6 0,gg 7 6,dn 8 (bQ 0)] (.b0 0 (.loop (b2 [gX .lss T.a 9 8 7] (oj 9 0
 (.seq (.b0 1 (b2 [aL 10 8,aL 5 10] (b2 [aL 11 1,aL 12 0,aL 13 5,gO 14 1 12 13,dD 15 14,fr 16 (.val (aO 11) [(aO 15)])] (iA 16 (b2 [aL 17 5,aL 4 17] .ret) .skip)))) (oi T.a 18 8))))))) (b2 [dn 4 (bQ (-1))] .ret)))⟩:=bd
def E.JY:bc F.JY ⟨19,[.tmp 4], (b2 [c6 3 (.box T.c (aO 1)),dn 4 (bQ 0)] (.seq (b2 [aL 6 0,gg 7 6,dn 8 (bQ 0)] (.b0 0 (.loop (b2 [gX .lss T.a 9 8 7] (oj 9 0
 (.seq (.b0 1 (b2 [aL 10 8,aL 5 10] (.seq (.si [m9 11 2 3,aL 12 0,aL 13 5,gO 14 2 12 13,m9 15 2 14,gX .eql T.c 16 11 15]) (iA 16 (b2 [aL 17 5,aL 4 17] .ret) .skip)))) (oi T.a 18 8))))))) (b2 [dn 4 (bQ (-1))] .ret)))⟩:=bd
theorem E.cj:bc F.cj ⟨19,[.tmp 4], (b2 [dn 4 (bQ 0)] (.seq (b2 [aL 6 0,gg 7 6,dn 8 (bQ 0)] (.b0 0 (.loop (b2 [gX .lss T.a 9 8 7] (oj 9 0
 (.seq (.b0 1 (b2 [aL 10 8,aL 5 10] (b2 [aL 11 1,aL 12 0,aL 13 5,gO 14 1 12 13,dD 15 14,gX .eql T.a 16 11 15] (iA 16 (b2 [aL 17 5,aL 4 17] .ret) .skip)))) (oi T.a 18 8))))))) (b2 [dn 4 (bQ (-1))] .ret)))⟩:=bd
def E.J0:bc F.J0 ⟨36,[.tmp 4], (b2 [dn 4 (bQ 0)] (.seq (b2 [aL 9 0,gg 10 9,dn 11 (bQ 0)] (.b0 0 (.loop (b2 [gX .lss T.a 12 11 10] (oj 12 0
 (.seq (.b0 1 (b2 [aL 13 11,gO 14 1 9 11,dD 15 14,aL 5 13,aL 6 15] (.seq (b2 [aL 16 5,aL 17 1,gg 18 17,gX .geq T.a 19 16 18] (iA 19 (b2 [dn 4 (bQ 1)] .ret) .skip)) (b2 [aL 20 1,aL 21 5,gO 22 1 20 21,dD 23 22,aL 7 23] (b2 [aL 24 6,aL 25 7,qc 26 F.eJ [24,25],aL 8 26] (b2 [aL 27 8,mh .neq T.a 28 27 0] (iA 28 (b2 [aL 29 8,aL 4 29] .ret) .skip))))))) (oi T.a 30 11))))))) (.seq (b2 [aL 31 0,gg 32 31,aL 33 1,gg 34 33,gX .lss T.a 35 32 34] (iA 35 (b2 [dn 4 (bQ (-1))] .ret) .skip)) (b2 [dn 4 (bQ 0)] .ret))))⟩:=bd
theorem E.ab:bc F.ab ⟨9,[.tmp 4], (b2 [dn 4 (h3 false)] (b2 [aL 5 0,aL 6 1,qc 7 F.a2 [5,6],mh .geq T.a 8 7 0,aL 4 8] .ret))⟩:=bd
def E.Kr:bc F.Kr ⟨33,[.tmp 6], (b2 [dn 6 (.const hA)] (b2 [aL 8 0,aL 9 1,aL 10 2,aL 11 0,gg 12 11,cl 13 (.kG 1 (aO 8) (some (aO 9)) (some (aO 10)) (some (aO 12)))] (.seq (b2 [aL 14 1,aL 15 2,gX .eql T.a 16 14 15] (iA 16 (b2 [aL 17 0,aL 6 17] .ret) .skip)) (b2 [aL 18 0,gg 19 18,aL 7 19] (.seq (.p7 (nL (aL 20 0) (nL (aL 21 1) (nL (cl 22 (.kG 1 (aO 20) none (some (aO 21)) none)) (nL (aL 23 0) (nL (aL 24 2) (nL (cl 25 (.kG 1 (aO 23) (some (aO 24)) none none)) (.gv (c6 26 (.app T.b T.a 1 8 (aO 22) (aO 25))) (nL (aL 0 26) .done) .nil)))))))) (b2 [aL 27 0,aL 28 0,gg 29 28,aL 30 7,cl 31 (.kG 1 (aO 27) (some (aO 29)) (some (aO 30)) none),hH (.raw (.call ⟨.builtin .clear,#[(aO 31)],#[T.b]⟩) T.ac)] (b2 [aL 32 0,aL 6 32] .ret)))))))⟩:=bd
theorem E.au:bc F.au ⟨9,[.tmp 4], (b2 [dn 4 (h3 false)] (b2 [aL 5 0,aL 6 1,qc 7 F.he [5,6],mh .geq T.a 8 7 0,aL 4 8] .ret))⟩:=bd
theorem E.a2:bc F.a2 ⟨19,[.tmp 4], (b2 [dn 4 (bQ 0)] (.seq (b2 [aL 6 0,gg 7 6,dn 8 (bQ 0)] (.b0 0 (.loop (b2 [gX .lss T.a 9 8 7] (oj 9 0
 (.seq (.b0 1 (b2 [aL 10 8,aL 5 10] (b2 [aL 11 1,aL 12 0,aL 13 5,gO 14 6 12 13,m9 15 6 14,fr 16 (.val (aO 11) [(aO 15)])] (iA 16 (b2 [aL 17 5,aL 4 17] .ret) .skip)))) (oi T.a 18 8))))))) (b2 [dn 4 (bQ (-1))] .ret)))⟩:=bd
theorem E.ak:bc F.ak ⟨8,[.tmp 2], (b2 [dn 2 (.const hA)] (.seq (b2 [aL 3 0,cl 4 (.bin .eql T.s7 (aO 3) (.const hA))] (iA 4 (b2 [dn 2 (.const hA)] .ret) .skip)) (b2 [c6 5 (.hj T.y 0 2 [] []),aL 6 0,c6 7 (.app T.s7 T.y 2 24 (aO 5) (aO 6)),aL 2 7] .ret)))⟩:=bd
theorem E.ag:bc F.ag ⟨8,[.tmp 2], (b2 [dn 2 (.const hA)] (.seq (b2 [aL 3 0,cl 4 (.bin .eql T.tY (aO 3) (.const hA))] (iA 4 (b2 [dn 2 (.const hA)] .ret) .skip)) (b2 [c6 5 (.hj T.i 0 6 [] []),aL 6 0,c6 7 (.app T.tY T.i 6 56 (aO 5) (aO 6)),aL 2 7] .ret)))⟩:=bd
theorem E.aG:bc F.aG ⟨8,[.tmp 2], (b2 [dn 2 (.const hA)] (.seq (b2 [aL 3 0,cl 4 (.bin .eql T.s8 (aO 3) (.const hA))] (iA 4 (b2 [dn 2 (.const hA)] .ret) .skip)) (b2 [c6 5 (.hj T.r 0 6 [] []),aL 6 0,c6 7 (.app T.s8 T.r 6 56 (aO 5) (aO 6)),aL 2 7] .ret)))⟩:=bd
theorem E.he:bc F.he ⟨19,[.tmp 4], (b2 [dn 4 (bQ 0)] (.seq (b2 [aL 6 0,gg 7 6,dn 8 (bQ 0)] (.b0 0 (.loop (b2 [gX .lss T.a 9 8 7] (oj 9 0
 (.seq (.b0 1 (b2 [aL 10 8,aL 5 10] (b2 [aL 11 1,aL 12 0,aL 13 5,gO 14 6 12 13,m9 15 6 14,fr 16 (.val (aO 11) [(aO 15)])] (iA 16 (b2 [aL 17 5,aL 4 17] .ret) .skip)))) (oi T.a 18 8))))))) (b2 [dn 4 (bQ (-1))] .ret)))⟩:=bd
theorem E.aq:bc F.aq ⟨8,[.tmp 2], (b2 [dn 2 (.const hA)] (.seq (b2 [aL 3 0,cl 4 (.bin .eql T.oy (aO 3) (.const hA))] (iA 4 (b2 [dn 2 (.const hA)] .ret) .skip)) (b2 [c6 5 (.hj T.j 0 2 [] []),aL 6 0,c6 7 (.app T.oy T.j 2 16 (aO 5) (aO 6)),aL 2 7] .ret)))⟩:=bd
theorem E.fk:bc F.fk ⟨9,[.tmp 4], (b2 [dn 4 (h3 false)] (b2 [aL 5 0,aL 6 1,qc 7 F.FQ [5,6],mh .geq T.a 8 7 0,aL 4 8] .ret))⟩:=bd
def E.FQ:bc F.FQ ⟨19,[.tmp 4], (b2 [dn 4 (bQ 0)] (.seq (b2 [aL 6 0,gg 7 6,dn 8 (bQ 0)] (.b0 0 (.loop (b2 [gX .lss T.a 9 8 7] (oj 9 0
 (.seq (.b0 1 (b2 [aL 10 8,aL 5 10] (b2 [aL 11 1,aL 12 0,aL 13 5,gO 14 1 12 13,dD 15 14,fr 16 (.val (aO 11) [(aO 15)])] (iA 16 (b2 [aL 17 5,aL 4 17] .ret) .skip)))) (oi T.a 18 8))))))) (b2 [dn 4 (bQ (-1))] .ret)))⟩:=bd
end Go.Proofs.R
namespace a8
open Go Go.RowKit
def aa9(t a:F_):mi:=⟨26,[.tmp 4],
 (.seq (.cN [dn 4 (h3 false)])
 (.seq (.seq (.cN [aL 6 0,gg 7 6,aL 8 1,gg 9 8,cl 10 (.bin .neq a (aO 7) (aO 9))])
 (.cond (aO 10) (.seq (.cN [dn 4 (h3 false)])
 .ret)
 .skip))
 (.seq (.seq (.cN [aL 11 0,gg 12 11,dn 13 (bQ 0)])
 (.b0 0 (.loop (.seq (.cN [cl 14 (.bin .lss a (aO 13) (aO 12))])
 (.seq (.cond (aO 14) .skip
 (.exit 0))
 (.seq (.b0 1 (.seq (.cN [aL 15 13,aL 5 15])
 (.seq (.si [aL 16 0,aL 17 5,gO 18 1 16 17,dD 19 18,aL 20 1,aL 21 5,gO 22 1 20 21,dD 23 22,cl 24 (.bin .neq t (aO 19) (aO 23))])
 (.cond (aO 24) (.seq (.cN [dn 4 (h3 false)])
 .ret)
 .skip))))
 (.cN [cl 25 (.bin .add a (aO 13) (bQ 1)),aL 13 25])))))))
 (.seq (.cN [dn 4 (h3 true)])
 .ret))))⟩
def ah3{α:Type}{l m:C_ α}{k:Nat}(a:k<l.length)(b:k<m.length):l.take (k+1)=m.take (k+1)↔l.take k=m.take k/\l[k]=m[k]:=by
 rw[NZ a,NZ b];constructor
 .intro c
  have:=List.append_inj c (by simp;omega)
  exact⟨this.1,by simpa using this.2⟩
 .rintro⟨d,e⟩;rw[d,e]
section
variable{α:Type}{P:Program}{f:FuncId}{t m5:TypeId}{sz:Nat}{enc:α->List Value}
def amC{R R':A_->Addr->Int->Prop}[nM R (λd=>[Value.int .i64 d])][nM R' (λd=>[Value.int .i64 d])](u:P.follows .mixedOrders=true)(v:k7 P f=some (aa9 t m5))
  (j k:B_)(a b:C_ Int)(w:A_)(l:a4 1 R w j a)(m:a4 1 R' w k b) :
  a3 P f #[j,k] w λx e=>(∃n:Bool,x = .bool n/\(n=true↔a=b))/\Ext w e:=by
 obtain⟨z,bg,rfl,A⟩:=l.form;obtain⟨B,bj,rfl,C⟩:=m.form;refine _R u v (args:=[_,_]) (Nat.le_of_ble_eq_true rfl) ?_;dsimp only[aa9,aO,bQ,h3,cl,na,c6,fr,hH,cK,aL,dn,fp,dD,gO,ys,gg];refine ad ?_;refine I_ (λp=>?_) (λp=>?_);rotate_left
 .refine ad ?_;exact⟨⟨false,rfl,by simp;intro g;subst g;exact p rfl⟩,Ext.refl _⟩
 have G:a.length=b.length:=AW
 refine ad ?_;refine K_ 13 a.length [0,1,12] (λ_=>[]) () (λc _ e=>Ext w e/\a.take c=b.take c) aV aV ⟨Ext.refl _,Ah⟩ ?_;rintro c _ H I J ⟨h,i⟩;refine ad ?_;apply I_<;>intro K
 .have q:c<a.length:=AW
  have y:c<b.length:=AW
  obtain⟨L,rfl⟩:=l.addr;obtain⟨M,rfl⟩:=m.addr;refine ad ?_;intro N r;refine ad ?_;apply I_<;>intro s
  .refine ad ?_;exact⟨q,aZ,(),trivial,h.trans r,(ah3 q y).2 ⟨i,s⟩⟩
  .refine ad ?_;refine⟨⟨false,rfl,?_⟩,h.trans r⟩;simp;intro g;subst g;exact s rfl
 .refine ad ?_;refine⟨⟨true,rfl,by simp;rw[Im AW,Im AW] at i;exact i⟩,h⟩
def QD(a t:F_)(sz b:Nat):mi:=⟨8,[.tmp 2],
 (.seq (.cN [dn 2 (.const (.slice none 0 0))])
 (.seq (.seq (.cN [aL 3 0,cl 4 (.bin .eql a (aO 3) (.const (.slice none 0 0)))])
 (.cond (aO 4) (.seq (.cN [dn 2 (.const (.slice none 0 0))])
 .ret)
 .skip))
 (.seq (.cN [c6 5 (.hj t 0 sz [] []),aL 6 0,c6 7 (.app a t sz b (aO 5) (aO 6)),aL 2 7])
 .ret)))⟩
def aak{R:A_->Addr->α->Prop}{C:A_->C_ B_->α->Prop}[Rel R C sz]{m:F_}{b:Nat}(B:P.follows .mixedOrders=true)(G:k7 P f=some (QD m t sz b))(H:P.underlying m=some (.slice t))
  (v:B_)(xs:C_ α)(w:A_)(h:a4 sz R w v xs)(I:xs.length*b<=140737488355328) :
  a3 P f #[v] w λn d=>(∃a:C_ (hp sz),a.length=xs.length/\ng t sz w.heap.size d n a/\∀c (p:c<a.length) (i:c<xs.length),C d a[c].1 xs[c])/\Ext w d:=by
 obtain⟨j,bg,rfl,q⟩:=h.form;refine _R B G (args:=[_]) (Nat.le_of_ble_eq_true rfl) ?_;dsimp only[QD,aO,bQ,h3,cl,na,c6,fr,hH,cK,aL,dn,fp,dD,gO,ys,gg];refine ad ?_;refine AA2 H ?_;refine ad ?_;refine N_ (λr=>?_) (λr=>?_)
 .refine ad ?_
  have:xs=[]:=by
   obtain⟨J,K,s,i,V,L,W⟩:=h.ex;injection s with M X Y
   subst M;by_cases u:xs=[]
   .exact u
   .have:=L u
    cases j<;>simp_all
  subst this;exact⟨⟨[],rfl,aR.nil _ _ _ _ _,λc h=>by cases h⟩,Ext.refl _⟩
 obtain⟨e,rfl⟩:∃e,j=some e:=by cases j with | none=>cases r | some e=>exact⟨e,rfl⟩
 obtain⟨a,g,x,N⟩:=h.cells;refine ad ?_;intro O q y k Q;refine ad ?_;have S:ng t sz w.heap.size O (.slice (some ⟨q,0,none⟩) 0 0) []:=aR.empty y Q;refine _J (ys:=a) S hs (a4.flat hs (λ_ _ h=>h) (a4.ext Flat.ext k x)) (by rw[g]) rp (by rw[AJ2,ZB,g];exact I) (by have:=x.len;have s:=h.len;rw[AJ2,g];omega) (by exact k.size) λn d z U _=>?_;obtain⟨J,K,rfl,_⟩:=z.form;have A:Ext w d:=k.grown U λZ l=>by injection l with l;subst l;exact y
 refine ad ?_;exact⟨⟨a,g,by simpa using z,λc p i=>Rel.ext (R:=R) A (N c p i)⟩,A⟩
def ei.clone{R:A_->Addr->α->Prop}{C:A_->C_ B_->α->Prop}[Rel R C sz]{w w':A_}{v:B_}{xs:C_ α}{b:C_ (hp sz)}(g:b.length=xs.length)(c:ng t sz w.heap.size w' v b)
  (h:∀{w w':A_} {cs d},C w cs d->C w' cs d)(i:∀a (e:a<b.length) (f:a<xs.length),C w' b[a].1 xs[a]):ei w (λw=>a4 sz R w v xs) w':=λn j=>by
 have k:=aR.mod c j λl m p=>by have:=(c.lt l m).1;omega
 exact a4.B4 g (k.iw hs) λa e f=>h (i a e f)
def JH{R:A_->Addr->α->Prop}{C:A_->C_ B_->α->Prop}[Rel R C sz]{g:F_}{b:Nat}(k:P.follows .mixedOrders=true)(l:k7 P f=some (QD g t sz b))(m:P.underlying g=some (.slice t))
  (n:∀{w a:A_} {cs i},C w cs i->C a cs i)(v:B_)(xs:C_ α)(w:A_)(h:a4 sz R w v xs)(p:xs.length*b<=140737488355328) :
  a3 P f #[v] w λc a=>(∃d e,c = .slice d xs.length e)/\ei w (λw=>a4 sz R w c xs) a/\Ext w a :=
 (aak k l m v xs w h p).mono λc a ⟨⟨x,q,r,s⟩,he⟩=>by
  have j:=ei.clone (R:=R) q r n s;obtain⟨d,e,u,_⟩:=j.here.form;exact⟨⟨d,e,u⟩,j,he⟩
def TK(m5:F_)(sz:Nat):mi:=⟨19,[.tmp 4],
 (.seq (.cN [dn 4 (bQ 0)])
 (.seq (.seq (.cN [aL 6 0,gg 7 6,dn 8 (bQ 0)])
 (.b0 0 (.loop (.seq (.cN [cl 9 (.bin .lss m5 (aO 8) (aO 7))])
 (.seq (.cond (aO 9) .skip
 (.exit 0))
 (.seq (.b0 1 (.seq (.cN [aL 10 8,aL 5 10])
 (.seq (.cN [aL 11 1,aL 12 0,aL 13 5,gO 14 sz 12 13,na 15 (.lk sz (aO 14)),fr 16 (.val (aO 11) [(aO 15)])])
 (.cond (aO 16) (.seq (.cN [aL 17 5,aL 4 17])
 .ret)
 .skip))))
 (.cN [cl 18 (.bin .add m5 (aO 8) (bQ 1)),aL 8 18])))))))
 (.seq (.cN [dn 4 (bQ (-1))])
 .ret)))⟩
def g9(p:α->Bool):C_ α->Nat->Int
 | [],_ => -1
 | b :: c,a=>if p b then a else g9 p c (a+1)
def Dj{p:α->Bool}{l:C_ α}{k:Nat}(h:k<l.length):g9 p (l.drop k) k=if p l[k] then (k:Int) else g9 p (l.drop (k+1)) (k+1):=by
 rw[AF9 h];rfl
theorem Ki{p:α->Bool}:∀{b:C_ α} {c:Nat},(0<=g9 p b c↔b.any p=true)
 | [],_=>by simp[g9]
 | d :: e,c=>by
  simp only[g9,List.any_cons];by_cases a:p d=true
  .rw[if_pos a];simp[a]
  .rw[if_neg a,Ki];simp[a]
def ar8{R:A_->Addr->α->Prop}{C:A_->C_ B_->α->Prop}[Rel R C sz](n:P.follows .mixedOrders=true)(q:k7 P f=some (TK m5 sz))
  (v:B_)(xs:C_ α)(w:A_)(h:a4 sz R w v xs)(g:E_)(r:okF P g=true)(first cap:C_ B_)(p:α->Bool)
  (s:∀(j:Nat) (A:j<xs.length) (d:C_ B_) (a:A_),Ext w a->C a d xs[j]->a3 P g (first++[Value.agg d.toArray]++cap).toArray a λv t=>v = .bool (p xs[j])/\Ext a t) :
  a3 P f #[v,.func (.func g) first.toArray cap.toArray] w λu a=>u = .I (g9 p xs 0)/\Ext w a:=by
 obtain⟨B,bg,rfl,G⟩:=h.form;refine _R n q (args:=[_,_]) (Nat.le_of_ble_eq_true rfl) ?_;dsimp only[TK,aO,bQ,h3,cl,na,c6,fr,hH,cK,aL,dn,fp,dD,gO,ys,gg];refine ad ?_;refine K_ 8 xs.length [0,1,7] (λ_=>[]) () (λb _ a=>Ext w a/\g9 p xs 0=g9 p (xs.drop b) b) aV aV ⟨Ext.refl _,Ah⟩ ?_;rintro b _ H x I ⟨c,e⟩;refine ad ?_;apply I_<;>intro J
 .have i:b<xs.length:=AW
  obtain⟨K,rfl⟩:=h.addr;obtain⟨d,y,l⟩:=Rel.out (h.at b i);have z:=Rel.len (R:=R) l;rw[Dj i] at e;refine ad ?_;refine Y_ (y.ext c) z ?_;refine ad ?_;refine W_ r (s b i d x c (Rel.ext (R:=R) c l)) ?_;rintro _ L ⟨rfl,m⟩;refine ad ?_;refine N_ (λk=>?_) (λk=>?_)
  .refine ad ?_;exact⟨by rw[e,if_pos k],c.trans m⟩
  .refine ad ?_;exact⟨i,aZ,(),trivial,c.trans m,by rw[e,if_neg (by simp[k])]⟩
 .refine ad ?_;exact⟨by rw[e,VB AW];rfl,c⟩
def aaw(m5:F_)(g:E_):mi:=⟨9,[.tmp 4],
 (.seq (.cN [dn 4 (h3 false)])
 (.seq (.cN [aL 5 0,aL 6 1,fr 7 (.fn g [(aO 5),(aO 6)]),cl 8 (.bin .geq m5 (aO 7) (bQ 0)),aL 4 8])
 .ret))⟩
def aax{R:A_->Addr->α->Prop}{C:A_->C_ B_->α->Prop}[Rel R C sz]{c:E_}{i:F_}(d:P.follows .mixedOrders=true)(j:k7 P c=some (aaw i f))(k:k7 P f=some (TK m5 sz))
  (v:B_)(xs:C_ α)(w:A_)(h:a4 sz R w v xs)(g:E_)(l:okF P g=true)(first cap:C_ B_)(p:α->Bool)
  (m:∀(b:Nat) (s:b<xs.length) (e:C_ B_) (a:A_),Ext w a->C a e xs[b]->a3 P g (first++[Value.agg e.toArray]++cap).toArray a λv n=>v = .bool (p xs[b])/\Ext a n) :
  a3 P c #[v,.func (.func g) first.toArray cap.toArray] w λq a=>q = .bool (xs.any p)/\Ext w a:=by
 refine _R d j (args:=[_,_]) (Nat.le_of_ble_eq_true rfl) ?_;dsimp only[aaw,aO,bQ,h3,cl,na,c6,fr,hH,cK,aL,dn,fp,dD,gO,ys,gg];refine ad ?_;refine J_ (ar8 d k v xs w h g l first cap p m) ?_;rintro _ t ⟨rfl,r⟩;refine ad ?_;refine⟨?_,r⟩;congr 1;rw[AH4,decide_eq_true_eq];exact Ki
def aer(t m5:F_):mi:=⟨19,[.tmp 4],
 (.seq (.cN [dn 4 (bQ 0)])
 (.seq (.seq (.cN [aL 6 0,gg 7 6,dn 8 (bQ 0)])
 (.b0 0 (.loop (.seq (.cN [cl 9 (.bin .lss m5 (aO 8) (aO 7))])
 (.seq (.cond (aO 9) .skip
 (.exit 0))
 (.seq (.b0 1 (.seq (.cN [aL 10 8,aL 5 10])
 (.seq (.cN [aL 11 1,aL 12 0,aL 13 5,gO 14 1 12 13,dD 15 14,cl 16 (.bin .eql t (aO 11) (aO 15))])
 (.cond (aO 16) (.seq (.cN [aL 17 5,aL 4 17])
 .ret)
 .skip))))
 (.cN [cl 18 (.bin .add m5 (aO 8) (bQ 1)),aL 8 18])))))))
 (.seq (.cN [dn 4 (bQ (-1))])
 .ret)))⟩
def ar7{R:A_->Addr->Int->Prop}[nM R (λn=>[Value.int .i64 n])](j:P.follows .mixedOrders=true)(k:k7 P f=some (aer t m5))(v:B_)(xs:C_ Int)(n:Int)(w:A_)(h:a4 1 R w v xs) :
  a3 P f #[v,.I n] w λl d=>l = .I (g9 (λa=>decide (n=a)) xs 0)/\Ext w d:=by
 obtain⟨m,bg,rfl,p⟩:=h.form;refine _R j k (args:=[_,_]) (Nat.le_of_ble_eq_true rfl) ?_;dsimp only[aer,aO,bQ,h3,cl,na,c6,fr,hH,cK,aL,dn,fp,dD,gO,ys,gg];refine ad ?_;refine K_ 8 xs.length [0,1,7] (λ_=>[]) () (λb _ d=>Ext w d/\g9 (λa=>decide (n=a)) xs 0=g9 (λa=>decide (n=a)) (xs.drop b) b) aV aV ⟨Ext.refl _,Ah⟩ ?_;rintro b _ q r s ⟨e,c⟩;refine ad ?_;apply I_<;>intro u
 .have g:b<xs.length:=AW
  obtain⟨x,rfl⟩:=h.addr;rw[Dj g] at c;refine ad ?_;apply I_<;>intro i
  .refine ad ?_;exact⟨by rw[c,if_pos (by simp[i])],e⟩
  .refine ad ?_;exact⟨g,aZ,(),trivial,e,by rw[c,if_neg (by simp[i])]⟩
 .refine ad ?_;exact⟨by rw[c,VB AW];rfl,e⟩
end
end a8
namespace a8
open Go Go.RowKit
structure AA(w:World)(a:Addr)(n:Int):Prop where
 cells:fx w a [Value.int .i64 n]
 ok:o.eA n
theorem AA.ext(w w':A_)(a:Addr)(n:Int)(b:Ext w w')(h:AA w a n):AA w' a n:=⟨h.cells.ext b,h.ok⟩
instance aBe:nM AA (λn=>[Value.int .i64 n]):=⟨λ_ _ _ h=>h.cells⟩
abbrev q7(w:A_)(v:B_)(l:C_ Int):Prop:=a4 1 AA w v l
theorem q7.ext{w w':A_}{v:B_}{l:C_ Int}(a:Ext w w')(h:q7 w v l):q7 w' v l:=a4.ext AA.ext a h
def q7.ok{w:A_}{v:B_}{l:C_ Int}(h:q7 w v l):∀a∈l,o.eA a:=by
 intro a b;obtain⟨c,d,rfl⟩:=List.mem_iff_getElem.1 b;obtain⟨e,f,rfl,_⟩:=h.form;obtain⟨g,rfl⟩:=h.addr;exact(h.at c d).ok
def CO(w:A_)(a:Addr)(l:C_ Int):Prop := ∃b,w.cell? a=some b/\q7 w b l
theorem CO.ext(w w':A_)(a:Addr)(l:C_ Int)(b:Ext w w')(h:CO w a l):CO w' a l:=let ⟨c,d,e⟩:=h; ⟨c,b.cell d,e.ext b⟩
abbrev wU(w:A_)(v:B_)(l:C_ (C_ Int)):Prop:=a4 1 CO w v l
theorem wU.ext{w w':A_}{v:B_}{l:C_ (C_ Int)}(a:Ext w w')(h:wU w v l):wU w' v l:=a4.ext CO.ext a h
end a8
namespace o
open Go Go.RowKit a8
structure q4(w:World)(cs:List Value)(v:Env):Prop where
 ex:∃v0 v1 v2 eB,cs=[v0,v1,v2,eB,.int .i64 v.self]/\wU w v0 v.vars/\q7 w v1 v.lens/\q7 w v2 v.locals/\wU w eB v.at_/\eA v.self
theorem q4.ext{w w':A_}{cs:C_ B_}{v:Env}(a:Ext w w')(h:q4 w cs v):q4 w' cs v :=
 let ⟨v0,v1,v2,b,c,d,e,f,g,i⟩:=h.ex
 ⟨v0,v1,v2,b,c,d.ext a,e.ext a,f.ext a,g.ext a,i⟩
def q4.form{w:A_}{cs:C_ B_}{v:Env}(h:q4 w cs v):∃a b c bg d bj e f,cs=[.slice a v.vars.length b,.slice c v.lens.length bg,.slice d v.locals.length bj,.slice e v.at_.length f,.I v.self] /\
  wU w (.slice a v.vars.length b) v.vars/\q7 w (.slice c v.lens.length bg) v.lens/\q7 w (.slice d v.locals.length bj) v.locals/\wU w (.slice e v.at_.length f) v.at_/\eA v.self /\
  v.vars.length<=9223372036854775807/\v.lens.length<=9223372036854775807/\v.locals.length<=9223372036854775807/\v.at_.length<=9223372036854775807:=by
 obtain⟨r,s,t,u,rfl,g,i,j,k,l⟩:=h.ex;obtain⟨a,b,rfl,m⟩:=g.form;obtain⟨c,bg,rfl,n⟩:=i.form;obtain⟨d,bj,rfl,p⟩:=j.form;obtain⟨e,f,rfl,q⟩:=k.form;exact⟨a,b,c,bg,d,bj,e,f,rfl,g,i,j,k,l,m,n,p,q⟩
end o
namespace a8
open Go Go.RowKit
theorem a4.one{α:Type}{sz:Nat}{R:A_->Addr->α->Prop}{w:A_}{v:B_}{xs:C_ α}(h:a4 sz R w v xs):v.oneCell'=true:=by
 obtain⟨a,b,rfl,_⟩:=h.form;rfl
def ai6(_:A_)(cs:C_ B_)(n:Int):Prop:=cs=[Value.int .i64 n]/\o.eA n
instance aBp:Rel AA ai6 1 where
 out h:=⟨_,h.cells,rfl,h.ok⟩
 kC h k:=by obtain⟨rfl,k⟩:=k;exact⟨h,k⟩
 len h:=by rw[h.1];rfl
 one h:=by rw[h.1];simp[Value.oneCell']
 ext _ h:=h
def ajj(w:A_)(cs:C_ B_)(l:C_ Int):Prop := ∃a,cs=[a]/\q7 w a l
instance aBx:Rel CO ajj 1 where
 out h:=by
  obtain⟨v,I,U⟩:=h;exact⟨[v],λj u au=>by cases j with | zero=>simp at au;subst au;rw[add_zero];exact I | succ j=>simp at au,v,rfl,U⟩
 kC h k:=by
  obtain⟨v,rfl,k⟩:=k
  have:=h 0 v rfl
  rw[add_zero] at this;exact⟨v,this,k⟩
 len h:=by obtain⟨v,rfl,_⟩:=h;rfl
 one h:=by obtain⟨v,rfl,h⟩:=h;simpa using h.one
 ext e h:=let ⟨v,I,U⟩:=h; ⟨v,I,U.ext e⟩
end a8
namespace o
open Go Go.RowKit a8
def ajl(_:A_)(cs:C_ B_)(x:Scalar):Prop:=cs=x.enc/\kq x.name
def ajm(_:A_)(cs:C_ B_)(x:Var):Prop:=cs=x.enc/\kq x.name
def ai0(_:A_)(cs:C_ B_)(x:ed):Prop:=cs=x.enc/\kq x.name
def aja(_:A_)(cs:C_ B_)(x:Node):Prop:=cs=x.enc/\x.ok
instance aBy:Rel jM ajl 2 where
 out h:=⟨_,h.cells,rfl,h.ok⟩
 kC h k:=by obtain⟨rfl,k⟩:=k;exact⟨h,k⟩
 len h:=by rw[h.1];rfl
 one h:=by rw[h.1];simp[Scalar.enc,Value.oneCell']
 ext _ h:=h
instance aBz:Rel ra ajm 6 where
 out h:=⟨_,h.cells,rfl,h.ok⟩
 kC h k:=by obtain⟨rfl,k⟩:=k;exact⟨h,k⟩
 len h:=by rw[h.1];rfl
 one h:=by rw[h.1];simp[Var.enc,Value.oneCell']
 ext _ h:=h
instance aBm:Rel r5 ai0 6 where
 out h:=⟨_,h.cells,rfl,h.ok⟩
 kC h k:=by obtain⟨rfl,k⟩:=k;exact⟨h,k⟩
 len h:=by rw[h.1];rfl
 one h:=by rw[h.1];simp[ed.enc,Value.oneCell']
 ext _ h:=h
instance aBs:Rel AB aja 2 where
 out h:=⟨_,h.cells,rfl,h.ok⟩
 kC h k:=by obtain⟨rfl,k⟩:=k;exact⟨h,k⟩
 len h:=by rw[h.1];rfl
 one h:=by rw[h.1];simp[Node.enc,Value.oneCell']
 ext _ h:=h
def E1(w:A_)(cs:C_ B_)(x:Act):Prop := ∃a b,cs=x.enc a b/\fH w a x.index/\fH w b x.value
theorem E1.ext{w w':A_}{cs:C_ B_}{c:Act}(a:Ext w w')(h:E1 w cs c):E1 w' cs c:=let ⟨b,d,e,f,g⟩:=h; ⟨b,d,e,f.ext a,g.ext a⟩
instance aBk:Rel Ay E1 5 where
 out h:=let ⟨b5,b8,I,U,ae⟩:=h; ⟨_,I,b5,b8,rfl,U,ae⟩
 kC h k:=by obtain⟨b5,b8,rfl,U,ae⟩:=k;exact⟨b5,b8,h,U,ae⟩
 len h:=by obtain⟨b5,b8,rfl,U,ae⟩:=h;rfl
 one h:=by obtain⟨b5,b8,rfl,U,ae⟩:=h;simp[Act.enc,U.one,ae.one];simp[Value.oneCell']
 ext e h:=h.ext e
instance aBn:Rel Az CC 6 where
 out h:=let ⟨ah,b5,b8,I,U,ae⟩:=h; ⟨_,I,ah,b5,b8,rfl,U,ae⟩
 kC h k:=by obtain⟨ah,b5,b8,rfl,U,ae⟩:=k;exact⟨ah,b5,b8,h,U,ae⟩
 len h:=by obtain⟨ah,b5,b8,rfl,U,ae⟩:=h;rfl
 one h:=by obtain⟨ah,b5,b8,rfl,U,ae⟩:=h;simp[et.enc,U.one,ae.one];simp[Value.oneCell']
 ext e h:=h.ext e
instance aBv:Rel AD yN 5 where
 out h:=let ⟨ah,b5,b8,I,U,ae⟩:=h; ⟨_,I,ah,b5,b8,rfl,U,ae⟩
 kC h k:=by obtain⟨ah,b5,b8,rfl,U,ae⟩:=k;exact⟨ah,b5,b8,h,U,ae⟩
 len h:=by obtain⟨ah,b5,b8,rfl,U,ae⟩:=h;rfl
 one h:=by obtain⟨ah,b5,b8,rfl,U,ae⟩:=h;simp[ee.enc,U.one,ae.one];simp[Value.oneCell']
 ext e h:=h.ext e
def Jb(w:A_)(cs:C_ B_)(x:nh):Prop:=kq x.name/\∃a,cs=x.enc a/\fH w a x.expr
theorem Jb.ext{w w':A_}{cs:C_ B_}{c:nh}(a:Ext w w')(h:Jb w cs c):Jb w' cs c:=let ⟨b,d,e,f⟩:=h; ⟨b,d,e,f.ext a⟩
instance aBw:Rel CN Jb 2 where
 out h:=let ⟨ah,b5,I,U⟩:=h; ⟨_,I,ah,b5,rfl,U⟩
 kC h k:=by obtain⟨ah,b5,rfl,U⟩:=k;exact⟨ah,b5,h,U⟩
 len h:=by obtain⟨ah,b5,rfl,U⟩:=h;rfl
 one h:=by obtain⟨ah,b5,rfl,U⟩:=h;simp[nh.enc,U.one];simp[Value.oneCell']
 ext e h:=h.ext e
def ahB:C_ kv:=[.i,.i]
end o
namespace a8
def a1{A B:Prop}(k:B)(h:yH B->A:=by
 intro a;simp -dsimp only[c8,cA,Nat.reduceAdd,Nat.reduceEqDiff,reduceIte,reduceCtorEq,dq];exact a.out):A:=h ⟨k⟩
end a8
namespace Go.Proofs.R
open Go Go.RowKit a8 o
abbrev ajh:A_->Addr->Int->Prop:=Flat λa=>[Value.int .i64 a]
abbrev nO(w:A_)(v:B_)(l:C_ Int):Prop:=a4 1 ajh w v l
theorem nO.ext{w w':A_}{v:B_}{l:C_ Int}(a:Ext w w')(h:nO w v l):nO w' v l:=a4.ext Flat.ext a h
def nO.b0{w:A_}{b n:Nat}{e:F_}{f:Nat×Nat}{xs:C_ Int}(a:w.heap[b]? = some (.cells (xs.flatMap λn=>[Value.int .i64 n]).toArray e f))(c:n=xs.length)(d:xs.length<=maxLen):nO w (.slice (some ⟨b,0,none⟩) n n) xs :=
 a4.b0 (enc:=λn=>[Value.int .i64 n]) (λ_=>rfl) a c d λ_ _ _ g=>g
abbrev _root_.EG:=a3 Tryz.prog
theorem aiD(v:B_)(l:C_ Int)(w:A_)(j:nO w v l):EG F.KJ #[v] w λv b=>v = .bool (l.all o.within)/\b=w:=by
 obtain⟨t,u,rfl,x⟩:=j.form;refine bm E.KJ ?_;refine a1 ?_;refine _k 7 l.length (λa p b=>b=w/\(l.take a).all o.within=true) (by simp -dsimp only[c8,cA,Nat.reduceAdd,Nat.reduceEqDiff,reduceIte,reduceCtorEq,dq]) ⟨rfl,Ah⟩ ?_;rintro a p b c y d ⟨rfl,f⟩;have g:=c 0 rfl;have e:=c 5 rfl;have h:=c 6 rfl;simp only[bS,Nat.reduceAdd,Nat.reduceEqDiff,reduceIte,kK,oE] at g e h;clear c;refine cg (i_ g (i_ e (i_ h d))) ?_;refine I_ (λq=>?_) (λq=>?_);rotate_left
 .refine cg (i_ g (i_ e (i_ h d))) ?_;rw[Im AW] at f;rw[f];exact cf
 have k:a<l.length:=AW
 obtain⟨z,rfl⟩:=j.addr;have m:l.take (a+1)=l.take a++[l[a]]:=NZ k;have i:l.all o.within=((l.take (a+1)).all o.within&&(l.drop (a+1)).all o.within):=by rw[<-AJ7,AH7]
 rw[m,AJ7] at i
 (repeat' first
 | assumption
 | exact Ext.refl _
 | refine Ext.trans ?_ CW
 | refine Q_ AW ?_
 | refine _H CW ?_ rfl ?_
 | refine _C CW ?_ rfl ?_
 | refine _L CW ?_ AW rfl ?_
 | refine _S CW ?_ AW rfl ?_
 | refine _T CW ?_ AW rfl ?_
 | refine _U AW ?_
 | refine _M (by first | assumption | omega) ?_
 | refine _N (by first | assumption | omega) ?_
 | refine _F CW ?_
 | refine _G CW ?_
 | simp -dsimp only[c8,cA,Nat.reduceAdd,Nat.reduceEqDiff,reduceIte,reduceCtorEq,dq,e,d])
 generalize l[a]=n at *;refine I_ (λr=>?_) (λr=>?_)
 .refine a1 ?_;rw[i];refine⟨?_,trivial⟩
  have:o.within n=false:=by simp[o.within];omega
  simp[this]
 refine a1 ?_;refine I_ (λs=>?_) (λs=>?_)
 .refine a1 ?_;rw[i];refine⟨?_,trivial⟩
  have:o.within n=false:=by simp[o.within];omega
  simp[this]
 refine cg d ?_;refine Q_ AW ?_;refine a1 ?_;refine⟨k,trivial,trivial,?_⟩;rw[m];simp[f,o.within];omega
def I1(f:E_)(g:Int->Int->Int):Prop := ∀a b c,(o.within a&&o.within b)=true->a3 Tryz.prog f #[.int .i64 a,.int .i64 b] c λd e=>d = .int .i64 (g a b)/\e=c
def ajA:I1 F.FJ (· + ·):=by
 intro b c d a;simp[o.within] at a;refine bm E.FJ ?_;refine aN ?_;exact cf
def axX:I1 F.bi (· - ·):=by
 intro b c d a;simp[o.within] at a;refine bm E.bi ?_;refine aN ?_;exact cf
def aft{a b:Int}(c : -1048576<=a/\a<=1048576)(d : -1048576<=b/\b<=1048576) : -1099511627776<=a*b/\a*b<=1099511627776:=by
 have e:(a*b).natAbs<=1048576*1048576:=by
  rw[Int.natAbs_mul];exact AI0 AW AW
 omega
def atN:I1 F.FK (· * ·):=by
 intro b c d a;simp[o.within] at a;have e:=aft a.1 a.2;refine bm E.FK ?_;refine aN ?_;exact cf
def VR(f:E_)(g:Int->Int->Int)(i:okF Tryz.prog f=true)(j:I1 f g)(a b:Int)(w:A_) :
  EG F.KG #[.agg #[.func (.func f) #[] #[]],.I a,.I b] w λk l=>k = .tuple #[.I (o.tell g a b).1,.bool (o.tell g a b).2]/\Ext w l:=by
 refine bm E.KG ?_;refine a1 ?_;refine O_ λr s t u v=>?_;refine a1 ?_;refine _E (cs:=[a,b].flatMap λc=>[Value.int .i64 c]) (by simp[List.range,List.range.loop,gu,lay,dy,bS,kK,Value.cells]) λm x y z n=>?_;refine a1 ?_;refine J_ (aiD _ [a,b] m (nO.b0 n rfl (by simp[maxLen]))) ?_;rintro _ _ ⟨rfl,rfl⟩;refine a1 ?_;refine N_ (λd=>?_) (λd=>?_);rotate_left
 .refine a1 ?_
  have:(o.within a&&o.within b)=false:=by simpa using d
  refine⟨?_,fU⟩;simp[o.tell,this]
 have h:(o.within a&&o.within b)=true:=by simpa using d
 refine aN ?_;refine W_ (first:=[]) (cap:=[]) i (j a b _ h) ?_;rintro _ _ ⟨rfl,rfl⟩;refine a1 ?_;refine _E (cs:=[g a b].flatMap λc=>[Value.int .i64 c]) (by simp[List.range,List.range.loop,gu,lay,dy,bS,kK,Value.cells]) λp A B C q=>?_;refine a1 ?_;refine J_ (aiD _ [g a b] p (nO.b0 q rfl (by simp[maxLen]))) ?_;rintro _ _ ⟨rfl,rfl⟩;refine a1 ?_;refine N_ (λe=>?_) (λe=>?_)
 .refine a1 ?_
  have:o.within (g a b)=true:=by simpa using e
  refine⟨?_,fU⟩;simp[o.tell,h,this]
 .refine a1 ?_
  have:o.within (g a b)=false:=by simpa using e
  refine⟨?_,fU⟩;simp[o.tell,this]
def vj(f:E_)(g:Int->Int->Int×Bool):Prop := ∀a b c,a3 Tryz.prog f #[.int .i64 a,.int .i64 b] c λd e=>d = .tuple #[.int .i64 (g a b).1,.bool (g a b).2]/\Ext c e
def P4:vj F.rf (o.tell (· + ·)):=by
 intro a b c;refine bm E.rf ?_;refine a1 ?_;refine V_ (cs:=[.func (.func F.FJ) #[] #[]]) (by simp[gu,lay,xe,Value.cells]) ?_;refine a1 ?_;refine J_ (VR _ _ Cg ajA a b c) ?_;rintro _ d ⟨rfl,e⟩;refine a1 ?_;exact cf
def ah0:vj F.s7 (o.tell (· - ·)):=by
 intro a b c;refine bm E.s7 ?_;refine a1 ?_;refine V_ (cs:=[.func (.func F.bi) #[] #[]]) (by simp[gu,lay,xe,Value.cells]) ?_;refine a1 ?_;refine J_ (VR _ _ Cg axX a b c) ?_;rintro _ d ⟨rfl,e⟩;refine a1 ?_;exact cf
def atQ:vj F.tY (o.tell (· * ·)):=by
 intro a b c;refine bm E.tY ?_;refine a1 ?_;refine V_ (cs:=[.func (.func F.FK) #[] #[]]) (by simp[gu,lay,xe,Value.cells]) ?_;refine a1 ?_;refine J_ (VR _ _ Cg atN a b c) ?_;rintro _ d ⟨rfl,e⟩;refine a1 ?_;exact cf
def ZQ(b:Bool)(w:A_):EG F.go #[.bool b] w λc d=>c = .I (o.bit b)/\d=w:=by
 refine bm E.go ?_;refine a1 ?_;refine N_ (λa=>?_) (λa=>?_)
 all_goals
  subst a;refine a1 ?_;exact cf
def auJ:vj F.sa λa _=>(o.bit (decide (a=0)),true):=by
 intro a c b;refine bm E.sa ?_;refine a1 ?_;refine J_ (ZQ _ b) ?_;rintro _ _ ⟨rfl,rfl⟩;refine a1 ?_;exact cf
def auK:vj F.ac λa _=>o.tell (· - ·) 0 a:=by
 intro a c b;refine bm E.ac ?_;refine a1 ?_;refine J_ (ah0 0 a b) ?_;rintro _ d ⟨rfl,e⟩;refine a1 ?_;exact cf
def wO(f:E_)(p:Int->Int->Bool):Prop := ∀a b c,a3 Tryz.prog f #[.int .i64 a,.int .i64 b] c λd e=>d = .bool (p a b)/\e=c
def auL:wO F.s8 λa b=>decide (a=b):=by
 intro a b c;refine bm E.s8 ?_;refine a1 ?_;exact cf
def auM:wO F.oy λa b => !decide (a=b):=by
 intro a b c;refine bm E.oy ?_;refine a1 ?_;exact cf
def auN:wO F.pE λa b=>decide (a<b):=by
 intro a b c;refine bm E.pE ?_;refine a1 ?_;exact cf
def auO:wO F.j9 λa b=>decide (a<=b):=by
 intro a b c;refine bm E.j9 ?_;refine a1 ?_;exact cf
def auP:wO F.qp λa b => !decide (a=0) && !decide (b=0):=by
 intro a b d;refine bm E.qp ?_;refine a1 ?_;refine I_ (λc=>?_) (λc=>?_)
 all_goals
  refine a1 ?_;exact⟨by simp[c],trivial⟩
def auQ:wO F.ua λa b => !decide (a=0) || !decide (b=0):=by
 intro a b d;refine bm E.ua ?_;refine a1 ?_;refine I_ (λc=>?_) (λc=>?_)
 all_goals
  refine a1 ?_;exact⟨by simp[c],trivial⟩
def yC(w:A_)(v:B_)(g:Int->Int->Int×Bool):Prop :=
 (∃a,v = .func (.func a) #[] #[]/\okF Tryz.prog a=true/\vj a g) \/
 (∃b a c,v = .func (.func F.g) #[] #[.pointer (some ⟨b,0,none⟩)]/\w.heap[b]? = some (.cells #[.func (.func a) #[] #[]] T.rf)/\okF Tryz.prog a=true/\wO a c/\g=λd e=>(o.bit (c d e),true))
def axk(c f:Nat)(p:Int->Int->Bool)(a b:Int)(w:A_)(i:w.heap[c]? = some (.cells #[.func (.func f) #[] #[]] T.rf))(d:okF Tryz.prog f=true)(e:wO f p) :
  EG F.g #[.I a,.I b,.pointer (some ⟨c,0,none⟩)] w λg h=>g = .tuple #[.I (o.bit (p a b)),.bool true]/\Ext w h:=by
 refine bm E.g ?_;refine aN ?_;refine W_ (first:=[]) (cap:=[]) d (e a b w) ?_;rintro _ _ ⟨rfl,rfl⟩;refine a1 ?_;refine J_ (ZQ _ _) ?_;rintro _ _ ⟨rfl,rfl⟩;refine a1 ?_;exact cf
def AC2{v:B_}{g:Int->Int->Int×Bool}{a b:Int}{w:A_}{i:B_->A_->Prop}{t}(h:yC w v g)(j:∀c,Ext w c->i (.tuple #[.I (g a b).1,.bool (g a b).2]) c):yA Tryz.prog v [.I a,.I b] w i t:=by
 rcases h with ⟨k,rfl,d,h⟩ | ⟨l,k,m,rfl,n,d,h,rfl⟩
 .exact _u (first:=[]) (cap:=[]) d (h a b w) λv c ⟨e,f⟩=>by subst e;exact j c f
 .exact _u (first:=[]) (cap:=[_]) Cg (axk l k m a b w n d h) λv c ⟨e,f⟩=>by subst e;exact j c f
def Fj(w:A_)(a:pA)(v:B_):Prop := ∃b,v = .agg #[.int .i64 a.parts,.int .i64 a.iZ,.int .i64 a.makes,b]/\yC w b a.xa
def r3(w:A_)(m:B_):Prop := ∃d e f b,m = .map (some d)/\w.heap[d]? = some (.map e f)/\mN (Value.int .i64) e.toList b /\
 ∀c:Int,match gS c with
  | some g => ∃a,b.find? (λa=>decide (c=a.1))=some a/\Fj w g a.2
  | none=>b.find? (λa=>decide (c=a.1))=none
def EF(b:Int)(f:Nat)(w:A_):EG F.c #[.I b,.func (.func f) #[] #[]] w
  λi c=>(∃a,i = .agg #[.I 2,.I b,.I 1,.func (.func F.g) #[] #[.pointer (some ⟨a,0,none⟩)]]/\c.heap[a]? = some (.cells #[.func (.func f) #[] #[]] T.rf))/\Ext w c:=by
 refine bm E.c ?_;refine a1 ?_;refine O_ λn a p d e=>?_;refine a1 ?_;refine O_ λq j r g k=>?_;refine a1 ?_;refine V_ (cs:=[.I 2,.I b,.I 1,.func (.func F.g) #[] #[.pointer (some ⟨a,0,none⟩)]]) (by simp[gu,lay,dy,o8,bS,kK,Value.cells]) ?_;refine a1 ?_;refine X_ k rfl rfl (by simp[Value.oneCell']) λs h l=>?_;have t:=ca e;have m:a≠j:=AW
 refine a1 ?_;refine Y_ (gP l) rfl ?_;refine a1 ?_;exact⟨⟨a,rfl,(h.block a m).trans (g.obj e)⟩,h.ext (d.trans g) (by have:=d.size;omega)⟩
def auR(w:A_):EG F.gc #[] w λa0 W=>r3 W a0/\Ext w W:=by
 refine bm E.gc ?_;refine a1 ?_;refine _w λbB h c a2 X=>?_;refine a1 ?_;refine V_ (cs:=[.I 1,.I 1,.I 1,.func (.func F.sa) #[] #[]]) (by simp[gu,lay,dy,o8,xe,bS,kK,Value.cells]) ?_;refine a1 ?_;refine _I X rfl λbC Y Z=>?_;refine a1 ?_;refine V_ (cs:=[.I 1,.I 0,.I 0,.func (.func F.ac) #[] #[]]) (by simp[gu,lay,dy,o8,xe,bS,kK,Value.cells]) ?_;refine a1 ?_;refine _I Z rfl λbE ab ae=>?_;refine a1 ?_;refine V_ (cs:=[.I 2,.I 0,.I 0,.func (.func F.rf) #[] #[]]) (by simp[gu,lay,dy,o8,xe,bS,kK,Value.cells]) ?_;refine a1 ?_;refine _I ae rfl λbF af ag=>?_;refine a1 ?_;refine V_ (cs:=[.I 2,.I 0,.I 0,.func (.func F.s7) #[] #[]]) (by simp[gu,lay,dy,o8,xe,bS,kK,Value.cells]) ?_;refine a1 ?_;refine _I ag rfl λbG ah ai=>?_;refine a1 ?_;refine V_ (cs:=[.I 2,.I 0,.I 0,.func (.func F.tY) #[] #[]]) (by simp[gu,lay,dy,o8,xe,bS,kK,Value.cells]) ?_;refine a1 ?_;refine _I ai rfl λa5 aj ak=>?_;have a6:Ext w a5:=aj.ext (ah.ext (af.ext (ab.ext (Y.ext a2 c) c) c) c) c;clear Y ab af ah aj X Z ae ag ai;refine a1 ?_;refine J_ (EF (-1) F.s8 _) ?_;rintro _ bH ⟨⟨a7,rfl,al⟩,H⟩;refine a1 ?_;refine _I (H.obj ak) rfl λa9 an I=>?_;refine a1 ?_;refine J_ (EF (-1) F.oy _) ?_;rintro _ bI ⟨⟨ba,rfl,ao⟩,r⟩;refine a1 ?_;refine _I (r.obj I) rfl λaq J K=>?_;refine a1 ?_;refine J_ (EF 0 F.pE _) ?_;rintro _ bJ ⟨⟨bb,rfl,ar⟩,s⟩;refine a1 ?_;refine _I (s.obj K) rfl λau L M=>?_;refine a1 ?_;refine J_ (EF 0 F.j9 _) ?_;rintro _ bK ⟨⟨bf,rfl,av⟩,t⟩;refine a1 ?_;refine _I (t.obj M) rfl λaw N O=>?_;refine a1 ?_;refine J_ (EF 1 F.qp _) ?_;rintro _ bL ⟨⟨bk,rfl,ax⟩,u⟩;refine a1 ?_;refine _I (u.obj O) rfl λaz P Q=>?_;refine a1 ?_;refine J_ (EF 1 F.ua _) ?_;rintro _ bM ⟨⟨bn,rfl,aA⟩,v⟩;refine a1 ?_;refine _I (v.obj Q) rfl λl S bo=>?_;refine a1 ?_;have d:∀{w:A_} {a:Nat} {aB:Array MapEntry} {aC:Nat} {aD:Array B_} {aE:F_},w.heap[h]? = some (.map aB aC)->w.heap[a]? = some (.cells aD aE)->a≠h:=by
  intro w a aB aC aD aE m i bp;subst bp;rw[m] at i;injection i with i
  cases i
 have x:=(an.block a7 (d (H.obj ak) al)).trans al;have y:=(J.block ba (d (r.obj I) ao)).trans ao;have z:=(L.block bb (d (s.obj K) ar)).trans ar;have A:=(N.block bf (d (t.obj M) av)).trans av;have B:=(P.block bk (d (u.obj O) ax)).trans ax;have br:=(S.block bn (d (v.obj Q) aA)).trans aA;have bt:∀{a:Nat} {b:Obj},a≠h->a9.heap[a]? = some b->aq.heap[a]? = some b:=λf g=>(J.block _ f).trans (r.obj g);have aF:∀{a:Nat} {b:Obj},a≠h->aq.heap[a]? = some b->au.heap[a]? = some b:=λf g=>(L.block _ f).trans (s.obj g);have U:∀{a:Nat} {b:Obj},a≠h->au.heap[a]? = some b->aw.heap[a]? = some b:=λf g=>(N.block _ f).trans (t.obj g);have C:∀{a:Nat} {b:Obj},a≠h->aw.heap[a]? = some b->az.heap[a]? = some b:=λf g=>(P.block _ f).trans (u.obj g);have n:∀{a:Nat} {b:Obj},a≠h->az.heap[a]? = some b->l.heap[a]? = some b:=λf g=>(S.block _ f).trans (v.obj g);have p:=d I x;have G:=d K y;have V:=d M z;have aG:=d O A;have bu:=d Q B;replace x:=n p (C p (U p (aF p (bt p x))));replace y:=n G (C G (U G (aF G y)));replace z:=n V (C V (U V z));replace A:=n aG (C aG A);replace B:=n bu B;have bw:Ext w l:=S.ext ((P.ext ((N.ext ((L.ext ((J.ext ((an.ext (a6.trans H) c).trans r) c).trans s) c).trans t) c).trans u) c).trans v) c;refine⟨⟨h,_,_,[(9,_),(10,_),(11,_),(12,_),(13,_),(14,_),(15,_),(16,_),(17,_),(18,_),(19,_)],rfl,bo,rfl,λe=>?_⟩,bw⟩;have q:∀{j:Nat} {aH:Int->Int->Int×Bool},okF Tryz.prog j=true->vj j aH->yC l (.func (.func j) #[] #[]) aH:=λm i=>.inl ⟨_,rfl,m,i⟩;have k:∀{a j:Nat} {aI:Int->Int->Bool},l.heap[a]? = some (.cells #[.func (.func j) #[] #[]] T.rf)->okF Tryz.prog j=true->wO j aI->yC l (.func (.func F.g) #[] #[.pointer (some ⟨a,0,none⟩)]) λbx bz=>(o.bit (aI bx bz),true) :=
  λm i bA=>.inr ⟨_,_,_,rfl,m,i,bA,rfl⟩
 unfold gS;by_cases aJ:e=9
 .subst aJ;exact⟨_,rfl,_,rfl,q Cg auJ⟩
 by_cases aK:e=10
 .subst aK;exact⟨_,rfl,_,rfl,q Cg auK⟩
 by_cases aM:e=11
 .subst aM;exact⟨_,rfl,_,rfl,q Cg P4⟩
 by_cases aP:e=12
 .subst aP;exact⟨_,rfl,_,rfl,q Cg ah0⟩
 by_cases aQ:e=13
 .subst aQ;exact⟨_,rfl,_,rfl,q Cg atQ⟩
 by_cases aS:e=14
 .subst aS;exact⟨_,rfl,_,rfl,k x Cg auL⟩
 by_cases aT:e=15
 .subst aT;exact⟨_,rfl,_,rfl,k y Cg auM⟩
 by_cases aU:e=16
 .subst aU;exact⟨_,rfl,_,rfl,k z Cg auN⟩
 by_cases aW:e=17
 .subst aW;exact⟨_,rfl,_,rfl,k A Cg auO⟩
 by_cases aX:e=18
 .subst aX;exact⟨_,rfl,_,rfl,k B Cg auP⟩
 by_cases aY:e=19
 .subst aY;exact⟨_,rfl,_,rfl,k br Cg auQ⟩
 simp[aJ,aK,aM,aP,aQ,aS,aT,aU,aW,aX,aY]
theorem r3.look{w:A_}{m:B_}(h:r3 w m)(x:Int):∃c d,tS w m c/\Instr.findNow (.int .i64) (.I x) c.toList 0=some d /\
  match gS x with
  | some e => ∃i f,d=some (i,f)/\Fj w e f
  | none=>d=none:=by
 obtain⟨d,c,j,k,rfl,l,n,p⟩:=h;obtain⟨a,q,b⟩:=F8 (axj .i64 .i64) x c.toList k 0 n;refine⟨c,a,.inr ⟨d,j,rfl,l⟩,q,?_⟩
 have:=p x
 cases g:gS x with
 | none =>
  simp only[g] at this ⊢;rw[this] at b;cases a with
  | none=>rfl
  | some a=>simp at b
 | some e =>
  simp only[g] at this ⊢;obtain⟨t,r,s⟩:=this;rw[r] at b;cases a with
  | none=>simp at b
  | some a=>simp at b;exact⟨a.1,a.2,rfl,b ▸ s⟩
theorem r3.mod{A:Nat->Prop}{w w':A_}{m:B_}(h:r3 w m)(f:Mod A w w')(g:∀i b,w.heap[i]? = some b->(∃c a,b = .map c a)\/(∃q,b = .cells q T.rf)->¬A i):r3 w' m:=by
 obtain⟨j,c,a,r,rfl,k,s,t⟩:=h;refine⟨j,c,a,r,rfl,f.obj (g j _ k (.inl ⟨_,_,rfl⟩)) k,s,λl=>?_⟩
 have:=t l
 cases n:gS l with
 | none=>simpa only[n] using this
 | some b =>
  simp only[n] at this ⊢;obtain⟨d,u,v,x,e⟩:=this;refine⟨d,u,v,x,?_⟩;rcases e with e | ⟨a,y,d,z,p,B⟩
  .exact .inl e
  .exact .inr ⟨a,y,d,z,f.obj (g a _ p (.inr ⟨_,rfl⟩)) p,B⟩
theorem r3.ext{w w':A_}{m:B_}(h:r3 w m)(a:Ext w w'):r3 w' m:=h.mod (A:=λ_=>False) a.mod λ_ _ _ _ h=>h
def au9(x:Int)(m:B_)(w:A_)(h:r3 w m):EG F.KF #[.I x,m] w λf c=>f = .I (ej x)/\Ext w c:=by
 refine bm E.KF ?_;obtain⟨A,B,k,l,d⟩:=h.look x;simp -dsimp only[cA];simp -dsimp only[c8,Nat.reduceAdd,Nat.reduceEqDiff,reduceIte,reduceCtorEq,dq];refine _x (λg c=>g 0 = .I x/\g 1=m/\c=w/\x≠3/\¬(1<=x/\x<=8)) ?_ ?_
 .refine a1 ?_;refine I_ (λb=>?_) (λb=>?_)
  .refine a1 ?_;exact⟨by simp[ej,b],Ext.refl _⟩
  refine a1 ?_;refine I_ (λi=>?_) (λi=>?_)
  .refine a1 ?_;refine I_ (λj=>?_) (λj=>?_)
   .refine a1 ?_;exact⟨by simp[ej,b,i,j],Ext.refl _⟩
   .refine a1 ?_;refine⟨trivial,trivial,trivial,b,AW⟩
  .refine a1 ?_;refine⟨trivial,trivial,trivial,b,AW⟩
 .rintro C c G ⟨n,s1,rfl,H,I⟩;refine cg (i_ n s1) ?_;refine _t k l ?_;cases a:gS x with
  | none =>
   simp only[a] at d;subst d;simp only[po,Option.map_none,Option.getD_none,Option.isSome_none,if_true];have p:ej x = -1:=by
    unfold gS at a;unfold ej
    repeat' split
    all_goals first | rfl | (exfalso;omega) | skip
    all_goals
     exfalso
     (repeat' split at a)
     all_goals first | (cases a;done) | omega
   refine a1 ?_;refine _O (vs:=[.I 0,.I 0,.I 0,.nilFunc]) (λ_=>by simp -dsimp only[c8,cA,Nat.reduceAdd,Nat.reduceEqDiff,reduceIte,reduceCtorEq,dq]) rfl rfl (by simp[Value.oneCell']) λq r s t u=>?_;refine a1 ?_;rw[p];exact cf
  | some e =>
   simp only[a] at d;obtain⟨J,f,rfl,v,rfl,y⟩:=d;simp only[po,Option.map_some,Option.getD_some,Option.isSome_some,if_true];refine a1 ?_;refine _O (vs:=[.I e.parts,.I e.iZ,.I e.makes,v]) (λ_=>by simp -dsimp only[c8,cA,Nat.reduceAdd,Nat.reduceEqDiff,reduceIte,reduceCtorEq,dq]) rfl rfl (by rcases y with ⟨z,rfl,_⟩ | ⟨K,z,L,rfl,_⟩<;>simp[Value.oneCell']) λq r s t u=>?_;refine aN ?_;rw[(B5 a).1];exact cf
end Go.Proofs.R
namespace o
open Go Go.RowKit a8
structure gn(w:World)(cs:List Value)(s:Scope):Prop where
 sQ:s.vars.length<=1152921504606846976/\s.ay.length<=1152921504606846976/\s.procs.length<=1152921504606846976/\s.locals.length<=1152921504606846976/\eA s.self
 ex:∃v0 v1 v2 eB v4,cs=[v0,v1,v2,eB,v4,.int .i64 s.self]/\hC w v0 s.scalars/\jO w v1 s.vars/\ot w v2 s.ay/\r4 w eB s.procs/\jO w v4 s.locals/\s.scalars.length<=4611686018427387904
theorem gn.ext{w w':A_}{cs:C_ B_}{s:Scope}(a:Ext w w')(h:gn w cs s):gn w' cs s :=
 let ⟨v0,v1,v2,b,v4,c,d,e,f,g,i,j⟩:=h.ex
 ⟨h.sQ,v0,v1,v2,b,v4,c,d.ext a,e.ext a,f.ext a,g.ext a,i.ext a,j⟩
def gn.form{w:A_}{cs:C_ B_}{s:Scope}(h:gn w cs s):∃a b c bg d bj e f g i,cs=[.slice a s.scalars.length b,.slice c s.vars.length bg,.slice d s.ay.length bj,.slice e s.procs.length f,.slice g s.locals.length i,.I s.self] /\
  hC w (.slice a s.scalars.length b) s.scalars/\jO w (.slice c s.vars.length bg) s.vars/\ot w (.slice d s.ay.length bj) s.ay/\r4 w (.slice e s.procs.length f) s.procs/\jO w (.slice g s.locals.length i) s.locals /\
  s.scalars.length<=4611686018427387904/\s.vars.length<=9223372036854775807/\s.ay.length<=9223372036854775807/\s.procs.length<=9223372036854775807/\s.locals.length<=9223372036854775807:=by
 obtain⟨v,x,y,z,A,rfl,j,k,l,m,n,p⟩:=h.ex;obtain⟨a,b,rfl,_⟩:=j.form;obtain⟨c,bg,rfl,q⟩:=k.form;obtain⟨d,bj,rfl,r⟩:=l.form;obtain⟨e,f,rfl,t⟩:=m.form;obtain⟨g,i,rfl,u⟩:=n.form;exact⟨a,b,c,bg,d,bj,e,f,g,i,rfl,j,k,l,m,n,p,q,r,t,u⟩
end o
namespace Go.Proofs.R
open Go Go.RowKit a8 o
def Vu(n:Int)(cs:C_ B_)(s:o.Scope)(w:A_)(h:gn w cs s) :
  EG F.KH #[.I n,.agg cs.toArray] w λa b=>a = .tuple #[.I (h9 n s).1,.bool (h9 n s).2]/\Ext w b:=by
 obtain⟨c,d,e,bg,f,bj,g,i,j,k,rfl,l,m,p,q,r,t,u,v,x,y⟩:=h.form;refine bm E.KH ?_;refine a1 ?_;refine O_ λz A B C G=>?_
 (repeat' (refine aN ?_;first | (refine I_ (λ_=>?_) (λ_=>?_)<;>try (exfalso;omega)) | refine N_ (λ_=>?_) (λ_=>?_)))<;>try refine aN ?_
 all_goals
  refine⟨?_,fU⟩;unfold h9
  (repeat' split)<;>first | rfl | (exfalso;omega)
def ayy(v:B_)(l:C_ o.Var)(n:Int)(cs:C_ B_)(s:o.Scope)(w:A_)(c:jO w v l)(h:gn w cs s) :
  EG F.hO #[v,.I n,.agg cs.toArray] w λv a=>v = .tuple #[.I (fQ l n s).1,.I (fQ l n s).2.1,.bool (fQ l n s).2.2]/\Ext w a:=by
 obtain⟨k,m,p,bg,q,bj,r,t,u,x,rfl,_⟩:=h.form;obtain⟨y,z,rfl,A⟩:=c.form;refine bm E.hO ?_;refine a1 ?_;refine O_ λB C G d e=>?_;refine a1 ?_;apply I_<;>intro i
 .refine a1 ?_;rw[fQ,hz (.inl i)];exact cf
 refine a1 ?_;apply I_<;>intro H
 .refine a1 ?_;rw[fQ,hz (.inr AW)];exact cf
 refine a1 ?_;obtain⟨j,rfl⟩:=T7 (show 0<=n by omega);have I:j<l.length:=AW
 rw[fQ,ir AW AW];simp only[Int.toNat_natCast];obtain⟨J,rfl⟩:=c.addr;refine aN ?_;refine R_ (c:=[_,_,_,_,_,_]) e (Ext.refl _) rfl ?_;refine a1 ?_;refine P_ _ (λa b=>Vu _ _ s a (h.ext (d.trans b))) ?_;refine a1 ?_;intro K f;refine aN ?_;refine R_ (c:=[_,_,_,_,_,_]) e f rfl ?_;refine a1 ?_;refine P_ _ (λa b=>Vu _ _ s a (h.ext ((d.trans f).trans b))) ?_;refine a1 ?_;intro L M;refine aN ?_;refine N_ (λg=>?_) (λg=>?_)
 all_goals
  refine a1 ?_;refine⟨?_,fU⟩;simp[g]
def asG(x:o.Node)(cs:C_ B_)(s:o.Scope)(w:A_)(v:x.ok)(h:gn w cs s) :
  EG F.ge #[.agg x.enc.toArray,.agg cs.toArray] w λy g=>y = .tuple #[.I (kU x s).1,.I (kU x s).2]/\Ext w g:=by
 obtain⟨N,O,P,bg,Q,bj,S,U,V,W,rfl,X,Y,z,n,Z,ab,ae,af,ag,ah⟩:=h.form;refine bm E.ge ?_;refine a1 ?_;refine O_ λai A aj p q=>?_;refine a1 ?_;refine O_ λB ak al i C=>?_;have an:B.heap[A]? = some (.cells #[.I x.op,.I x.n] T.j):=i.obj q;clear q;refine aN ?_;apply I_<;>intro b
 ·(repeat' (refine aN ?_;first | (refine I_ (λ_=>?_) (λ_=>?_)<;>try (exfalso;omega)) | refine N_ (λ_=>?_) (λ_=>?_)))<;>try refine aN ?_
  all_goals
   refine⟨?_,fU⟩;rw[kU,if_pos b];split<;>first | rfl | (exfalso;omega)
 refine aN ?_;apply I_<;>intro e
 .have j:kU x s=kT x.n s:=by rw[kU,if_neg b,if_pos e]
  rw[j,kT];refine aN ?_;apply I_<;>intro f;rotate_left
  .refine aN ?_;rw[hz (.inl AW)];exact cf
  refine aN ?_;apply I_<;>intro G;rotate_left
  .refine aN ?_;rw[hz (.inr AW)];exact cf
  refine aN ?_;rw[ir AW AW];obtain⟨r,rfl⟩:=z.addr;have c:x.n.toNat<s.ay.length:=AW
  refine M_ x.n.toNat AW c ?_;refine aN ?_;refine R_ (c:=[_,_,_,_,_,_]) C (Ext.refl _) rfl ?_;refine a1 ?_;refine P_ _ (λg H=>Vu _ _ s g (h.ext ((p.trans i).trans H))) ?_;refine a1 ?_;intro k l;refine N_ (λd=>?_) (λd=>?_)
  all_goals
   refine a1 ?_;refine⟨?_,fU⟩;simp[d]
 refine aN ?_;apply I_<;>intro m
 .have j:kU x s=zW x.n s:=by rw[kU,if_neg b,if_neg e,if_pos m]
  rw[j,zW];refine aN ?_;apply I_<;>intro f;rotate_left
  .refine aN ?_;intro k l;refine aN ?_;rw[if_neg f];exact cf
  rw[if_pos f];obtain⟨a,c⟩:=T7 f;obtain⟨_,I⟩:=v.n;rw[c] at I;have t:x.n.tdiv 16=((a / 16:Nat):Int):=by rw[c];rfl
  have J:x.n.tmod 16=((a % 16:Nat):Int):=by rw[c];rfl
  refine aN ?_;refine _P AW ?_;rw[t];refine aN ?_;apply I_<;>intro G;rotate_left
  .refine aN ?_;intro k l;refine aN ?_;rw[hz (.inr AW)];exact cf
  have K:a / 16<s.procs.length:=AW
  rw[ir AW AW];simp only[Int.toNat_natCast];refine aN ?_;refine _o AW ?_;refine aN ?_;refine _P AW ?_;rw[t];obtain⟨r,rfl⟩:=n.addr;obtain⟨_,ao,dI,L,_⟩:=n.at (a / 16) K;have M:w.cell? ((r.add (a / 16*5)).add 2)=some (.I s.procs[a / 16].cb):=L 2 _ rfl;refine aN ?_;refine L_ ((p.trans i).cell M) ?_;refine aN ?_;rw[J];intro k l;refine aN ?_;apply I_<;>intro d
  all_goals
   refine aN ?_;refine⟨?_,fU⟩
   first | rw[if_pos d] | rw[if_neg d]
 refine aN ?_;apply I_<;>intro u
 ·(repeat' (refine aN ?_;first | (refine I_ (λ_=>?_) (λ_=>?_)<;>try (exfalso;omega)) | refine N_ (λ_=>?_) (λ_=>?_)))<;>try refine aN ?_
  all_goals
   refine⟨?_,fU⟩;rw[kU,if_neg b,if_neg e,if_neg m,if_pos u];split<;>first | rfl | (exfalso;omega)
 refine aN ?_;refine⟨?_,fU⟩;rw[kU,if_neg b,if_neg e,if_neg m,if_neg u]
end Go.Proofs.R
namespace o
open Go a8
def eO(n b:Nat):Prop:=n*b<=140737488351232
structure Scalar.cS(x:Scalar):Prop where
 size:eA x.size
structure Var.cS(x:Var):Prop where
 scalar:eA x.scalar
 over:eA x.over
 aQ:eA x.aQ
 ab:eA x.ab
 init:eA x.init
structure ed.cS(x:ed):Prop where
 scalar:eA x.scalar
 cap:eA x.cap
 aQ:eA x.aQ
 ab:eA x.ab
structure Act.cS(x:Act):Prop where
 kind:eA x.kind
 to:eA x.to
 loc:eA x.loc
 index:eO x.index.length 16
 value:eO x.value.length 16
structure et.cS(x:et):Prop where
 from_:eA x.from_
 to:eA x.to
 guard:eO x.guard.length 16
 b6:eO x.b6.length 72
 act:∀a∈x.b6,a.cS
structure ee.cS(x:ee):Prop where
 over:eA x.over
 cb:eA x.cb
 vars:eO x.vars.length 56
 cL:eO x.cL.length 88
 var:∀a∈x.vars,a.cS
 cmd:∀a∈x.cL,a.cS
structure nh.cS(x:nh):Prop where
 expr:eO x.expr.length 16
structure Model.cS(m:Model):Prop where
 scalars:eO m.scalars.length 24
 vars:eO m.vars.length 56
 ay:eO m.ay.length 56
 procs:eO m.procs.length 80
 props:eO m.props.length 40
 scalar:∀a∈m.scalars,a.cS
 var:∀a∈m.vars,a.cS
 chan:∀a∈m.ay,a.cS
 proc:∀a∈m.procs,a.cS
 prop:∀a∈m.props,a.cS
end o