/- Parts. -/
import Derived.Test.YtlhljkikdhblbaaGreatDoorQsme
set_option linter.all false
set_option maxRecDepth 100000
set_option maxHeartbeats 4000000
namespace Go.Proofs.R
open Go ba Go.Proofs
def E.MP:bc F.MP ⟨19,[.tmp 4],zA_ [] Tryz.f108⟩:=bd
def E.NI:bc F.NI ⟨129,[.jm 5 8],zA_ [(6,.w),(7,.s (.q 0 2 (.q 3 14 (.a 2 (.a 17 (.a 18 (.f 19 (.t 20 (.f 21 .d .n)) .n) .n) .n) .n)))),(11,.s (.q 0 10 (.a 10 (.f 11 (.t 12 (.f 13 .d .n)) .n) .n))),(15,.s (.q 0 6 (.a 6 (.a 7 (.f 8 (.t 9 (.f 10 .d .n)) .n) .n) .n))),(18,.w),(19,.s (.q 0 8 (.f 8 (.t 9 (.f 10 .d .n)) .n)))] Tryz.f109⟩:=bd
def E.MU:bc F.MU ⟨107,[.tmp 4,.tmp 5],zA_ [(18,.w),(20,.w),(22,.w)] Tryz.f110⟩:=bd
def E.Kb:bc F.Kb ⟨38,[.tmp 6,.tmp 7],zA_ [] Tryz.f111⟩:=bd
def E.AZ:bc F.AZ ⟨18,[.tmp 4],zA_ [] Tryz.f112⟩:=bd
def E.dl:bc F.dl ⟨39,[.jm 2 6,.tmp 7],zA_ [(3,.s (.q 0 3 (.q 5 2 (.a 3 (.a 4 (.f 7 (.t 8 (.f 9 .d .n)) .n) .n) .n)))),(4,.s (.q 0 9 (.f 9 (.q 10 5 .d) .n)))] Tryz.f113⟩:=bd
def E.Nb:bc F.Nb ⟨55,[.tmp 2,.tmp 3],zA_ [(11,.w)] Tryz.f115⟩:=bd
def E.Nc:bc F.Nc ⟨56,[.tmp 6,.tmp 7],zA_ [(11,.w)] Tryz.f116⟩:=bd
def E.Nw:bc F.Nw ⟨18,[.tmp 4],zA_ [] Tryz.f117⟩:=bd
def E.Nu:bc F.Nu ⟨151,[.tmp 6],zA_ [] Tryz.f118⟩:=bd
def E.Na:bc F.Na ⟨96,[.tmp 4,.tmp 5],zA_ [(11,.w),(15,.w)] Tryz.f119⟩:=bd
def E.Nm:bc F.Nm ⟨148,[.tmp 4,.tmp 5,.tmp 6],zA_ [(20,.w),(26,.w),(32,.w)] Tryz.f120⟩:=bd
def E.No:bc F.No ⟨42,[.jm 6 4],zA_ [] Tryz.f121⟩:=bd
def E.Nr:bc F.Nr ⟨13,[.tmp 4],zA_ [] Tryz.f122⟩:=bd
def E.MQ:bc F.MQ ⟨41,[.tmp 2],zA_ [(1,.c (.cN [aM 5 0,ck 6 (.bin .eql T.l (aN 5) (.const yB)),aM 7 6,cO 7 false (aM 8 0),cO 7 false (ck 9 (.qK (aN 8))),cO 7 false (mc .gtr T.a 10 9 16),n9 11 7 10,aM 12 11,cO 12 false (aM 13 0),cO 12 false (ck 14 (.bin .eql T.l (aN 13) (.const (.string ⟨#[115,101,108,102]⟩)))),n9 15 12 14,aM 16 15,cO 16 false (aM 17 0),cO 16 false (ck 18 (.bin .eql T.l (aN 17) (.const (.string ⟨#[110,111,110,101]⟩)))),n9 19 16 18,aM 20 19,cO 20 false (aM 21 0),cO 20 false (ck 22 (.bin .eql T.l (aN 21) (.const (.string ⟨#[108,101,110]⟩)))),n9 23 20 22,aM 24 23,cO 24 false (aM 25 0),cO 24 false (ck 26 (.bin .eql T.l (aN 25) (.const (.string ⟨#[97,116]⟩)))),n9 27 24 26])),(4,.c (.cN [aM 33 4,mc .eql T.a 34 33 1,aM 35 34,cO 35 true (aM 36 3),cO 35 true (aM 37 0),cO 35 true (ck 38 (.qK (aN 37))),cO 35 true (gR .eql T.a 39 36 38),qb 40 35 39,aM 2 40]))] Tryz.f123⟩:=bd
def E.MV:bc F.MV ⟨107,[.tmp 4,.tmp 5],zA_ [(18,.w),(20,.w),(22,.w)] Tryz.f124⟩:=bd
def E.HP:bc F.HP ⟨37,[.tmp 4],zA_ [] Tryz.f125⟩:=bd
noncomputable def C.kZ:me:=⟨88,[],zA_ [(2,.c (.fS [aM 18 5,aM 19 4] (some 20) F.a [(aN 18),(bP 1),(aN 19),(bP 0)])),(6,.c (.cN [aM 28 1,fs 29 0 7,dD 30 29,hE (.lD .string (aN 28) (aN 30) (hV true))])),(13,.c (.fS [aM 51 5,aM 52 8] (some 53) F.a [(aN 51),(bP 2),(aN 52),(bP 0)])),(14,.c (.fS [aM 54 1,fs 55 0 9,dD 56 55,aM 57 8] (some 58) F.g [(aN 54),(aN 56),(bP 2),(aN 57)])),(21,.c (.fS [aM 79 5,aM 80 10] (some 81) F.a [(aN 79),(bP 3),(aN 80),(bP 0)])),(22,.c (.fS [aM 82 1,fs 83 0 11,dD 84 83,aM 85 10] (some 86) F.g [(aN 82),(aN 84),(bP 3),(aN 85)]))] Tryz.f127⟩
theorem E.kZ:k2 Tryz.prog F.kZ=some C.kZ:=Cl
noncomputable def C.nK:me:=⟨105,[],zA_ [(1,.c (.cN [c6 18 .z2,aM 4 18])),(2,.c (.cN [aM 19 1,c6 20 (.raw (.range T.fF (aN 19)) T.ac)])),(3,.c (.cN [c6 21 (.raw (.next (aN 20) false) T.ac),ck 22 (.ext (aN 21) 0)])),(4,.c (.cN [c6 23 (.raw (.entry (aN 20)) T.ac),ck 24 (.ext (aN 23) 0),aM 5 24])),(5,.c (.cN [aM 25 4,aM 26 5,hE (.lD .string (aN 25) (aN 26) (hV true))])),(9,.c (.cN [aM 34 4,fs 35 0 7,dD 36 35,hE (.lD .string (aN 34) (aN 36) (hV true))])),(15,.c (.fS [aM 48 8] (some 49) F.a [(bP 11),(bP 4),(aN 48),(bP 0)])),(16,.s (.q 0 3 (.a 3 (.f 4 (.q 5 7 .d) .n) .n))),(17,.c (.fS [aM 59 12,aM 60 8,aM 61 10,ck 62 (.bin .mul T.a (bP 16) (aN 61)),aM 63 11,gR .add T.a 64 62 63] (some 65) F.a [(aN 59),(bP 4),(aN 60),(aN 64)])),(18,.c (.fS [aM 66 1,fs 67 0 9,dD 68 67,aM 69 8] (some 70) F.g [(aN 66),(aN 68),(bP 4),(aN 69)])),(22,.c (.cN [aM 79 4,fs 80 0 14,dD 81 80,na 82 (.qL .string (.bool false) false (aN 79) (aN 81))])),(23,.c (.fS [aM 83 8,aM 84 13,ck 85 (.bin .add T.a (bP 16) (aN 84))] (some 86) F.a [(bP 7),(bP 4),(aN 83),(aN 85)])),(28,.c (.fS [fs 101 3 2,dD 102 101,gd 103 102] (some 104) F.a [(bP 11),(bP 4),(aN 103),(bP 0)]))] Tryz.f128⟩
theorem E.nK:k2 Tryz.prog F.nK=some C.nK:=Cl
noncomputable def C.tY:me:=⟨51,[],zA_ [(6,.c (.fS [aM 22 5] (some 23) F.a [(bP 11),(bP 5),(aN 22),(bP 0)])),(8,.c (.fS [aM 29 5] (some 30) F.a [(bP 6),(bP 5),(aN 29),(bP 0)])),(9,.c (.fS [aM 31 1,fs 32 0 6,dD 33 32,aM 34 5] (some 35) F.g [(aN 31),(aN 33),(bP 5),(aN 34)])),(11,.c (.fS [aM 43 8,aM 44 5] (some 45) F.a [(aN 43),(bP 5),(aN 44),(bP 0)])),(13,.c (.fS [aM 48 5] (some 49) F.a [(bP 9),(bP 5),(aN 48),(bP 0)]))] Tryz.f129⟩
theorem E.tY:k2 Tryz.prog F.tY=some C.tY:=Cl
def E.Kc:bc F.Kc ⟨7,[.tmp 2],zA_ [] Tryz.f130⟩:=bd
def E.Kd:bc F.Kd ⟨142,[.jm 6 2,.tmp 3],zA_ [(12,.s (.w (.q 0 5 (.a 5 (.a 6 (.f 7 (.t 8 (.f 9 .d .n)) .n) .n) .n)))),(18,.c (.cN [fs 65 1 11,dD 66 65,fs 67 3 11,dD 68 67,ck 69 (.z0 (aN 68) (bP 0)),fs 70 4 11,dD 71 70,ck 72 (.yd (aN 71) (bP 0)),ck 73 (.hW [yB,dg,dg,dg,dg,dg] [(0,1),(1,1),(2,1),(3,1),(4,1),(5,1)] [(1,(aN 66)),(3,(aN 69)),(4,(aN 72))]),fs 74 0 1,dD 75 74,fv 76 (.fn F.cS [(aN 73),(aN 75)]),c6 13 (.new T.f (.agg #[dg,dg,dg])),hE (.mF 3 (aN 13) (aN 76))])),(23,.s (.w (.q 0 5 (.a 5 (.a 6 (.f 7 (.t 8 (.f 9 .d .n)) .n) .n) .n)))),(35,.s (.w (.q 0 5 (.a 5 (.a 6 (.f 7 (.t 8 (.f 9 .d .n)) .n) .n) .n)))),(37,.s (.f 0 (.f 1 (.f 2 (.t 3 .d) .n) (.f 2 (.f 1 (.t 3 .d) .n) .n)) (.f 1 (.f 0 (.f 2 (.t 3 .d) .n) .n) .n)))] Tryz.f131⟩:=bd
def E.y1:bc F.y1 ⟨4,[.tmp 2],zA_ [] Tryz.f133⟩:=bd
theorem E.fi:bc F.fi ⟨4,[.tmp 2],zA_ [] Tryz.f134⟩:=bd
def E.M8:bc F.M8 ⟨17,[.tmp 4,.tmp 5],zA_ [(2,.w)] Tryz.f135⟩:=bd
def E.ND:bc F.ND ⟨7,[.tmp 2],zA_ [] Tryz.f136⟩:=bd
theorem E.d4:bc F.d4 ⟨106,[.tmp 6],zA_ [(2,.w),(3,.w),(4,.w)] Tryz.f140⟩:=bd
def E.NZ:bc F.NZ ⟨201,[.tmp 8,.tmp 9],zA_ [(5,.s (.q 0 6 (.q 7 11 (.a 6 (.f 18 (.q 19 4 .d) .n) .n)))),(12,.s (.q 0 10 (.f 10 (.q 11 4 .d) .n))),(17,.s (.q 0 13 (.f 13 (.q 14 4 .d) .n))),(19,.s (.q 0 13 (.f 13 (.q 14 4 .d) .n))),(21,.w),(23,.w)] Tryz.f143⟩:=bd
def E.N4:bc F.N4 ⟨16,[.tmp 6],zA_ [] Tryz.f144⟩:=bd
def E.NJ:bc F.NJ ⟨50,[.tmp 8],zA_ [] Tryz.f145⟩:=bd
def E.MW:bc F.MW ⟨26,[.tmp 2],zA_ [] Tryz.f146⟩:=bd
def E.M7:bc F.M7 ⟨100,[.tmp 4,.tmp 5],zA_ [(21,.w)] Tryz.f147⟩:=bd
def E.M1:bc F.M1 ⟨61,[.tmp 6,.tmp 7],zA_ [] Tryz.f148⟩:=bd
def E.M0:bc F.M0 ⟨80,[.tmp 6,.tmp 7],zA_ [] Tryz.f149⟩:=bd
def E.Ki:bc F.Ki ⟨18,[.tmp 4],zA_ [] Tryz.f150⟩:=bd
def E.Kj:bc F.Kj ⟨38,[.tmp 4,.tmp 5],zA_ [] Tryz.f151⟩:=bd
def E.Kk:bc F.Kk ⟨19,[.tmp 2],zA_ [] Tryz.f152⟩:=bd
def E.Kl:bc F.Kl ⟨23,[.tmp 4],zA_ [] Tryz.f153⟩:=bd
def E.Km:bc F.Km ⟨53,[.tmp 8,.tmp 9],zA_ [(2,.s (.q 0 5 (.a 5 (.q 6 10 (.q 17 2 (.a 16 (.f 19 (.q 20 2 .d) .n) .n))) .n)))] Tryz.f154⟩:=bd
def E.Nd:bc F.Nd ⟨69,[.tmp 4],zA_ [(5,.w)] Tryz.f156⟩:=bd
def E.HQ:bc F.HQ ⟨22,[.tmp 4],zA_ [] Tryz.f157⟩:=bd
def E.Nf:bc F.Nf ⟨92,[.tmp 6,.tmp 7],zA_ [(15,.w)] Tryz.f158⟩:=bd
def E.MR:bc F.MR ⟨99,[.tmp 4,.tmp 5],zA_ [(2,.c (.cN [aM 10 0,aM 11 1,ck 12 (.nX (aN 10) (aN 11)),fv 13 (.fn F.Eh [(aN 12)])])),(3,.c (.cN [aM 14 6,aM 15 0,ck 16 (.qK (aN 15)),gR .lss T.a 17 14 16,aM 18 17,cO 18 true (aM 19 0),cO 18 true (aM 20 6),cO 18 true (ck 21 (.nX (aN 19) (aN 20))),cO 18 true (fv 22 (.fn F.Eh [(aN 21)])),cO 18 true (aM 23 22),cO 23 false (aM 24 0),cO 23 false (aM 25 6),cO 23 false (ck 26 (.nX (aN 24) (aN 25))),cO 23 false (fv 27 (.fn F.BZ [(aN 26)])),cO 18 true (n9 28 23 27),cO 18 true (aM 29 28),cO 29 false (aM 30 0),cO 29 false (aM 31 6),cO 29 false (ck 32 (.nX (aN 30) (aN 31))),cO 29 false (ck 33 (.bin .eql T.C0 (aN 32) (.const (.int .u8 95)))),cO 18 true (n9 34 29 33),qb 35 18 34])),(6,.c (.cN [aM 41 0,aM 42 1,ck 43 (.nX (aN 41) (aN 42)),fv 44 (.fn F.BZ [(aN 43)])])),(7,.c (.cN [aM 45 6,aM 46 0,ck 47 (.qK (aN 46)),gR .lss T.a 48 45 47,aM 49 48,cO 49 true (aM 50 0),cO 49 true (aM 51 6),cO 49 true (ck 52 (.nX (aN 50) (aN 51))),cO 49 true (fv 53 (.fn F.BZ [(aN 52)])),qb 54 49 53])),(14,.c (.r4 [aM 67 0,ck 68 (.qK (aN 67)),aM 69 1,gR .sub T.a 70 68 69,aM 71 7,aM 72 8,gQ 73 1 71 72,dD 74 73,ck 75 (.qK (aN 74)),gR .geq T.a 76 70 75,aM 77 76,cO 77 true (aM 78 0),cO 77 true (aM 79 1),cO 77 true (aM 80 1),cO 77 true (aM 81 7),cO 77 true (aM 82 8),cO 77 true (gQ 83 1 81 82),cO 77 true (dD 84 83),cO 77 true (ck 85 (.qK (aN 84))),cO 77 true (gR .add T.a 86 80 85),cO 77 true (ck 87 (.Ck (aN 78) (some (aN 79)) (some (aN 86)))),cO 77 true (aM 88 7),cO 77 true (aM 89 8),cO 77 true (gQ 90 1 88 89),cO 77 true (dD 91 90),cO 77 true (gR .eql T.l 92 87 91),qb 93 77 92])),(15,.c (.cN [aM 94 7,aM 95 8,gQ 96 1 94 95,dD 97 96,ck 98 (.qK (aN 97)),aM 4 98,dm 5 (bP 3)]))] Tryz.f159⟩:=bd
def E.M3:bc F.M3 ⟨118,[.tmp 4,.tmp 5],zA_ [(27,.w)] Tryz.f160⟩:=bd
def E.M4:bc F.M4 ⟨51,[.tmp 6,.tmp 7],zA_ [] Tryz.f161⟩:=bd
def E.M6:bc F.M6 ⟨27,[.tmp 6,.tmp 7],zA_ [] Tryz.f162⟩:=bd
def E.Kr:bc F.Kr ⟨11,[.tmp 2,.tmp 3],zA_ [] Tryz.f163⟩:=bd
noncomputable def C.a:me:=⟨17,[],zA_ [(1,.c (.u3 [aM 10 0,aM 11 1,aM 12 2,aM 13 3,ck 14 (.hW [dg,dg,dg,dg] [(0,1),(1,1),(2,1),(3,1)] [(0,(aN 10)),(1,(aN 11)),(2,(aN 12)),(3,(aN 13))]),ck 15 (.hW [dg,dg,dg,dg] [(0,4)] [(0,(aN 14))]),ck 16 (.Em T.j4 (aN 15))] (aN 16)))] Tryz.f164⟩
theorem E.a:k2 Tryz.prog F.a=some C.a:=Cl
def E.Ks:bc F.Ks ⟨17,[.tmp 6,.tmp 7],zA_ [(1,.c (.cN [dD 8 3,gd 9 8,aM 10 2,ck 11 (.yd (aN 10) (bP 0)),ck 12 (.z1 F.v [] [(aN 3)]),ck 13 (.z1 F.w [] [(aN 3),(aN 4)]),fv 14 (.fn F.sT [(aN 9),(aN 11),(aN 12),(aN 13)]),ck 15 (.ext (aN 14) 0),ck 16 (.ext (aN 14) 1),aM 6 15,aM 7 16]))] Tryz.f165⟩:=bd
noncomputable def C.g:me:=⟨16,[],zA_ [(0,.c (.cN [aM 8 0,aM 9 1,na 10 (.qL .string (.bool false) false (aN 8) (aN 9))])),(1,.c (.fS [aM 11 2,aM 12 3] (some 13) F.a [(bP 7),(aN 11),(aN 12),(bP 0)])),(2,.c (.cN [aM 14 0,aM 15 1,hE (.lD .string (aN 14) (aN 15) (hV true))]))] Tryz.f166⟩
theorem E.g:k2 Tryz.prog F.g=some C.g:=Cl
def E.eq:bc F.eq ⟨13,[.tmp 4,.tmp 5],zA_ [] Tryz.f167⟩:=bd
def E.s5:bc F.s5 ⟨64,[.tmp 4,.tmp 5,.tmp 6],zA_ [] Tryz.f168⟩:=bd
def E.es:bc F.es ⟨33,[.jm 6 4],zA_ [(3,.s (.q 0 6 (.f 6 (.f 7 .d .n) .n)))] Tryz.f169⟩:=bd
theorem E.qs:bc F.qs ⟨79,[.tmp 2,.tmp 3,.tmp 4],zA_ [(10,.c (.cN [aM 36 7,fs 37 2 11,dD 38 37,ck 39 (.yd (aN 38) (bP 0)),ck 40 (.z0 (aN 39) (bP 4)),ck 41 (.bin .add T.a (bP 1) (aN 40)),gR .add T.a 42 36 41,aM 7 42]))] Tryz.f170⟩:=bd
def E.Kx:bc F.Kx ⟨34,[.tmp 2],zA_ [(1,.c (.cN [aM 5 0,ck 6 (.bin .eql T.l (aN 5) (.const yB)),aM 7 6,cO 7 false (aM 8 0),cO 7 false (ck 9 (.qK (aN 8))),cO 7 false (mc .gtr T.a 10 9 16),n9 11 7 10,aM 12 11,cO 12 false (aM 13 0),cO 12 false (ck 14 (.nX (aN 13) (bP 0))),cO 12 false (ck 15 (.AW .i32 (aN 14))),cO 12 false (fv 16 (.fn F.be [(aN 15)])),cO 12 false (ck 17 (.un .not (aN 16))),n9 18 12 17,aM 19 18,cO 19 false (aM 20 0),cO 19 false (fv 21 (.fn F.FI [(aN 20),(.func F.x)])),cO 19 false (aM 22 0),cO 19 false (ck 23 (.qK (aN 22))),cO 19 false (gR .lss T.a 24 21 23),n9 25 19 24])),(5,.c (.cN [ck 29 (.BT 4 (aN 26) (aN 27)),aM 4 29]))] Tryz.f171⟩:=bd
theorem E.br:bc F.br ⟨15,[.tmp 4,.tmp 5],zA_ [] Tryz.f172⟩:=bd
theorem E.r:bc F.r ⟨50,[.tmp 8],zA_ [(5,.s (.w (.q 0 4 (.q 6 4 (.a 4 (.a 5 (.t 12 (.a 10 (.f 11 (.f 13 (.t 14 (.f 15 .d .n)) .n) .n) .n)) (.a 10 (.a 5 (.t 12 (.f 11 (.f 13 (.t 14 (.f 15 .d .n)) .n) .n)) .n) .n)) (.a 10 (.a 4 (.a 5 (.t 12 (.f 11 (.f 13 (.t 14 (.f 15 .d .n)) .n) .n)) .n) .n) .n))))))] Tryz.f173⟩:=bd
theorem E.cS:bc F.cS ⟨19,[.jm 3 4],zA_ [] Tryz.f174⟩:=bd
theorem E.s:bc F.s ⟨39,[],zA_ [] Tryz.f176⟩:=bd
def E.Ky:bc F.Ky ⟨32,[.tmp 4],zA_ [] Tryz.f177⟩:=bd
theorem E.eQ:bc F.eQ ⟨4,[.tmp 2],zA_ [] Tryz.f179⟩:=bd
def E.fK:bc F.fK ⟨55,[.tmp 4],zA_ [(8,.s (.q 0 8 (.f 8 (.t 9 .d) .n)))] Tryz.f180⟩:=bd
def E.ex:bc F.ex ⟨23,[.tmp 4,.tmp 5],zA_ [(2,.w)] Tryz.f182⟩:=bd
def E.vq:bc F.vq ⟨20,[.tmp 4],zA_ [] Tryz.f183⟩:=bd
def E.NO:bc F.NO ⟨19,[.tmp 2,.tmp 3,.tmp 4],zA_ [(4,.s (.q 0 4 (.q 5 3 (.a 4 (.q 8 3 .d) .n))))] Tryz.f184⟩:=bd
def E.N2:bc F.N2 ⟨32,[.tmp 8,.tmp 9],zA_ [] Tryz.f185⟩:=bd
def E.NN:bc F.NN ⟨29,[.tmp 4,.tmp 5],zA_ [] Tryz.f186⟩:=bd
def E.MZ:bc F.MZ ⟨18,[.tmp 4,.tmp 5],zA_ [] Tryz.f187⟩:=bd
def E.MX:bc F.MX ⟨4,[.tmp 2],zA_ [] Tryz.f188⟩:=bd
def E.ML:bc F.ML ⟨14,[.tmp 4,.tmp 5],zA_ [] Tryz.f189⟩:=bd
def E.MJ:bc F.MJ ⟨14,[.tmp 4,.tmp 5],zA_ [] Tryz.f190⟩:=bd
def E.MK:bc F.MK ⟨14,[.tmp 4,.tmp 5],zA_ [] Tryz.f191⟩:=bd
def E.cz:bc F.cz ⟨20,[.tmp 4,.tmp 5],zA_ [] Tryz.f192⟩:=bd
def E.dW:bc F.dW ⟨46,[.tmp 4],zA_ [] Tryz.f193⟩:=bd
def E.fc:bc F.fc ⟨11,[.tmp 2],zA_ [] Tryz.f194⟩:=bd
def E.oo:bc F.oo ⟨12,[.tmp 5],zA_ [(1,.s (.q 0 3 (.t 4 (.a 3 (.f 5 (.t 6 .d) .n) .n))))] Tryz.f195⟩:=bd
def E.ks:bc F.ks ⟨16,[.tmp 4],zA_ [] Tryz.f196⟩:=bd
def E.ku:bc F.ku ⟨31,[.tmp 4],zA_ [] Tryz.f197⟩:=bd
theorem E.l:bc F.l ⟨34,[.jm 6 4],zA_ [(2,.s (.q 0 21 (.f 21 .d .n)))] Tryz.f198⟩:=bd
def E.zo:bc F.zo ⟨40,[.tmp 6],zA_ [(5,.s (.q 0 2 (.q 3 5 (.a 2 (.f 8 (.t 9 .d) .n) .n))))] Tryz.f199⟩:=bd
def E.Nj:bc F.Nj ⟨21,[.tmp 6],zA_ [] Tryz.f200⟩:=bd
def E.Ni:bc F.Ni ⟨96,[.tmp 6],zA_ [(19,.w)] Tryz.f201⟩:=bd
def E.Eh:bc F.Eh ⟨17,[.tmp 2],zA_ [] Tryz.f202⟩:=bd
def E.BZ:bc F.BZ ⟨9,[.tmp 2],zA_ [] Tryz.f203⟩:=bd
def E.MS:bc F.MS ⟨2,[.tmp 0],zA_ [] Tryz.f204⟩:=bd
def E.MY:bc F.MY ⟨41,[.jm 6 6,.tmp 7],zA_ [(1,.w)] Tryz.f205⟩:=bd
def E.HO:bc F.HO ⟨7,[.tmp 2],zA_ [] Tryz.f206⟩:=bd
def E.MT:bc F.MT ⟨32,[.jm 6 4,.tmp 5],zA_ [(1,.w)] Tryz.f207⟩:=bd
def E.sT:bc F.sT ⟨44,[.tmp 8,.tmp 9],zA_ [(1,.c (.cN [c6 14 .z2,aM 10 14])),(12,.c (.cN [aM 34 10,aM 35 12,na 36 (.qL .string (.bool false) false (aN 34) (aN 35)),aM 33 36])),(16,.c (.cN [aM 41 10,aM 42 12,hE (.lD .string (aN 41) (aN 42) (hV true))]))] Tryz.f208⟩:=bd
def E.sU:bc F.sU ⟨9,[.tmp 3],zA_ [] Tryz.f209⟩:=bd
def E.g4:bc F.g4 ⟨18,[.tmp 3],zA_ [] Tryz.f210⟩:=bd
def E.v:bc F.v ⟨9,[.tmp 3],zA_ [] Tryz.f211⟩:=bd
theorem E.w:bc F.w ⟨51,[.tmp 4],zA_ [] Tryz.f212⟩:=bd
def E.KA:bc F.KA ⟨18,[.tmp 4],zA_ [] Tryz.f213⟩:=bd
def E.KB:bc F.KB ⟨22,[.tmp 4],zA_ [] Tryz.f214⟩:=bd
def E.fF:bc F.fF ⟨9,[.tmp 3],zA_ [] Tryz.f215⟩:=bd
def E.vv:bc F.vv ⟨36,[.tmp 4],zA_ [] Tryz.f216⟩:=bd
def E.KI:bc F.KI ⟨36,[.tmp 4],zA_ [] Tryz.f217⟩:=bd
def E.xj:bc F.xj ⟨40,[.tmp 4,.tmp 5],zA_ [] Tryz.f218⟩:=bd
def E.KJ:bc F.KJ ⟨12,[.jm 6 4],zA_ [(1,.s (.t 0 (.t 2 (.f 1 (.t 4 (.f 3 (.f 5 (.t 6 (.f 7 .d .n)) .n) (.f 5 (.f 3 (.t 6 (.f 7 .d .n)) .n) .n))) (.f 3 (.f 1 (.t 4 (.f 5 (.t 6 (.f 7 .d .n)) .n)) .n) .n)))))] Tryz.f219⟩:=bd
def E.KK:bc F.KK ⟨60,[.tmp 6,.tmp 7],zA_ [] Tryz.f220⟩:=bd
def E.C6:bc F.C6 ⟨9,[.tmp 3],zA_ [] Tryz.f222⟩:=bd
def E.fn:bc F.fn ⟨45,[.jm 6 2],zA_ [(1,.s (.q 0 2 (.q 3 2 (.q 6 2 (.a 2 (.t 9 (.a 5 (.f 8 (.f 10 (.t 11 (.f 12 (.t 13 (.f 14 .d .n)) .n)) .n) .n) .n)) .n)))))] Tryz.f223⟩:=bd
def E.be:bc F.be ⟨17,[.tmp 2],zA_ [] Tryz.f224⟩:=bd
def E.FI:bc F.FI ⟨20,[.tmp 4],zA_ [(1,.c (.cN [aM 7 0,c6 8 (.Cg (aN 7))])),(2,.c (.cN [c6 9 (.B7 (aN 8)),ck 10 (.ext (aN 9) 0)])),(6,.c (.cN [aM 18 0,ck 19 (.qK (aN 18)),aM 4 19]))] Tryz.f225⟩:=bd
theorem E.x:bc F.x ⟨13,[.tmp 2],zA_ [] Tryz.f226⟩:=bd
def E.KL:bc F.KL ⟨52,[.tmp 8,.tmp 9],zA_ [] Tryz.f227⟩:=bd
def E.KM:bc F.KM ⟨12,[.tmp 4,.tmp 5],zA_ [] Tryz.f228⟩:=bd
def E.KO:bc F.KO ⟨74,[.tmp 6,.tmp 7],zA_ [] Tryz.f229⟩:=bd
def E.mW:bc F.mW ⟨33,[.tmp 4,.tmp 5],zA_ [] Tryz.f230⟩:=bd
def E.fV:bc F.fV ⟨7,[.tmp 2],zA_ [] Tryz.f231⟩:=bd
theorem E.y:bc F.y ⟨14,[],zA_ [] Tryz.f232⟩:=bd
def E.KR:bc F.KR ⟨15,[.tmp 2],zA_ [] Tryz.f233⟩:=bd
def E.KS:bc F.KS ⟨24,[.tmp 2],zA_ [] Tryz.f234⟩:=bd
def E.KU:bc F.KU ⟨6,[.tmp 2],zA_ [] Tryz.f238⟩:=bd
def E.NM:bc F.NM ⟨23,[.tmp 2],zA_ [] Tryz.f239⟩:=bd
def E.NP:bc F.NP ⟨31,[.tmp 4],zA_ [] Tryz.f240⟩:=bd
def E.NQ:bc F.NQ ⟨37,[.tmp 2],zA_ [] Tryz.f241⟩:=bd
def E.MM:bc F.MM ⟨22,[.tmp 6,.tmp 7],zA_ [] Tryz.f242⟩:=bd
def E.f1:bc F.f1 ⟨17,[.tmp 2,.tmp 3],zA_ [(3,.s (.q 0 2 (.t 3 (.t 5 (.a 2 (.a 4 (.a 6 (.t 7 (.f 8 (.q 9 2 .d) .n)) .n) .n) .n)))))] Tryz.f243⟩:=bd
def E.f2:bc F.f2 ⟨31,[.tmp 2],zA_ [(7,.c (.cN [aM 15 5,mc .lss T.a 16 15 0,aM 17 16,cO 17 false (aM 18 5),cO 17 false (aM 19 0),cO 17 false (gd 20 19),cO 17 false (gR .geq T.a 21 18 20),n9 22 17 21,aM 23 22,cO 23 false (aM 24 5),cO 23 false (ck 25 (.qI 8 1 (aN 3) (aN 24))),cO 23 false (dD 26 25),n9 27 23 26])),(9,.c (.cN [aM 28 5,ck 29 (.qI 8 1 (aN 3) (aN 28)),hE (.st (aN 29) (hV true))]))] Tryz.f244⟩:=bd
def E.f3:bc F.f3 ⟨37,[.tmp 4],zA_ [] Tryz.f245⟩:=bd
def E.f4:bc F.f4 ⟨20,[.tmp 2,.tmp 3],zA_ [(5,.w)] Tryz.f246⟩:=bd
def E.f5:bc F.f5 ⟨90,[.tmp 6,.tmp 7],zA_ [(1,.s (.q 0 2 (.q 3 8 (.a 2 (.a 11 (.a 12 (.t 13 .d) .n) .n) (.a 11 (.a 2 (.a 12 (.t 13 .d) .n) .n) .n))))),(4,.w),(16,.s (.q 0 8 (.f 8 .d .n)))] Tryz.f247⟩:=bd
def E.f6:bc F.f6 ⟨39,[.tmp 8],zA_ [(4,.c (.p5 (.take (aM 29 11) (.take (aM 30 12) (.take (aM 31 13) (.take (ck 32 (.kB 1 (aN 29) (some (aN 30)) (some (aN 31)) none)) (.take (aM 33 1) (.take (aM 34 12) (.take (aM 35 13) (.take (ck 36 (.kB 1 (aN 33) (some (aN 34)) (some (aN 35)) none)) (.gw (c6 37 (.raw (.call ⟨.builtin .copy,#[(aN 32),(aN 36)],#[T.b,T.b]⟩) T.a)) .done .nil)))))))))))] Tryz.f248⟩:=bd
def E.Nk:bc F.Nk ⟨39,[.tmp 4],zA_ [(9,.w)] Tryz.f249⟩:=bd
def E.Nl:bc F.Nl ⟨25,[.tmp 6,.tmp 7],zA_ [] Tryz.f250⟩:=bd
def E.M5:bc F.M5 ⟨14,[.tmp 4],zA_ [] Tryz.f251⟩:=bd
def E.FJ:bc F.FJ ⟨9,[.tmp 3],zA_ [] Tryz.f253⟩:=bd
def E.KV:bc F.KV ⟨28,[.tmp 4],zA_ [] Tryz.f254⟩:=bd
def E.KW:bc F.KW ⟨23,[.tmp 6],zA_ [] Tryz.f255⟩:=bd
def E.gc:bc F.gc ⟨11,[.tmp 2],zA_ [] Tryz.f256⟩:=bd
def E.KX:bc F.KX ⟨85,[.tmp 4],zA_ [] Tryz.f257⟩:=bd
def E.ge:bc F.ge ⟨47,[.tmp 2],zA_ [(10,.s (.q 0 2 (.q 3 2 (.a 2 (.t 6 (.f 5 (.f 7 (.t 8 (.f 9 .d .n)) .n) .n)) .n))))] Tryz.f262⟩:=bd
def E.hJ:bc F.hJ ⟨9,[.tmp 2],zA_ [] Tryz.f263⟩:=bd
def E.KY:bc F.KY ⟨14,[.tmp 0],zA_ [(1,.c (.cN [c6 1 .z2,ck 2 (.hW [dg,dg,dg,.nilFunc] [(0,1),(1,1),(2,1),(3,1)] [(0,(bP 1)),(1,(bP 1)),(2,(bP 1)),(3,(.func F.q7))]),hE (.lD (.int .i64) (aN 1) (bP 9) (aN 2)),ck 3 (.hW [dg,dg,dg,.nilFunc] [(0,1),(1,1),(2,1),(3,1)] [(0,(bP 1)),(1,(bP 0)),(2,(bP 0)),(3,(.func F.r0))]),hE (.lD (.int .i64) (aN 1) (bP 10) (aN 3)),ck 4 (.hW [dg,dg,dg,.nilFunc] [(0,1),(1,1),(2,1),(3,1)] [(0,(bP 2)),(1,(bP 0)),(2,(bP 0)),(3,(.func F.z))]),hE (.lD (.int .i64) (aN 1) (bP 11) (aN 4)),ck 5 (.hW [dg,dg,dg,.nilFunc] [(0,1),(1,1),(2,1),(3,1)] [(0,(bP 2)),(1,(bP 0)),(2,(bP 0)),(3,(.func F.ac))]),hE (.lD (.int .i64) (aN 1) (bP 12) (aN 5)),ck 6 (.hW [dg,dg,dg,.nilFunc] [(0,1),(1,1),(2,1),(3,1)] [(0,(bP 2)),(1,(bP 0)),(2,(bP 0)),(3,(.func F.sV))]),hE (.lD (.int .i64) (aN 1) (bP 13) (aN 6)),fv 7 (.fn F.d [(bP (-1)),(.func F.tU)]),hE (.lD (.int .i64) (aN 1) (bP 14) (aN 7)),fv 8 (.fn F.d [(bP (-1)),(.func F.sW)]),hE (.lD (.int .i64) (aN 1) (bP 15) (aN 8)),fv 9 (.fn F.d [(bP 0),(.func F.nJ)]),hE (.lD (.int .i64) (aN 1) (bP 16) (aN 9)),fv 10 (.fn F.d [(bP 0),(.func F.qm)]),hE (.lD (.int .i64) (aN 1) (bP 17) (aN 10)),fv 11 (.fn F.d [(bP 1),(.func F.j4)]),hE (.lD (.int .i64) (aN 1) (bP 18) (aN 11)),fv 12 (.fn F.d [(bP 1),(.func F.qn)]),hE (.lD (.int .i64) (aN 1) (bP 19) (aN 12)),aM 13 1,aM 0 13]))] Tryz.f264⟩:=bd
def E.KZ:bc F.KZ ⟨94,[.tmp 8],zA_ [(1,.w),(8,.c (.p5 (.take (aM 33 0) (.take (ck 34 (.sx (aN 33))) (.take (fs 35 1 34) (.take (dD 36 35) (.take (fs 37 0 5) (.take (dD 38 37) (.take (na 39 (.qL (.int .i64) (.agg #[dg,dg,dg,.nilFunc]) true (aN 36) (aN 38))) (.take (aM 32 39) (.take (ck 40 (.ext (aN 32) 0)) (.take (ck 41 (.ext (aN 32) 1)) (.alt (c6 12 (.new T.nK (.agg #[dg,dg,dg,.nilFunc]))) (.gw (hE (.mF 4 (aN 12) (aN 40))) (.take (aM 13 41) .done) .nil) .nil))))))))))))),(10,.w),(14,.s (.q 0 14 (.a 14 (.f 15 (.q 16 2 (.f 18 .d .n)) .n) .n)))] Tryz.f265⟩:=bd
theorem E.z:bc F.z ⟨12,[.tmp 4,.tmp 5],zA_ [] Tryz.f266⟩:=bd
def E.K0:bc F.K0 ⟨96,[.tmp 4,.tmp 5],zA_ [(7,.w),(11,.w)] Tryz.f267⟩:=bd
def E.K1:bc F.K1 ⟨45,[.tmp 6,.tmp 7,.tmp 8],zA_ [(3,.w),(4,.w)] Tryz.f268⟩:=bd
def E.Gk:bc F.Gk ⟨15,[.tmp 2],zA_ [(1,.w)] Tryz.f269⟩:=bd
def E.MN:bc F.MN ⟨9,[.tmp 2],zA_ [] Tryz.f270⟩:=bd
def E.K2:bc F.K2 ⟨18,[.tmp 4,.tmp 5],zA_ [] Tryz.f271⟩:=bd
def E.vG:bc F.vG ⟨56,[.tmp 2],zA_ [] Tryz.f272⟩:=bd
def E.go:bc F.go ⟨33,[.tmp 4,.tmp 5],zA_ [(1,.w)] Tryz.f273⟩:=bd
def E.K4:bc F.K4 ⟨12,[.tmp 3],zA_ [] Tryz.f275⟩:=bd
def E.K5:bc F.K5 ⟨10,[.tmp 4],zA_ [] Tryz.f276⟩:=bd
def E.FK:bc F.FK ⟨39,[.jm 6 6,.tmp 7,.tmp 8],zA_ [(3,.w)] Tryz.f277⟩:=bd
def E.bi:bc F.bi ⟨25,[.tmp 4,.tmp 5],zA_ [(3,.w)] Tryz.f278⟩:=bd
def E.K6:bc F.K6 ⟨32,[.tmp 6],zA_ [] Tryz.f279⟩:=bd
def E.q7:bc F.q7 ⟨9,[.tmp 4,.tmp 5],zA_ [] Tryz.f281⟩:=bd
def E.gs:bc F.gs ⟨4,[.tmp 2],zA_ [] Tryz.f282⟩:=bd
def E.r0:bc F.r0 ⟨10,[.tmp 4,.tmp 5],zA_ [] Tryz.f283⟩:=bd
def E.ac:bc F.ac ⟨12,[.tmp 4,.tmp 5],zA_ [] Tryz.f284⟩:=bd
def E.sV:bc F.sV ⟨12,[.tmp 4,.tmp 5],zA_ [] Tryz.f285⟩:=bd
def E.d:bc F.d ⟨8,[.jm 4 4],zA_ [] Tryz.f286⟩:=bd
def E.tU:bc F.tU ⟨8,[.tmp 4],zA_ [] Tryz.f287⟩:=bd
def E.sW:bc F.sW ⟨8,[.tmp 4],zA_ [] Tryz.f288⟩:=bd
def E.nJ:bc F.nJ ⟨8,[.tmp 4],zA_ [] Tryz.f289⟩:=bd
def E.qm:bc F.qm ⟨8,[.tmp 4],zA_ [] Tryz.f290⟩:=bd
def E.j4:bc F.j4 ⟨11,[.tmp 4],zA_ [] Tryz.f291⟩:=bd
def E.qn:bc F.qn ⟨11,[.tmp 4],zA_ [] Tryz.f292⟩:=bd
def E.gt:bc F.gt ⟨26,[.tmp 4],zA_ [(5,.c (.cN [aM 18 1,aM 19 0,na 20 (.qL (.int .i64) (.agg #[dg,dg,dg,.nilFunc]) true (aN 18) (aN 19)),aM 17 20,ck 21 (.ext (aN 17) 0),ck 22 (.ext (aN 17) 1),c6 5 (.new T.nK (.agg #[dg,dg,dg,.nilFunc])),hE (.mF 4 (aN 5) (aN 21)),aM 6 22]))] Tryz.f293⟩:=bd
def E.FL:bc F.FL ⟨8,[.tmp 4],zA_ [] Tryz.f294⟩:=bd
def E.K7:bc F.K7 ⟨24,[.tmp 6,.tmp 7],zA_ [] Tryz.f295⟩:=bd
def E.K8:bc F.K8 ⟨21,[.tmp 4,.tmp 5],zA_ [] Tryz.f296⟩:=bd
def E.K9:bc F.K9 ⟨15,[.tmp 4,.tmp 5],zA_ [] Tryz.f297⟩:=bd
def E.La:bc F.La ⟨208,[.jm 5 2],zA_ [(6,.s (.q 0 17 (.a 17 (.q 18 2 (.a 20 (.f 21 (.t 22 (.f 23 .d .n)) .n) .n)) .n))),(11,.s (.q 0 9 (.a 9 (.f 10 (.t 11 (.f 12 .d .n)) .n) .n))),(16,.s (.q 0 4 (.a 4 (.a 5 (.f 6 (.t 7 (.f 8 .d .n)) .n) .n) .n))),(21,.s (.q 0 27 (.f 27 .d .n))),(23,.s (.q 0 13 (.a 13 (.f 14 .d .n) .n))),(24,.w),(25,.s (.q 0 23 (.f 23 .d .n)))] Tryz.f298⟩:=bd
def E.Lb:bc F.Lb ⟨32,[.tmp 6,.tmp 7],zA_ [] Tryz.f299⟩:=bd
def E.FM:bc F.FM ⟨8,[.tmp 4],zA_ [] Tryz.f300⟩:=bd
def E.FN:bc F.FN ⟨8,[.tmp 4],zA_ [] Tryz.f301⟩:=bd
theorem E.h:bc F.h ⟨12,[.tmp 5,.tmp 6],zA_ [] Tryz.f302⟩:=bd
def E.Lc:bc F.Lc ⟨18,[.tmp 2],zA_ [] Tryz.f303⟩:=bd
def E.s6:bc F.s6 ⟨12,[.tmp 4,.tmp 5],zA_ [] Tryz.f304⟩:=bd
theorem E.aS:bc F.aS ⟨117,[.tmp 6,.tmp 7],zA_ [(13,.w),(26,.w)] Tryz.f305⟩:=bd
theorem E.a8:bc F.a8 ⟨26,[.tmp 4,.tmp 5],zA_ [(1,.w)] Tryz.f306⟩:=bd
theorem E.bB:bc F.bB ⟨18,[.tmp 4,.tmp 5],zA_ [] Tryz.f307⟩:=bd
def E.FO:bc F.FO ⟨34,[.tmp 4],zA_ [(2,.s (.q 0 17 (.f 17 (.q 18 2 .d) .n)))] Tryz.f325⟩:=bd
theorem E.bN:bc F.bN ⟨42,[.tmp 6],zA_ [] Tryz.f326⟩:=bd
def E.FP:bc F.FP ⟨80,[.tmp 4],zA_ [(3,.w),(5,.s (.q 0 18 (.f 18 (.t 19 .d) .n)))] Tryz.f327⟩:=bd
def E.FR:bc F.FR ⟨40,[.tmp 4],zA_ [(2,.s (.q 0 23 (.f 23 (.q 24 2 .d) .n)))] Tryz.f328⟩:=bd
def E.FT:bc F.FT ⟨99,[.tmp 4],zA_ [(2,.s (.q 0 13 (.a 13 (.f 14 .d .n) .n))),(3,.w),(6,.w),(8,.c (.cN [aM 89 1,ck 90 (.sx (aN 89)),fs 91 2 90,dD 92 91,aM 93 10,aM 94 11,ck 95 (.kB 1 (aN 92) (some (aN 93)) (some (aN 94)) none),aM 96 12,c6 97 (.raw (.call ⟨.builtin .copy,#[(aN 95),(aN 96)],#[T.b,T.b]⟩) T.a)]))] Tryz.f329⟩:=bd
theorem E.c1:bc F.c1 ⟨26,[.tmp 4,.tmp 5],zA_ [] Tryz.f330⟩:=bd
theorem E.fo:bc F.fo ⟨24,[.tmp 2],zA_ [] Tryz.f331⟩:=bd
def E.ix:bc F.ix ⟨17,[.tmp 4],zA_ [(3,.c (.cN [aM 12 5,ck 13 (.kB 1 (aN 12) (some (bP 1)) none none),aM 14 1,c6 15 (.raw (.call ⟨.builtin .copy,#[(aN 13),(aN 14)],#[T.b,T.b]⟩) T.a)]))] Tryz.f332⟩:=bd
def E.mX:bc F.mX ⟨24,[.tmp 2],zA_ [(4,.c (.p5 (.take (aM 11 3) (.take (aM 12 0) (.take (aM 13 0) (.take (ck 14 (.pn 1 (aN 13) (bP 0))) (.take (dD 15 14) (.take (ck 16 (.bin .add T.a (bP 1) (aN 15))) (.take (aM 17 0) (.take (ck 18 (.pn 1 (aN 17) (bP 0))) (.take (dD 19 18) (.take (ck 20 (.bin .add T.a (bP 1) (aN 19))) (.take (ck 21 (.kB 1 (aN 12) (some (bP 1)) (some (aN 16)) (some (aN 20)))) (.gw (c6 22 (.raw (.call ⟨.builtin .copy,#[(aN 11),(aN 21)],#[T.b,T.b]⟩) T.a)) .done .nil))))))))))))))] Tryz.f333⟩:=bd
theorem E.o7:bc F.o7 ⟨15,[.tmp 6],zA_ [] Tryz.f334⟩:=bd
def E.tW:bc F.tW ⟨5,[.tmp 2],zA_ [] Tryz.f336⟩:=bd
def E.FV:bc F.FV ⟨67,[.tmp 4],zA_ [(1,.w),(3,.c (.cN [aM 33 1,ck 34 (.sx (aN 33)),fs 35 2 34,dD 36 35,aM 37 5,aM 38 6,ck 39 (.kB 1 (aN 36) (some (aN 37)) (some (aN 38)) none),aM 40 7,c6 41 (.raw (.call ⟨.builtin .copy,#[(aN 39),(aN 40)],#[T.b,T.b]⟩) T.a)])),(4,.s (.q 0 23 (.f 23 (.q 24 2 .d) .n)))] Tryz.f338⟩:=bd
theorem E.ak:bc F.ak ⟨19,[.tmp 2,.tmp 3,.tmp 4],zA_ [(4,.s (.q 0 4 (.q 5 3 (.a 4 (.q 8 3 .d) .n))))] Tryz.f339⟩:=bd
theorem E.c:bc F.c ⟨26,[.tmp 4], (b2 [dm 4 (hV false)] (.seq (b2 [aM 6 0,gd 7 6,aM 8 1,gd 9 8,gR .neq T.a 10 7 9] (ir 10 (b2 [dm 4 (hV false)] .ret) .skip)) (.seq (b2 [aM 11 0,gd 12 11,dm 13 (bP 0)] (.b0 0 (.loop (b2 [gR .lss T.a 14 13 12] (n8 14 0
 (.seq (.b0 1 (b2 [aM 15 13,aM 5 15] (.seq (.r4 [aM 16 0,aM 17 5,gQ 18 1 16 17,dD 19 18,aM 20 1,aM 21 5,gQ 22 1 20 21,dD 23 22,gR .neq T.a 24 19 23]) (ir 24 (b2 [dm 4 (hV false)] .ret) .skip)))) (n7 T.a 25 13))))))) (b2 [dm 4 (hV true)] .ret))))⟩:=bd
theorem E.ag:bc F.ag ⟨8,[.tmp 2], (b2 [dm 2 (.const hy)] (.seq (b2 [aM 3 0,ck 4 (.bin .eql T.b (aN 3) (.const hy))] (ir 4 (b2 [dm 2 (.const hy)] .ret) .skip)) (b2 [c6 5 (.hk T.a 0 1 [] []),aM 6 0,c6 7 (.app T.b T.a 1 8 (aN 5) (aN 6)),aM 2 7] .ret)))⟩:=bd
theorem E.J:bc F.J ⟨19,[.tmp 4], (b2 [dm 4 (bP 0)] (.seq (b2 [aM 6 0,gd 7 6,dm 8 (bP 0)] (.b0 0 (.loop (b2 [gR .lss T.a 9 8 7] (n8 9 0
 (.seq (.b0 1 (b2 [aM 10 8,aM 5 10] (b2 [aM 11 1,aM 12 0,aM 13 5,gQ 14 1 12 13,dD 15 14,fv 16 (.val (aN 11) [(aN 15)])] (ir 16 (b2 [aM 17 5,aM 4 17] .ret) .skip)))) (n7 T.a 18 8))))))) (b2 [dm 4 (bP (-1))] .ret)))⟩:=bd
def E.ci:bc F.ci ⟨8,[.tmp 2], (b2 [dm 2 (.const hy)] (.seq (b2 [aM 3 0,ck 4 (.bin .eql T.ap (aN 3) (.const hy))] (ir 4 (b2 [dm 2 (.const hy)] .ret) .skip)) (b2 [c6 5 (.hk T.g 0 2 [] []),aM 6 0,c6 7 (.app T.ap T.g 2 16 (aN 5) (aN 6)),aM 2 7] .ret)))⟩:=bd
def E.ei:bc F.ei ⟨9,[.tmp 4], (b2 [dm 4 (hV false)] (b2 [aM 5 0,aM 6 1,qa 7 F.d2 [5,6],mc .geq T.a 8 7 0,aM 4 8] .ret))⟩:=bd
def E.J7:bc F.J7 ⟨32,[.tmp 6], (b2 [dm 6 (hV false)] (.seq (b2 [aM 10 0,gd 11 10,aM 12 1,gd 13 12,gR .neq T.a 14 11 13] (ir 14 (b2 [dm 6 (hV false)] .ret) .skip)) (.seq (b2 [aM 15 0,gd 16 15,dm 17 (bP 0)] (.b0 0 (.loop (b2 [gR .lss T.a 18 17 16] (n8 18 0
 (.seq (.b0 1 (b2 [aM 19 17,gQ 20 1 15 17,dD 21 20,aM 7 19,aM 8 21] (b2 [aM 22 1,aM 23 7,gQ 24 1 22 23,dD 25 24,aM 9 25] (b2 [aM 26 2,aM 27 8,aM 28 9,fv 29 (.val (aN 26) [(aN 27),(aN 28)]),ck 30 (.un .not (aN 29))] (ir 30 (b2 [dm 6 (hV false)] .ret) .skip))))) (n7 T.a 31 17))))))) (b2 [dm 6 (hV true)] .ret))))⟩:=bd
def E.dO:bc F.dO ⟨19,[.tmp 4], (b2 [c6 3 (.box T.i (aN 1)),dm 4 (bP 0)] (.seq (b2 [aM 6 0,gd 7 6,dm 8 (bP 0)] (.b0 0 (.loop (b2 [gR .lss T.a 9 8 7] (n8 9 0
 (.seq (.b0 1 (b2 [aM 10 8,aM 5 10] (.seq (.r4 [m9 11 2 3,aM 12 0,aM 13 5,gQ 14 2 12 13,m9 15 2 14,gR .eql T.i 16 11 15]) (ir 16 (b2 [aM 17 5,aM 4 17] .ret) .skip)))) (n7 T.a 18 8))))))) (b2 [dm 4 (bP (-1))] .ret)))⟩:=bd
def E.Ke:bc F.Ke ⟨5,[.tmp 2], (b2 [dm 2 (.const hy)] (b2 [aM 3 0,fv 4 (.fn F.aH [(.const hy),(aN 3)]),aM 2 4] .ret))⟩:=bd
theorem E.d2:bc F.d2 ⟨19,[.tmp 4], (b2 [dm 4 (bP 0)] (.seq (b2 [aM 6 0,gd 7 6,dm 8 (bP 0)] (.b0 0 (.loop (b2 [gR .lss T.a 9 8 7] (n8 9 0
 (.seq (.b0 1 (b2 [aM 10 8,aM 5 10] (b2 [aM 11 1,aM 12 0,aM 13 5,gQ 14 1 12 13,dD 15 14,fv 16 (.val (aN 11) [(aN 15)])] (ir 16 (b2 [aM 17 5,aM 4 17] .ret) .skip)))) (n7 T.a 18 8))))))) (b2 [dm 4 (bP (-1))] .ret)))⟩:=bd
theorem E.d3:bc F.d3 ⟨19,[.tmp 4], (b2 [c6 3 (.box T.c (aN 1)),dm 4 (bP 0)] (.seq (b2 [aM 6 0,gd 7 6,dm 8 (bP 0)] (.b0 0 (.loop (b2 [gR .lss T.a 9 8 7] (n8 9 0
 (.seq (.b0 1 (b2 [aM 10 8,aM 5 10] (.seq (.r4 [m9 11 2 3,aM 12 0,aM 13 5,gQ 14 2 12 13,m9 15 2 14,gR .eql T.c 16 11 15]) (ir 16 (b2 [aM 17 5,aM 4 17] .ret) .skip)))) (n7 T.a 18 8))))))) (b2 [dm 4 (bP (-1))] .ret)))⟩:=bd
theorem E.aw:bc F.aw ⟨19,[.tmp 4], (b2 [dm 4 (bP 0)] (.seq (b2 [aM 6 0,gd 7 6,dm 8 (bP 0)] (.b0 0 (.loop (b2 [gR .lss T.a 9 8 7] (n8 9 0
 (.seq (.b0 1 (b2 [aM 10 8,aM 5 10] (b2 [aM 11 1,aM 12 0,aM 13 5,gQ 14 1 12 13,dD 15 14,gR .eql T.a 16 11 15] (ir 16 (b2 [aM 17 5,aM 4 17] .ret) .skip)))) (n7 T.a 18 8))))))) (b2 [dm 4 (bP (-1))] .ret)))⟩:=bd
theorem E.d5:bc F.d5 ⟨36,[.tmp 4], (b2 [dm 4 (bP 0)] (.seq (b2 [aM 9 0,gd 10 9,dm 11 (bP 0)] (.b0 0 (.loop (b2 [gR .lss T.a 12 11 10] (n8 12 0
 (.seq (.b0 1 (b2 [aM 13 11,gQ 14 1 9 11,dD 15 14,aM 5 13,aM 6 15] (.seq (b2 [aM 16 5,aM 17 1,gd 18 17,gR .geq T.a 19 16 18] (ir 19 (b2 [dm 4 (bP 1)] .ret) .skip)) (b2 [aM 20 1,aM 21 5,gQ 22 1 20 21,dD 23 22,aM 7 23] (b2 [aM 24 6,aM 25 7,qa 26 F.vq [24,25],aM 8 26] (b2 [aM 27 8,mc .neq T.a 28 27 0] (ir 28 (b2 [aM 29 8,aM 4 29] .ret) .skip))))))) (n7 T.a 30 11))))))) (.seq (b2 [aM 31 0,gd 32 31,aM 33 1,gd 34 33,gR .lss T.a 35 32 34] (ir 35 (b2 [dm 4 (bP (-1))] .ret) .skip)) (b2 [dm 4 (bP 0)] .ret))))⟩:=bd
theorem E.hm:bc F.hm ⟨9,[.tmp 4], (b2 [dm 4 (hV false)] (b2 [aM 5 0,aM 6 1,qa 7 F.he [5,6],mc .geq T.a 8 7 0,aM 4 8] .ret))⟩:=bd
def E.KT:bc F.KT ⟨33,[.tmp 6], (b2 [dm 6 (.const hy)] (b2 [aM 8 0,aM 9 1,aM 10 2,aM 11 0,gd 12 11,ck 13 (.kB 1 (aN 8) (some (aN 9)) (some (aN 10)) (some (aN 12)))] (.seq (b2 [aM 14 1,aM 15 2,gR .eql T.a 16 14 15] (ir 16 (b2 [aM 17 0,aM 6 17] .ret) .skip)) (b2 [aM 18 0,gd 19 18,aM 7 19] (.seq (.p5 (nC (aM 20 0) (nC (aM 21 1) (nC (ck 22 (.kB 1 (aN 20) none (some (aN 21)) none)) (nC (aM 23 0) (nC (aM 24 2) (nC (ck 25 (.kB 1 (aN 23) (some (aN 24)) none none)) (.gw (c6 26 (.app T.b T.a 1 8 (aN 22) (aN 25))) (nC (aM 0 26) .done) .nil)))))))) (b2 [aM 27 0,aM 28 0,gd 29 28,aM 30 7,ck 31 (.kB 1 (aN 27) (some (aN 29)) (some (aN 30)) none),hE (.raw (.call ⟨.builtin .clear,#[(aN 31)],#[T.b]⟩) T.ac)] (b2 [aM 32 0,aM 6 32] .ret)))))))⟩:=bd
theorem E.az:bc F.az ⟨9,[.tmp 4], (b2 [dm 4 (hV false)] (b2 [aM 5 0,aM 6 1,qa 7 F.ab [5,6],mc .geq T.a 8 7 0,aM 4 8] .ret))⟩:=bd
theorem E.he:bc F.he ⟨19,[.tmp 4], (b2 [dm 4 (bP 0)] (.seq (b2 [aM 6 0,gd 7 6,dm 8 (bP 0)] (.b0 0 (.loop (b2 [gR .lss T.a 9 8 7] (n8 9 0
 (.seq (.b0 1 (b2 [aM 10 8,aM 5 10] (b2 [aM 11 1,aM 12 0,aM 13 5,gQ 14 6 12 13,m9 15 6 14,fv 16 (.val (aN 11) [(aN 15)])] (ir 16 (b2 [aM 17 5,aM 4 17] .ret) .skip)))) (n7 T.a 18 8))))))) (b2 [dm 4 (bP (-1))] .ret)))⟩:=bd
theorem E.ar:bc F.ar ⟨8,[.tmp 2], (b2 [dm 2 (.const hy)] (.seq (b2 [aM 3 0,ck 4 (.bin .eql T.sV (aN 3) (.const hy))] (ir 4 (b2 [dm 2 (.const hy)] .ret) .skip)) (b2 [c6 5 (.hk T.y 0 2 [] []),aM 6 0,c6 7 (.app T.sV T.y 2 24 (aN 5) (aN 6)),aM 2 7] .ret)))⟩:=bd
theorem E.au:bc F.au ⟨8,[.tmp 2], (b2 [dm 2 (.const hy)] (.seq (b2 [aM 3 0,ck 4 (.bin .eql T.tU (aN 3) (.const hy))] (ir 4 (b2 [dm 2 (.const hy)] .ret) .skip)) (b2 [c6 5 (.hk T.j 0 6 [] []),aM 6 0,c6 7 (.app T.tU T.j 6 56 (aN 5) (aN 6)),aM 2 7] .ret)))⟩:=bd
theorem E.cc:bc F.cc ⟨8,[.tmp 2], (b2 [dm 2 (.const hy)] (.seq (b2 [aM 3 0,ck 4 (.bin .eql T.sW (aN 3) (.const hy))] (ir 4 (b2 [dm 2 (.const hy)] .ret) .skip)) (b2 [c6 5 (.hk T.r 0 6 [] []),aM 6 0,c6 7 (.app T.sW T.r 6 56 (aN 5) (aN 6)),aM 2 7] .ret)))⟩:=bd
theorem E.ab:bc F.ab ⟨19,[.tmp 4], (b2 [dm 4 (bP 0)] (.seq (b2 [aM 6 0,gd 7 6,dm 8 (bP 0)] (.b0 0 (.loop (b2 [gR .lss T.a 9 8 7] (n8 9 0
 (.seq (.b0 1 (b2 [aM 10 8,aM 5 10] (b2 [aM 11 1,aM 12 0,aM 13 5,gQ 14 6 12 13,m9 15 6 14,fv 16 (.val (aN 11) [(aN 15)])] (ir 16 (b2 [aM 17 5,aM 4 17] .ret) .skip)))) (n7 T.a 18 8))))))) (b2 [dm 4 (bP (-1))] .ret)))⟩:=bd
theorem E.av:bc F.av ⟨8,[.tmp 2], (b2 [dm 2 (.const hy)] (.seq (b2 [aM 3 0,ck 4 (.bin .eql T.nJ (aN 3) (.const hy))] (ir 4 (b2 [dm 2 (.const hy)] .ret) .skip)) (b2 [c6 5 (.hk T.k 0 2 [] []),aM 6 0,c6 7 (.app T.nJ T.k 2 16 (aN 5) (aN 6)),aM 2 7] .ret)))⟩:=bd
theorem E.a1:bc F.a1 ⟨9,[.tmp 4], (b2 [dm 4 (hV false)] (b2 [aM 5 0,aM 6 1,qa 7 F.FU [5,6],mc .geq T.a 8 7 0,aM 4 8] .ret))⟩:=bd
def E.FU:bc F.FU ⟨19,[.tmp 4], (b2 [dm 4 (bP 0)] (.seq (b2 [aM 6 0,gd 7 6,dm 8 (bP 0)] (.b0 0 (.loop (b2 [gR .lss T.a 9 8 7] (n8 9 0
 (.seq (.b0 1 (b2 [aM 10 8,aM 5 10] (b2 [aM 11 1,aM 12 0,aM 13 5,gQ 14 1 12 13,dD 15 14,fv 16 (.val (aN 11) [(aN 15)])] (ir 16 (b2 [aM 17 5,aM 4 17] .ret) .skip)))) (n7 T.a 18 8))))))) (b2 [dm 4 (bP (-1))] .ret)))⟩:=bd
end Go.Proofs.R
namespace ba
open Go Go.RowKit
def abo(t a:F_):me:=⟨26,[.tmp 4],
 (.seq (.cN [dm 4 (hV false)])
 (.seq (.seq (.cN [aM 6 0,gd 7 6,aM 8 1,gd 9 8,ck 10 (.bin .neq a (aN 7) (aN 9))])
 (.cond (aN 10) (.seq (.cN [dm 4 (hV false)])
 .ret)
 .skip))
 (.seq (.seq (.cN [aM 11 0,gd 12 11,dm 13 (bP 0)])
 (.b0 0 (.loop (.seq (.cN [ck 14 (.bin .lss a (aN 13) (aN 12))])
 (.seq (.cond (aN 14) .skip
 (.exit 0))
 (.seq (.b0 1 (.seq (.cN [aM 15 13,aM 5 15])
 (.seq (.r4 [aM 16 0,aM 17 5,gQ 18 1 16 17,dD 19 18,aM 20 1,aM 21 5,gQ 22 1 20 21,dD 23 22,ck 24 (.bin .neq t (aN 19) (aN 23))])
 (.cond (aN 24) (.seq (.cN [dm 4 (hV false)])
 .ret)
 .skip))))
 (.cN [ck 25 (.bin .add a (aN 13) (bP 1)),aM 13 25])))))))
 (.seq (.cN [dm 4 (hV true)])
 .ret))))⟩
def aix{α:Type}{l m:C_ α}{k:Nat}(a:k<l.length)(b:k<m.length):l.take (k+1)=m.take (k+1)↔l.take k=m.take k/\l[k]=m[k]:=by
 rw[Oi a,Oi b];constructor
 .intro c
  have:=List.append_inj c (by simp;omega)
  exact⟨this.1,by simpa using this.2⟩
 .rintro⟨d,e⟩;rw[d,e]
section
variable{α:Type}{P:Program}{f:FuncId}{t m6:TypeId}{sz:Nat}{enc:α->List Value}
def anf{R R':A_->Addr->Int->Prop}[nD R (λd=>[Value.int .i64 d])][nD R' (λd=>[Value.int .i64 d])](u:P.follows .mixedOrders=true)(v:k2 P f=some (abo t m6))
  (j k:B_)(a b:C_ Int)(w:A_)(l:a6 1 R w j a)(m:a6 1 R' w k b) :
  a2 P f #[j,k] w λx e=>(∃n:Bool,x = .bool n/\(n=true↔a=b))/\Ext w e:=by
 obtain⟨z,bg,rfl,A⟩:=l.form;obtain⟨B,bj,rfl,C⟩:=m.form;refine _Q u v (args:=[_,_]) (Nat.le_of_ble_eq_true rfl) ?_;dsimp only[abo,aN,bP,hV,ck,na,c6,fv,hE,cO,aM,dm,fs,dD,gQ,ys,gd];refine ad ?_;refine I_ (λp=>?_) (λp=>?_);rotate_left
 .refine ad ?_;exact⟨⟨false,rfl,by simp;intro g;subst g;exact p rfl⟩,Ext.refl _⟩
 have G:a.length=b.length:=AY
 refine ad ?_;refine K_ 13 a.length [0,1,12] (λ_=>[]) () (λc _ e=>Ext w e/\a.take c=b.take c) aW aW ⟨Ext.refl _,Ah⟩ ?_;rintro c _ H I J ⟨h,i⟩;refine ad ?_;apply I_<;>intro K
 .have q:c<a.length:=AY
  have y:c<b.length:=AY
  obtain⟨L,rfl⟩:=l.addr;obtain⟨M,rfl⟩:=m.addr;refine ad ?_;intro N r;refine ad ?_;apply I_<;>intro s
  .refine ad ?_;exact⟨q,aV,(),trivial,h.trans r,(aix q y).2 ⟨i,s⟩⟩
  .refine ad ?_;refine⟨⟨false,rfl,?_⟩,h.trans r⟩;simp;intro g;subst g;exact s rfl
 .refine ad ?_;refine⟨⟨true,rfl,by simp;rw[IA AY,IA AY] at i;exact i⟩,h⟩
def QU(a t:F_)(sz b:Nat):me:=⟨8,[.tmp 2],
 (.seq (.cN [dm 2 (.const (.slice none 0 0))])
 (.seq (.seq (.cN [aM 3 0,ck 4 (.bin .eql a (aN 3) (.const (.slice none 0 0)))])
 (.cond (aN 4) (.seq (.cN [dm 2 (.const (.slice none 0 0))])
 .ret)
 .skip))
 (.seq (.cN [c6 5 (.hk t 0 sz [] []),aM 6 0,c6 7 (.app a t sz b (aN 5) (aN 6)),aM 2 7])
 .ret)))⟩
def aaC{R:A_->Addr->α->Prop}{C:A_->C_ B_->α->Prop}[Rel R C sz]{m:F_}{b:Nat}(B:P.follows .mixedOrders=true)(G:k2 P f=some (QU m t sz b))(H:P.underlying m=some (.slice t))
  (v:B_)(xs:C_ α)(w:A_)(h:a6 sz R w v xs)(I:xs.length*b<=140737488355328) :
  a2 P f #[v] w λn d=>(∃a:C_ (hz sz),a.length=xs.length/\og t sz w.heap.size d n a/\∀c (p:c<a.length) (i:c<xs.length),C d a[c].1 xs[c])/\Ext w d:=by
 obtain⟨j,bg,rfl,q⟩:=h.form;refine _Q B G (args:=[_]) (Nat.le_of_ble_eq_true rfl) ?_;dsimp only[QU,aN,bP,hV,ck,na,c6,fv,hE,cO,aM,dm,fs,dD,gQ,ys,gd];refine ad ?_;refine AA2 H ?_;refine ad ?_;refine N_ (λr=>?_) (λr=>?_)
 .refine ad ?_
  have:xs=[]:=by
   obtain⟨J,K,s,i,V,L,W⟩:=h.ex;injection s with M X Y
   subst M;by_cases u:xs=[]
   .exact u
   .have:=L u
    cases j<;>simp_all
  subst this;exact⟨⟨[],rfl,aT.nil _ _ _ _ _,λc h=>by cases h⟩,Ext.refl _⟩
 obtain⟨e,rfl⟩:∃e,j=some e:=by cases j with | none=>cases r | some e=>exact⟨e,rfl⟩
 obtain⟨a,g,x,N⟩:=h.cells;refine ad ?_;intro O q y k Q;refine ad ?_;have S:og t sz w.heap.size O (.slice (some ⟨q,0,none⟩) 0 0) []:=aT.empty y Q;refine _I (ys:=a) S iZ (a6.flat iZ (λ_ _ h=>h) (a6.ext Flat.ext k x)) (by rw[g]) vD (by rw[AJ3,ZQ,g];exact I) (by have:=x.len;have s:=h.len;rw[AJ3,g];omega) (by exact k.size) λn d z U _=>?_;obtain⟨J,K,rfl,_⟩:=z.form;have A:Ext w d:=k.grown U λZ l=>by injection l with l;subst l;exact y
 refine ad ?_;exact⟨⟨a,g,by simpa using z,λc p i=>Rel.ext (R:=R) A (N c p i)⟩,A⟩
def ec.clone{R:A_->Addr->α->Prop}{C:A_->C_ B_->α->Prop}[Rel R C sz]{w w':A_}{v:B_}{xs:C_ α}{b:C_ (hz sz)}(g:b.length=xs.length)(c:og t sz w.heap.size w' v b)
  (h:∀{w w':A_} {cs d},C w cs d->C w' cs d)(i:∀a (e:a<b.length) (f:a<xs.length),C w' b[a].1 xs[a]):ec w (λw=>a6 sz R w v xs) w':=λn j=>by
 have k:=aT.mod c j λl m p=>by have:=(c.lt l m).1;omega
 exact a6.B9 g (k.im iZ) λa e f=>h (i a e f)
def JZ{R:A_->Addr->α->Prop}{C:A_->C_ B_->α->Prop}[Rel R C sz]{g:F_}{b:Nat}(k:P.follows .mixedOrders=true)(l:k2 P f=some (QU g t sz b))(m:P.underlying g=some (.slice t))
  (n:∀{w a:A_} {cs i},C w cs i->C a cs i)(v:B_)(xs:C_ α)(w:A_)(h:a6 sz R w v xs)(p:xs.length*b<=140737488355328) :
  a2 P f #[v] w λc a=>(∃d e,c = .slice d xs.length e)/\ec w (λw=>a6 sz R w c xs) a/\Ext w a :=
 (aaC k l m v xs w h p).mono λc a ⟨⟨x,q,r,s⟩,he⟩=>by
  have j:=ec.clone (R:=R) q r n s;obtain⟨d,e,u,_⟩:=j.here.form;exact⟨⟨d,e,u⟩,j,he⟩
def TU(m6:F_)(sz:Nat):me:=⟨19,[.tmp 4],
 (.seq (.cN [dm 4 (bP 0)])
 (.seq (.seq (.cN [aM 6 0,gd 7 6,dm 8 (bP 0)])
 (.b0 0 (.loop (.seq (.cN [ck 9 (.bin .lss m6 (aN 8) (aN 7))])
 (.seq (.cond (aN 9) .skip
 (.exit 0))
 (.seq (.b0 1 (.seq (.cN [aM 10 8,aM 5 10])
 (.seq (.cN [aM 11 1,aM 12 0,aM 13 5,gQ 14 sz 12 13,na 15 (.lb sz (aN 14)),fv 16 (.val (aN 11) [(aN 15)])])
 (.cond (aN 16) (.seq (.cN [aM 17 5,aM 4 17])
 .ret)
 .skip))))
 (.cN [ck 18 (.bin .add m6 (aN 8) (bP 1)),aM 8 18])))))))
 (.seq (.cN [dm 4 (bP (-1))])
 .ret)))⟩
def hd(p:α->Bool):C_ α->Nat->Int
 | [],_ => -1
 | b :: c,a=>if p b then a else hd p c (a+1)
def Dq{p:α->Bool}{l:C_ α}{k:Nat}(h:k<l.length):hd p (l.drop k) k=if p l[k] then (k:Int) else hd p (l.drop (k+1)) (k+1):=by
 rw[AG0 h];rfl
theorem KD{p:α->Bool}:∀{b:C_ α} {c:Nat},(0<=hd p b c↔b.any p=true)
 | [],_=>by simp[hd]
 | d :: e,c=>by
  simp only[hd,List.any_cons];by_cases a:p d=true
  .rw[if_pos a];simp[a]
  .rw[if_neg a,KD];simp[a]
def asA{R:A_->Addr->α->Prop}{C:A_->C_ B_->α->Prop}[Rel R C sz](n:P.follows .mixedOrders=true)(q:k2 P f=some (TU m6 sz))
  (v:B_)(xs:C_ α)(w:A_)(h:a6 sz R w v xs)(g:E_)(r:okF P g=true)(first cap:C_ B_)(p:α->Bool)
  (s:∀(j:Nat) (A:j<xs.length) (d:C_ B_) (a:A_),Ext w a->C a d xs[j]->a2 P g (first++[Value.agg d.toArray]++cap).toArray a λv t=>v = .bool (p xs[j])/\Ext a t) :
  a2 P f #[v,.func (.func g) first.toArray cap.toArray] w λu a=>u = .I (hd p xs 0)/\Ext w a:=by
 obtain⟨B,bg,rfl,G⟩:=h.form;refine _Q n q (args:=[_,_]) (Nat.le_of_ble_eq_true rfl) ?_;dsimp only[TU,aN,bP,hV,ck,na,c6,fv,hE,cO,aM,dm,fs,dD,gQ,ys,gd];refine ad ?_;refine K_ 8 xs.length [0,1,7] (λ_=>[]) () (λb _ a=>Ext w a/\hd p xs 0=hd p (xs.drop b) b) aW aW ⟨Ext.refl _,Ah⟩ ?_;rintro b _ H x I ⟨c,e⟩;refine ad ?_;apply I_<;>intro J
 .have i:b<xs.length:=AY
  obtain⟨K,rfl⟩:=h.addr;obtain⟨d,y,l⟩:=Rel.out (h.at b i);have z:=Rel.len (R:=R) l;rw[Dq i] at e;refine ad ?_;refine Y_ (y.ext c) z ?_;refine ad ?_;refine W_ r (s b i d x c (Rel.ext (R:=R) c l)) ?_;rintro _ L ⟨rfl,m⟩;refine ad ?_;refine N_ (λk=>?_) (λk=>?_)
  .refine ad ?_;exact⟨by rw[e,if_pos k],c.trans m⟩
  .refine ad ?_;exact⟨i,aV,(),trivial,c.trans m,by rw[e,if_neg (by simp[k])]⟩
 .refine ad ?_;exact⟨by rw[e,VQ AY];rfl,c⟩
def aaP(m6:F_)(g:E_):me:=⟨9,[.tmp 4],
 (.seq (.cN [dm 4 (hV false)])
 (.seq (.cN [aM 5 0,aM 6 1,fv 7 (.fn g [(aN 5),(aN 6)]),ck 8 (.bin .geq m6 (aN 7) (bP 0)),aM 4 8])
 .ret))⟩
def aaQ{R:A_->Addr->α->Prop}{C:A_->C_ B_->α->Prop}[Rel R C sz]{c:E_}{i:F_}(d:P.follows .mixedOrders=true)(j:k2 P c=some (aaP i f))(k:k2 P f=some (TU m6 sz))
  (v:B_)(xs:C_ α)(w:A_)(h:a6 sz R w v xs)(g:E_)(l:okF P g=true)(first cap:C_ B_)(p:α->Bool)
  (m:∀(b:Nat) (s:b<xs.length) (e:C_ B_) (a:A_),Ext w a->C a e xs[b]->a2 P g (first++[Value.agg e.toArray]++cap).toArray a λv n=>v = .bool (p xs[b])/\Ext a n) :
  a2 P c #[v,.func (.func g) first.toArray cap.toArray] w λq a=>q = .bool (xs.any p)/\Ext w a:=by
 refine _Q d j (args:=[_,_]) (Nat.le_of_ble_eq_true rfl) ?_;dsimp only[aaP,aN,bP,hV,ck,na,c6,fv,hE,cO,aM,dm,fs,dD,gQ,ys,gd];refine ad ?_;refine J_ (asA d k v xs w h g l first cap p m) ?_;rintro _ t ⟨rfl,r⟩;refine ad ?_;refine⟨?_,r⟩;congr 1;rw[AH3,decide_eq_true_eq];exact KD
def aeQ(t m6:F_):me:=⟨19,[.tmp 4],
 (.seq (.cN [dm 4 (bP 0)])
 (.seq (.seq (.cN [aM 6 0,gd 7 6,dm 8 (bP 0)])
 (.b0 0 (.loop (.seq (.cN [ck 9 (.bin .lss m6 (aN 8) (aN 7))])
 (.seq (.cond (aN 9) .skip
 (.exit 0))
 (.seq (.b0 1 (.seq (.cN [aM 10 8,aM 5 10])
 (.seq (.cN [aM 11 1,aM 12 0,aM 13 5,gQ 14 1 12 13,dD 15 14,ck 16 (.bin .eql t (aN 11) (aN 15))])
 (.cond (aN 16) (.seq (.cN [aM 17 5,aM 4 17])
 .ret)
 .skip))))
 (.cN [ck 18 (.bin .add m6 (aN 8) (bP 1)),aM 8 18])))))))
 (.seq (.cN [dm 4 (bP (-1))])
 .ret)))⟩
def asz{R:A_->Addr->Int->Prop}[nD R (λn=>[Value.int .i64 n])](j:P.follows .mixedOrders=true)(k:k2 P f=some (aeQ t m6))(v:B_)(xs:C_ Int)(n:Int)(w:A_)(h:a6 1 R w v xs) :
  a2 P f #[v,.I n] w λl d=>l = .I (hd (λa=>decide (n=a)) xs 0)/\Ext w d:=by
 obtain⟨m,bg,rfl,p⟩:=h.form;refine _Q j k (args:=[_,_]) (Nat.le_of_ble_eq_true rfl) ?_;dsimp only[aeQ,aN,bP,hV,ck,na,c6,fv,hE,cO,aM,dm,fs,dD,gQ,ys,gd];refine ad ?_;refine K_ 8 xs.length [0,1,7] (λ_=>[]) () (λb _ d=>Ext w d/\hd (λa=>decide (n=a)) xs 0=hd (λa=>decide (n=a)) (xs.drop b) b) aW aW ⟨Ext.refl _,Ah⟩ ?_;rintro b _ q r s ⟨e,c⟩;refine ad ?_;apply I_<;>intro u
 .have g:b<xs.length:=AY
  obtain⟨x,rfl⟩:=h.addr;rw[Dq g] at c;refine ad ?_;apply I_<;>intro i
  .refine ad ?_;exact⟨by rw[c,if_pos (by simp[i])],e⟩
  .refine ad ?_;exact⟨g,aV,(),trivial,e,by rw[c,if_neg (by simp[i])]⟩
 .refine ad ?_;exact⟨by rw[c,VQ AY];rfl,e⟩
end
end ba
namespace ba
open Go Go.RowKit
structure AF(w:World)(a:Addr)(n:Int):Prop where
 cells:fy w a [Value.int .i64 n]
 ok:o.ev n
theorem AF.ext(w w':A_)(a:Addr)(n:Int)(b:Ext w w')(h:AF w a n):AF w' a n:=⟨h.cells.ext b,h.ok⟩
instance aBP:nD AF (λn=>[Value.int .i64 n]):=⟨λ_ _ _ h=>h.cells⟩
abbrev pE(w:A_)(v:B_)(l:C_ Int):Prop:=a6 1 AF w v l
theorem pE.ext{w w':A_}{v:B_}{l:C_ Int}(a:Ext w w')(h:pE w v l):pE w' v l:=a6.ext AF.ext a h
def pE.ok{w:A_}{v:B_}{l:C_ Int}(h:pE w v l):∀a∈l,o.ev a:=by
 intro a b;obtain⟨c,d,rfl⟩:=List.mem_iff_getElem.1 b;obtain⟨e,f,rfl,_⟩:=h.form;obtain⟨g,rfl⟩:=h.addr;exact(h.at c d).ok
def CV(w:A_)(a:Addr)(l:C_ Int):Prop := ∃b,w.cell? a=some b/\pE w b l
theorem CV.ext(w w':A_)(a:Addr)(l:C_ Int)(b:Ext w w')(h:CV w a l):CV w' a l:=let ⟨c,d,e⟩:=h; ⟨c,b.cell d,e.ext b⟩
abbrev vm(w:A_)(v:B_)(l:C_ (C_ Int)):Prop:=a6 1 CV w v l
theorem vm.ext{w w':A_}{v:B_}{l:C_ (C_ Int)}(a:Ext w w')(h:vm w v l):vm w' v l:=a6.ext CV.ext a h
end ba
namespace o
open Go Go.RowKit ba
structure q0(w:World)(cs:List Value)(v:Env):Prop where
 ex:∃v0 v1 v2 eC,cs=[v0,v1,v2,eC,.int .i64 v.self]/\vm w v0 v.vars/\pE w v1 v.lens/\pE w v2 v.locals/\vm w eC v.at_/\ev v.self
theorem q0.ext{w w':A_}{cs:C_ B_}{v:Env}(a:Ext w w')(h:q0 w cs v):q0 w' cs v :=
 let ⟨v0,v1,v2,b,c,d,e,f,g,i⟩:=h.ex
 ⟨v0,v1,v2,b,c,d.ext a,e.ext a,f.ext a,g.ext a,i⟩
def q0.form{w:A_}{cs:C_ B_}{v:Env}(h:q0 w cs v):∃a b c bg d bj e f,cs=[.slice a v.vars.length b,.slice c v.lens.length bg,.slice d v.locals.length bj,.slice e v.at_.length f,.I v.self] /\
  vm w (.slice a v.vars.length b) v.vars/\pE w (.slice c v.lens.length bg) v.lens/\pE w (.slice d v.locals.length bj) v.locals/\vm w (.slice e v.at_.length f) v.at_/\ev v.self /\
  v.vars.length<=9223372036854775807/\v.lens.length<=9223372036854775807/\v.locals.length<=9223372036854775807/\v.at_.length<=9223372036854775807:=by
 obtain⟨r,s,t,u,rfl,g,i,j,k,l⟩:=h.ex;obtain⟨a,b,rfl,m⟩:=g.form;obtain⟨c,bg,rfl,n⟩:=i.form;obtain⟨d,bj,rfl,p⟩:=j.form;obtain⟨e,f,rfl,q⟩:=k.form;exact⟨a,b,c,bg,d,bj,e,f,rfl,g,i,j,k,l,m,n,p,q⟩
end o
namespace ba
open Go Go.RowKit
theorem a6.one{α:Type}{sz:Nat}{R:A_->Addr->α->Prop}{w:A_}{v:B_}{xs:C_ α}(h:a6 sz R w v xs):v.oneCell'=true:=by
 obtain⟨a,b,rfl,_⟩:=h.form;rfl
def ajE(_:A_)(cs:C_ B_)(n:Int):Prop:=cs=[Value.int .i64 n]/\o.ev n
instance aB0:Rel AF ajE 1 where
 out h:=⟨_,h.cells,rfl,h.ok⟩
 kx h k:=by obtain⟨rfl,k⟩:=k;exact⟨h,k⟩
 len h:=by rw[h.1];rfl
 one h:=by rw[h.1];simp[Value.oneCell']
 ext _ h:=h
def ajS(w:A_)(cs:C_ B_)(l:C_ Int):Prop := ∃a,cs=[a]/\pE w a l
instance aB8:Rel CV ajS 1 where
 out h:=by
  obtain⟨v,I,U⟩:=h;exact⟨[v],λj u av=>by cases j with | zero=>simp at av;subst av;rw[add_zero];exact I | succ j=>simp at av,v,rfl,U⟩
 kx h k:=by
  obtain⟨v,rfl,k⟩:=k
  have:=h 0 v rfl
  rw[add_zero] at this;exact⟨v,this,k⟩
 len h:=by obtain⟨v,rfl,_⟩:=h;rfl
 one h:=by obtain⟨v,rfl,h⟩:=h;simpa using h.one
 ext e h:=let ⟨v,I,U⟩:=h; ⟨v,I,U.ext e⟩
end ba
namespace o
open Go Go.RowKit ba
def ajU(_:A_)(cs:C_ B_)(x:Scalar):Prop:=cs=x.enc/\kl x.name
def ajW(_:A_)(cs:C_ B_)(x:Var):Prop:=cs=x.enc/\kl x.name
def ajy(_:A_)(cs:C_ B_)(x:eb):Prop:=cs=x.enc/\kl x.name
def ajI(_:A_)(cs:C_ B_)(x:Node):Prop:=cs=x.enc/\x.ok
instance aB9:Rel jG ajU 2 where
 out h:=⟨_,h.cells,rfl,h.ok⟩
 kx h k:=by obtain⟨rfl,k⟩:=k;exact⟨h,k⟩
 len h:=by rw[h.1];rfl
 one h:=by rw[h.1];simp[Scalar.enc,Value.oneCell']
 ext _ h:=h
instance aCa:Rel q4 ajW 6 where
 out h:=⟨_,h.cells,rfl,h.ok⟩
 kx h k:=by obtain⟨rfl,k⟩:=k;exact⟨h,k⟩
 len h:=by rw[h.1];rfl
 one h:=by rw[h.1];simp[Var.enc,Value.oneCell']
 ext _ h:=h
instance aBX:Rel rW ajy 6 where
 out h:=⟨_,h.cells,rfl,h.ok⟩
 kx h k:=by obtain⟨rfl,k⟩:=k;exact⟨h,k⟩
 len h:=by rw[h.1];rfl
 one h:=by rw[h.1];simp[eb.enc,Value.oneCell']
 ext _ h:=h
instance aB3:Rel AG ajI 2 where
 out h:=⟨_,h.cells,rfl,h.ok⟩
 kx h k:=by obtain⟨rfl,k⟩:=k;exact⟨h,k⟩
 len h:=by rw[h.1];rfl
 one h:=by rw[h.1];simp[Node.enc,Value.oneCell']
 ext _ h:=h
def E6(w:A_)(cs:C_ B_)(x:Act):Prop := ∃a b,cs=x.enc a b/\fJ w a x.index/\fJ w b x.value
theorem E6.ext{w w':A_}{cs:C_ B_}{c:Act}(a:Ext w w')(h:E6 w cs c):E6 w' cs c:=let ⟨b,d,e,f,g⟩:=h; ⟨b,d,e,f.ext a,g.ext a⟩
instance aBV:Rel AD E6 5 where
 out h:=let ⟨b5,b9,I,U,ae⟩:=h; ⟨_,I,b5,b9,rfl,U,ae⟩
 kx h k:=by obtain⟨b5,b9,rfl,U,ae⟩:=k;exact⟨b5,b9,h,U,ae⟩
 len h:=by obtain⟨b5,b9,rfl,U,ae⟩:=h;rfl
 one h:=by obtain⟨b5,b9,rfl,U,ae⟩:=h;simp[Act.enc,U.one,ae.one];simp[Value.oneCell']
 ext e h:=h.ext e
instance aBY:Rel AE CK 6 where
 out h:=let ⟨ah,b5,b9,I,U,ae⟩:=h; ⟨_,I,ah,b5,b9,rfl,U,ae⟩
 kx h k:=by obtain⟨ah,b5,b9,rfl,U,ae⟩:=k;exact⟨ah,b5,b9,h,U,ae⟩
 len h:=by obtain⟨ah,b5,b9,rfl,U,ae⟩:=h;rfl
 one h:=by obtain⟨ah,b5,b9,rfl,U,ae⟩:=h;simp[ew.enc,U.one,ae.one];simp[Value.oneCell']
 ext e h:=h.ext e
instance aB6:Rel AH yP 5 where
 out h:=let ⟨ah,b5,b9,I,U,ae⟩:=h; ⟨_,I,ah,b5,b9,rfl,U,ae⟩
 kx h k:=by obtain⟨ah,b5,b9,rfl,U,ae⟩:=k;exact⟨ah,b5,b9,h,U,ae⟩
 len h:=by obtain⟨ah,b5,b9,rfl,U,ae⟩:=h;rfl
 one h:=by obtain⟨ah,b5,b9,rfl,U,ae⟩:=h;simp[ed.enc,U.one,ae.one];simp[Value.oneCell']
 ext e h:=h.ext e
def Jo(w:A_)(cs:C_ B_)(x:mL):Prop:=kl x.name/\∃a,cs=x.enc a/\fJ w a x.expr
theorem Jo.ext{w w':A_}{cs:C_ B_}{c:mL}(a:Ext w w')(h:Jo w cs c):Jo w' cs c:=let ⟨b,d,e,f⟩:=h; ⟨b,d,e,f.ext a⟩
instance aB7:Rel CU Jo 2 where
 out h:=let ⟨ah,b5,I,U⟩:=h; ⟨_,I,ah,b5,rfl,U⟩
 kx h k:=by obtain⟨ah,b5,rfl,U⟩:=k;exact⟨ah,b5,h,U⟩
 len h:=by obtain⟨ah,b5,rfl,U⟩:=h;rfl
 one h:=by obtain⟨ah,b5,rfl,U⟩:=h;simp[mL.enc,U.one];simp[Value.oneCell']
 ext e h:=h.ext e
def ah5:C_ kq:=[.i,.i]
end o
namespace ba
def a4{A B:Prop}(k:B)(h:yK B->A:=by
 intro a;simp -dsimp only[c7,cD,Nat.reduceAdd,Nat.reduceEqDiff,reduceIte,reduceCtorEq,dt];exact a.out):A:=h ⟨k⟩
end ba
namespace Go.Proofs.R
open Go Go.RowKit ba o
abbrev ajQ:A_->Addr->Int->Prop:=Flat λa=>[Value.int .i64 a]
abbrev nF(w:A_)(v:B_)(l:C_ Int):Prop:=a6 1 ajQ w v l
theorem nF.ext{w w':A_}{v:B_}{l:C_ Int}(a:Ext w w')(h:nF w v l):nF w' v l:=a6.ext Flat.ext a h
def nF.b0{w:A_}{b n:Nat}{e:F_}{f:Nat×Nat}{xs:C_ Int}(a:w.heap[b]? = some (.cells (xs.flatMap λn=>[Value.int .i64 n]).toArray e f))(c:n=xs.length)(d:xs.length<=maxLen):nF w (.slice (some ⟨b,0,none⟩) n n) xs :=
 a6.b0 (enc:=λn=>[Value.int .i64 n]) (λ_=>rfl) a c d λ_ _ _ g=>g
abbrev _root_.EL:=a2 Tryz.prog
theorem aja(v:B_)(l:C_ Int)(w:A_)(j:nF w v l):EL F.Lc #[v] w λv b=>v = .bool (l.all o.within)/\b=w:=by
 obtain⟨t,u,rfl,x⟩:=j.form;refine bn E.Lc ?_;refine a4 ?_;refine _j 7 l.length (λa p b=>b=w/\(l.take a).all o.within=true) (by simp -dsimp only[c7,cD,Nat.reduceAdd,Nat.reduceEqDiff,reduceIte,reduceCtorEq,dt]) ⟨rfl,Ah⟩ ?_;rintro a p b c y d ⟨rfl,f⟩;have g:=c 0 rfl;have e:=c 5 rfl;have h:=c 6 rfl;simp only[bR,Nat.reduceAdd,Nat.reduceEqDiff,reduceIte,kF,ox] at g e h;clear c;refine cg (i_ g (i_ e (i_ h d))) ?_;refine I_ (λq=>?_) (λq=>?_);rotate_left
 .refine cg (i_ g (i_ e (i_ h d))) ?_;rw[IA AY] at f;rw[f];exact cd
 have k:a<l.length:=AY
 obtain⟨z,rfl⟩:=j.addr;have m:l.take (a+1)=l.take a++[l[a]]:=Oi k;have i:l.all o.within=((l.take (a+1)).all o.within&&(l.drop (a+1)).all o.within):=by rw[<-AJ7,AH6]
 rw[m,AJ7] at i
 (repeat' first
 | assumption
 | exact Ext.refl _
 | refine Ext.trans ?_ Aq
 | refine Q_ AY ?_
 | refine _G Aq ?_ rfl ?_
 | refine _C Aq ?_ rfl ?_
 | refine _L Aq ?_ AY rfl ?_
 | refine _R Aq ?_ AY rfl ?_
 | refine _S Aq ?_ AY rfl ?_
 | refine _T AY ?_
 | refine _M (by first | assumption | omega) ?_
 | refine _N (by first | assumption | omega) ?_
 | refine _E Aq ?_
 | refine _F Aq ?_
 | simp -dsimp only[c7,cD,Nat.reduceAdd,Nat.reduceEqDiff,reduceIte,reduceCtorEq,dt,e,d])
 generalize l[a]=n at *;refine I_ (λr=>?_) (λr=>?_)
 .refine a4 ?_;rw[i];refine⟨?_,trivial⟩
  have:o.within n=false:=by simp[o.within];omega
  simp[this]
 refine a4 ?_;refine I_ (λs=>?_) (λs=>?_)
 .refine a4 ?_;rw[i];refine⟨?_,trivial⟩
  have:o.within n=false:=by simp[o.within];omega
  simp[this]
 refine cg d ?_;refine Q_ AY ?_;refine a4 ?_;refine⟨k,trivial,trivial,?_⟩;rw[m];simp[f,o.within];omega
def Je(f:E_)(g:Int->Int->Int):Prop := ∀a b c,(o.within a&&o.within b)=true->a2 Tryz.prog f #[.int .i64 a,.int .i64 b] c λd e=>d = .int .i64 (g a b)/\e=c
def akc:Je F.FL (· + ·):=by
 intro b c d a;simp[o.within] at a;refine bn E.FL ?_;refine aO ?_;exact cd
def ayk:Je F.FM (· - ·):=by
 intro b c d a;simp[o.within] at a;refine bn E.FM ?_;refine aO ?_;exact cd
def afY{a b:Int}(c : -1048576<=a/\a<=1048576)(d : -1048576<=b/\b<=1048576) : -1099511627776<=a*b/\a*b<=1099511627776:=by
 have e:(a*b).natAbs<=1048576*1048576:=by
  rw[Int.natAbs_mul];exact AI9 AY AY
 omega
def aui:Je F.FN (· * ·):=by
 intro b c d a;simp[o.within] at a;have e:=afY a.1 a.2;refine bn E.FN ?_;refine aO ?_;exact cd
def V8(f:E_)(g:Int->Int->Int)(i:okF Tryz.prog f=true)(j:Je f g)(a b:Int)(w:A_) :
  EL F.K7 #[.agg #[.func (.func f) #[] #[]],.I a,.I b] w λk l=>k = .tuple #[.I (o.tell g a b).1,.bool (o.tell g a b).2]/\Ext w l:=by
 refine bn E.K7 ?_;refine a4 ?_;refine O_ λr s t u v=>?_;refine a4 ?_;refine _D (cs:=[a,b].flatMap λc=>[Value.int .i64 c]) (by simp[List.range,List.range.loop,gv,lay,dE,bR,kF,Value.cells]) λm x y z n=>?_;refine a4 ?_;refine J_ (aja _ [a,b] m (nF.b0 n rfl (by simp[maxLen]))) ?_;rintro _ _ ⟨rfl,rfl⟩;refine a4 ?_;refine N_ (λd=>?_) (λd=>?_);rotate_left
 .refine a4 ?_
  have:(o.within a&&o.within b)=false:=by simpa using d
  refine⟨?_,fT⟩;simp[o.tell,this]
 have h:(o.within a&&o.within b)=true:=by simpa using d
 refine aO ?_;refine W_ (first:=[]) (cap:=[]) i (j a b _ h) ?_;rintro _ _ ⟨rfl,rfl⟩;refine a4 ?_;refine _D (cs:=[g a b].flatMap λc=>[Value.int .i64 c]) (by simp[List.range,List.range.loop,gv,lay,dE,bR,kF,Value.cells]) λp A B C q=>?_;refine a4 ?_;refine J_ (aja _ [g a b] p (nF.b0 q rfl (by simp[maxLen]))) ?_;rintro _ _ ⟨rfl,rfl⟩;refine a4 ?_;refine N_ (λe=>?_) (λe=>?_)
 .refine a4 ?_
  have:o.within (g a b)=true:=by simpa using e
  refine⟨?_,fT⟩;simp[o.tell,h,this]
 .refine a4 ?_
  have:o.within (g a b)=false:=by simpa using e
  refine⟨?_,fT⟩;simp[o.tell,this]
def vg(f:E_)(g:Int->Int->Int×Bool):Prop := ∀a b c,a2 Tryz.prog f #[.int .i64 a,.int .i64 b] c λd e=>d = .tuple #[.int .i64 (g a b).1,.bool (g a b).2]/\Ext c e
def Qm:vg F.z (o.tell (· + ·)):=by
 intro a b c;refine bn E.z ?_;refine a4 ?_;refine V_ (cs:=[.func (.func F.FL) #[] #[]]) (by simp[gv,lay,xg,Value.cells]) ?_;refine a4 ?_;refine J_ (V8 _ _ Cl akc a b c) ?_;rintro _ d ⟨rfl,e⟩;refine a4 ?_;exact cd
def aiu:vg F.ac (o.tell (· - ·)):=by
 intro a b c;refine bn E.ac ?_;refine a4 ?_;refine V_ (cs:=[.func (.func F.FM) #[] #[]]) (by simp[gv,lay,xg,Value.cells]) ?_;refine a4 ?_;refine J_ (V8 _ _ Cl ayk a b c) ?_;rintro _ d ⟨rfl,e⟩;refine a4 ?_;exact cd
def aum:vg F.sV (o.tell (· * ·)):=by
 intro a b c;refine bn E.sV ?_;refine a4 ?_;refine V_ (cs:=[.func (.func F.FN) #[] #[]]) (by simp[gv,lay,xg,Value.cells]) ?_;refine a4 ?_;refine J_ (V8 _ _ Cl aui a b c) ?_;rintro _ d ⟨rfl,e⟩;refine a4 ?_;exact cd
def Z7(b:Bool)(w:A_):EL F.gs #[.bool b] w λc d=>c = .I (o.bit b)/\d=w:=by
 refine bn E.gs ?_;refine a4 ?_;refine N_ (λa=>?_) (λa=>?_)
 all_goals
  subst a;refine a4 ?_;exact cd
def au9:vg F.q7 λa _=>(o.bit (decide (a=0)),true):=by
 intro a c b;refine bn E.q7 ?_;refine a4 ?_;refine J_ (Z7 _ b) ?_;rintro _ _ ⟨rfl,rfl⟩;refine a4 ?_;exact cd
def ava:vg F.r0 λa _=>o.tell (· - ·) 0 a:=by
 intro a c b;refine bn E.r0 ?_;refine a4 ?_;refine J_ (aiu 0 a b) ?_;rintro _ d ⟨rfl,e⟩;refine a4 ?_;exact cd
def wR(f:E_)(p:Int->Int->Bool):Prop := ∀a b c,a2 Tryz.prog f #[.int .i64 a,.int .i64 b] c λd e=>d = .bool (p a b)/\e=c
def avb:wR F.tU λa b=>decide (a=b):=by
 intro a b c;refine bn E.tU ?_;refine a4 ?_;exact cd
def avc:wR F.sW λa b => !decide (a=b):=by
 intro a b c;refine bn E.sW ?_;refine a4 ?_;exact cd
def avd:wR F.nJ λa b=>decide (a<b):=by
 intro a b c;refine bn E.nJ ?_;refine a4 ?_;exact cd
def ave:wR F.qm λa b=>decide (a<=b):=by
 intro a b c;refine bn E.qm ?_;refine a4 ?_;exact cd
def avf:wR F.j4 λa b => !decide (a=0) && !decide (b=0):=by
 intro a b d;refine bn E.j4 ?_;refine a4 ?_;refine I_ (λc=>?_) (λc=>?_)
 all_goals
  refine a4 ?_;exact⟨by simp[c],trivial⟩
def avg:wR F.qn λa b => !decide (a=0) || !decide (b=0):=by
 intro a b d;refine bn E.qn ?_;refine a4 ?_;refine I_ (λc=>?_) (λc=>?_)
 all_goals
  refine a4 ?_;exact⟨by simp[c],trivial⟩
def yF(w:A_)(v:B_)(g:Int->Int->Int×Bool):Prop :=
 (∃a,v = .func (.func a) #[] #[]/\okF Tryz.prog a=true/\vg a g) \/
 (∃b a c,v = .func (.func F.h) #[] #[.pointer (some ⟨b,0,none⟩)]/\w.heap[b]? = some (.cells #[.func (.func a) #[] #[]] T.q7)/\okF Tryz.prog a=true/\wR a c/\g=λd e=>(o.bit (c d e),true))
def axM(c f:Nat)(p:Int->Int->Bool)(a b:Int)(w:A_)(i:w.heap[c]? = some (.cells #[.func (.func f) #[] #[]] T.q7))(d:okF Tryz.prog f=true)(e:wR f p) :
  EL F.h #[.I a,.I b,.pointer (some ⟨c,0,none⟩)] w λg h=>g = .tuple #[.I (o.bit (p a b)),.bool true]/\Ext w h:=by
 refine bn E.h ?_;refine aO ?_;refine W_ (first:=[]) (cap:=[]) d (e a b w) ?_;rintro _ _ ⟨rfl,rfl⟩;refine a4 ?_;refine J_ (Z7 _ _) ?_;rintro _ _ ⟨rfl,rfl⟩;refine a4 ?_;exact cd
def AC0{v:B_}{g:Int->Int->Int×Bool}{a b:Int}{w:A_}{i:B_->A_->Prop}{t}(h:yF w v g)(j:∀c,Ext w c->i (.tuple #[.I (g a b).1,.bool (g a b).2]) c):yD Tryz.prog v [.I a,.I b] w i t:=by
 rcases h with ⟨k,rfl,d,h⟩ | ⟨l,k,m,rfl,n,d,h,rfl⟩
 .exact _u (first:=[]) (cap:=[]) d (h a b w) λv c ⟨e,f⟩=>by subst e;exact j c f
 .exact _u (first:=[]) (cap:=[_]) Cl (axM l k m a b w n d h) λv c ⟨e,f⟩=>by subst e;exact j c f
def Fm(w:A_)(a:pF)(v:B_):Prop := ∃b,v = .agg #[.int .i64 a.parts,.int .i64 a.iU,.int .i64 a.makes,b]/\yF w b a.xd
def rU(w:A_)(m:B_):Prop := ∃d e f b,m = .map (some d)/\w.heap[d]? = some (.map e f)/\mK (Value.int .i64) e.toList b /\
 ∀c:Int,match gY c with
  | some g => ∃a,b.find? (λa=>decide (c=a.1))=some a/\Fm w g a.2
  | none=>b.find? (λa=>decide (c=a.1))=none
def EK(b:Int)(f:Nat)(w:A_):EL F.d #[.I b,.func (.func f) #[] #[]] w
  λi c=>(∃a,i = .agg #[.I 2,.I b,.I 1,.func (.func F.h) #[] #[.pointer (some ⟨a,0,none⟩)]]/\c.heap[a]? = some (.cells #[.func (.func f) #[] #[]] T.q7))/\Ext w c:=by
 refine bn E.d ?_;refine a4 ?_;refine O_ λn a p d e=>?_;refine a4 ?_;refine O_ λq j r g k=>?_;refine a4 ?_;refine V_ (cs:=[.I 2,.I b,.I 1,.func (.func F.h) #[] #[.pointer (some ⟨a,0,none⟩)]]) (by simp[gv,lay,dE,o6,bR,kF,Value.cells]) ?_;refine a4 ?_;refine X_ k rfl rfl (by simp[Value.oneCell']) λs h l=>?_;have t:=cf e;have m:a≠j:=AY
 refine a4 ?_;refine Y_ (g5 l) rfl ?_;refine a4 ?_;exact⟨⟨a,rfl,(h.block a m).trans (g.obj e)⟩,h.ext (d.trans g) (by have:=d.size;omega)⟩
def avh(w:A_):EL F.KY #[] w λa0 W=>rU W a0/\Ext w W:=by
 refine bn E.KY ?_;refine a4 ?_;refine _w λbB h c a1 X=>?_;refine a4 ?_;refine V_ (cs:=[.I 1,.I 1,.I 1,.func (.func F.q7) #[] #[]]) (by simp[gv,lay,dE,o6,xg,bR,kF,Value.cells]) ?_;refine a4 ?_;refine _H X rfl λbC Y Z=>?_;refine a4 ?_;refine V_ (cs:=[.I 1,.I 0,.I 0,.func (.func F.r0) #[] #[]]) (by simp[gv,lay,dE,o6,xg,bR,kF,Value.cells]) ?_;refine a4 ?_;refine _H Z rfl λbD ab ae=>?_;refine a4 ?_;refine V_ (cs:=[.I 2,.I 0,.I 0,.func (.func F.z) #[] #[]]) (by simp[gv,lay,dE,o6,xg,bR,kF,Value.cells]) ?_;refine a4 ?_;refine _H ae rfl λbE af ag=>?_;refine a4 ?_;refine V_ (cs:=[.I 2,.I 0,.I 0,.func (.func F.ac) #[] #[]]) (by simp[gv,lay,dE,o6,xg,bR,kF,Value.cells]) ?_;refine a4 ?_;refine _H ag rfl λbG ah ai=>?_;refine a4 ?_;refine V_ (cs:=[.I 2,.I 0,.I 0,.func (.func F.sV) #[] #[]]) (by simp[gv,lay,dE,o6,xg,bR,kF,Value.cells]) ?_;refine a4 ?_;refine _H ai rfl λa3 aj ak=>?_;have a5:Ext w a3:=aj.ext (ah.ext (af.ext (ab.ext (Y.ext a1 c) c) c) c) c;clear Y ab af ah aj X Z ae ag ai;refine a4 ?_;refine J_ (EK (-1) F.tU _) ?_;rintro _ bH ⟨⟨a7,rfl,al⟩,H⟩;refine a4 ?_;refine _H (H.obj ak) rfl λa8 an I=>?_;refine a4 ?_;refine J_ (EK (-1) F.sW _) ?_;rintro _ bI ⟨⟨a9,rfl,ao⟩,r⟩;refine a4 ?_;refine _H (r.obj I) rfl λaq J K=>?_;refine a4 ?_;refine J_ (EK 0 F.nJ _) ?_;rintro _ bJ ⟨⟨bb,rfl,ar⟩,s⟩;refine a4 ?_;refine _H (s.obj K) rfl λau L M=>?_;refine a4 ?_;refine J_ (EK 0 F.qm _) ?_;rintro _ bK ⟨⟨bf,rfl,av⟩,t⟩;refine a4 ?_;refine _H (t.obj M) rfl λaw N O=>?_;refine a4 ?_;refine J_ (EK 1 F.j4 _) ?_;rintro _ bL ⟨⟨bk,rfl,ax⟩,u⟩;refine a4 ?_;refine _H (u.obj O) rfl λay P Q=>?_;refine a4 ?_;refine J_ (EK 1 F.qn _) ?_;rintro _ bM ⟨⟨bl,rfl,az⟩,v⟩;refine a4 ?_;refine _H (v.obj Q) rfl λl S bo=>?_;refine a4 ?_;have d:∀{w:A_} {a:Nat} {aB:Array MapEntry} {aC:Nat} {aD:Array B_} {aE:F_},w.heap[h]? = some (.map aB aC)->w.heap[a]? = some (.cells aD aE)->a≠h:=by
  intro w a aB aC aD aE m i bp;subst bp;rw[m] at i;injection i with i
  cases i
 have x:=(an.block a7 (d (H.obj ak) al)).trans al;have y:=(J.block a9 (d (r.obj I) ao)).trans ao;have z:=(L.block bb (d (s.obj K) ar)).trans ar;have A:=(N.block bf (d (t.obj M) av)).trans av;have B:=(P.block bk (d (u.obj O) ax)).trans ax;have bq:=(S.block bl (d (v.obj Q) az)).trans az;have bt:∀{a:Nat} {b:Obj},a≠h->a8.heap[a]? = some b->aq.heap[a]? = some b:=λf g=>(J.block _ f).trans (r.obj g);have aF:∀{a:Nat} {b:Obj},a≠h->aq.heap[a]? = some b->au.heap[a]? = some b:=λf g=>(L.block _ f).trans (s.obj g);have U:∀{a:Nat} {b:Obj},a≠h->au.heap[a]? = some b->aw.heap[a]? = some b:=λf g=>(N.block _ f).trans (t.obj g);have C:∀{a:Nat} {b:Obj},a≠h->aw.heap[a]? = some b->ay.heap[a]? = some b:=λf g=>(P.block _ f).trans (u.obj g);have n:∀{a:Nat} {b:Obj},a≠h->ay.heap[a]? = some b->l.heap[a]? = some b:=λf g=>(S.block _ f).trans (v.obj g);have p:=d I x;have G:=d K y;have V:=d M z;have aG:=d O A;have bu:=d Q B;replace x:=n p (C p (U p (aF p (bt p x))));replace y:=n G (C G (U G (aF G y)));replace z:=n V (C V (U V z));replace A:=n aG (C aG A);replace B:=n bu B;have bw:Ext w l:=S.ext ((P.ext ((N.ext ((L.ext ((J.ext ((an.ext (a5.trans H) c).trans r) c).trans s) c).trans t) c).trans u) c).trans v) c;refine⟨⟨h,_,_,[(9,_),(10,_),(11,_),(12,_),(13,_),(14,_),(15,_),(16,_),(17,_),(18,_),(19,_)],rfl,bo,rfl,λe=>?_⟩,bw⟩;have q:∀{j:Nat} {aH:Int->Int->Int×Bool},okF Tryz.prog j=true->vg j aH->yF l (.func (.func j) #[] #[]) aH:=λm i=>.inl ⟨_,rfl,m,i⟩;have k:∀{a j:Nat} {aI:Int->Int->Bool},l.heap[a]? = some (.cells #[.func (.func j) #[] #[]] T.q7)->okF Tryz.prog j=true->wR j aI->yF l (.func (.func F.h) #[] #[.pointer (some ⟨a,0,none⟩)]) λbx bz=>(o.bit (aI bx bz),true) :=
  λm i bA=>.inr ⟨_,_,_,rfl,m,i,bA,rfl⟩
 unfold gY;by_cases aJ:e=9
 .subst aJ;exact⟨_,rfl,_,rfl,q Cl au9⟩
 by_cases aK:e=10
 .subst aK;exact⟨_,rfl,_,rfl,q Cl ava⟩
 by_cases aL:e=11
 .subst aL;exact⟨_,rfl,_,rfl,q Cl Qm⟩
 by_cases aP:e=12
 .subst aP;exact⟨_,rfl,_,rfl,q Cl aiu⟩
 by_cases aQ:e=13
 .subst aQ;exact⟨_,rfl,_,rfl,q Cl aum⟩
 by_cases aR:e=14
 .subst aR;exact⟨_,rfl,_,rfl,k x Cl avb⟩
 by_cases aS:e=15
 .subst aS;exact⟨_,rfl,_,rfl,k y Cl avc⟩
 by_cases aU:e=16
 .subst aU;exact⟨_,rfl,_,rfl,k z Cl avd⟩
 by_cases aX:e=17
 .subst aX;exact⟨_,rfl,_,rfl,k A Cl ave⟩
 by_cases aY:e=18
 .subst aY;exact⟨_,rfl,_,rfl,k B Cl avf⟩
 by_cases aZ:e=19
 .subst aZ;exact⟨_,rfl,_,rfl,k bq Cl avg⟩
 simp[aJ,aK,aL,aP,aQ,aR,aS,aU,aX,aY,aZ]
theorem rU.look{w:A_}{m:B_}(h:rU w m)(x:Int):∃c d,tN w m c/\Instr.findNow (.int .i64) (.I x) c.toList 0=some d /\
  match gY x with
  | some e => ∃i f,d=some (i,f)/\Fm w e f
  | none=>d=none:=by
 obtain⟨d,c,j,k,rfl,l,n,p⟩:=h;obtain⟨a,q,b⟩:=Gb (axL .i64 .i64) x c.toList k 0 n;refine⟨c,a,.inr ⟨d,j,rfl,l⟩,q,?_⟩
 have:=p x
 cases g:gY x with
 | none =>
  simp only[g] at this ⊢;rw[this] at b;cases a with
  | none=>rfl
  | some a=>simp at b
 | some e =>
  simp only[g] at this ⊢;obtain⟨t,r,s⟩:=this;rw[r] at b;cases a with
  | none=>simp at b
  | some a=>simp at b;exact⟨a.1,a.2,rfl,b ▸ s⟩
theorem rU.mod{A:Nat->Prop}{w w':A_}{m:B_}(h:rU w m)(f:Mod A w w')(g:∀i b,w.heap[i]? = some b->(∃c a,b = .map c a)\/(∃q,b = .cells q T.q7)->¬A i):rU w' m:=by
 obtain⟨j,c,a,r,rfl,k,s,t⟩:=h;refine⟨j,c,a,r,rfl,f.obj (g j _ k (.inl ⟨_,_,rfl⟩)) k,s,λl=>?_⟩
 have:=t l
 cases n:gY l with
 | none=>simpa only[n] using this
 | some b =>
  simp only[n] at this ⊢;obtain⟨d,u,v,x,e⟩:=this;refine⟨d,u,v,x,?_⟩;rcases e with e | ⟨a,y,d,z,p,B⟩
  .exact .inl e
  .exact .inr ⟨a,y,d,z,f.obj (g a _ p (.inr ⟨_,rfl⟩)) p,B⟩
theorem rU.ext{w w':A_}{m:B_}(h:rU w m)(a:Ext w w'):rU w' m:=h.mod (A:=λ_=>False) a.mod λ_ _ _ _ h=>h
def avA(x:Int)(m:B_)(w:A_)(h:rU w m):EL F.gt #[.I x,m] w λf c=>f = .I (en x)/\Ext w c:=by
 refine bn E.gt ?_;obtain⟨A,B,k,l,d⟩:=h.look x;simp -dsimp only[cD];simp -dsimp only[c7,Nat.reduceAdd,Nat.reduceEqDiff,reduceIte,reduceCtorEq,dt];refine _x (λg c=>g 0 = .I x/\g 1=m/\c=w/\x≠3/\¬(1<=x/\x<=8)) ?_ ?_
 .refine a4 ?_;refine I_ (λb=>?_) (λb=>?_)
  .refine a4 ?_;exact⟨by simp[en,b],Ext.refl _⟩
  refine a4 ?_;refine I_ (λi=>?_) (λi=>?_)
  .refine a4 ?_;refine I_ (λj=>?_) (λj=>?_)
   .refine a4 ?_;exact⟨by simp[en,b,i,j],Ext.refl _⟩
   .refine a4 ?_;refine⟨trivial,trivial,trivial,b,AY⟩
  .refine a4 ?_;refine⟨trivial,trivial,trivial,b,AY⟩
 .rintro C c G ⟨n,s1,rfl,H,I⟩;refine cg (i_ n s1) ?_;refine _t k l ?_;cases a:gY x with
  | none =>
   simp only[a] at d;subst d;simp only[pt,Option.map_none,Option.getD_none,Option.isSome_none,if_true];have p:en x = -1:=by
    unfold gY at a;unfold en
    repeat' split
    all_goals first | rfl | (exfalso;omega) | skip
    all_goals
     exfalso
     (repeat' split at a)
     all_goals first | (cases a;done) | omega
   refine a4 ?_;refine _O (vs:=[.I 0,.I 0,.I 0,.nilFunc]) (λ_=>by simp -dsimp only[c7,cD,Nat.reduceAdd,Nat.reduceEqDiff,reduceIte,reduceCtorEq,dt]) rfl rfl (by simp[Value.oneCell']) λq r s t u=>?_;refine a4 ?_;rw[p];exact cd
  | some e =>
   simp only[a] at d;obtain⟨J,f,rfl,v,rfl,y⟩:=d;simp only[pt,Option.map_some,Option.getD_some,Option.isSome_some,if_true];refine a4 ?_;refine _O (vs:=[.I e.parts,.I e.iU,.I e.makes,v]) (λ_=>by simp -dsimp only[c7,cD,Nat.reduceAdd,Nat.reduceEqDiff,reduceIte,reduceCtorEq,dt]) rfl rfl (by rcases y with ⟨z,rfl,_⟩ | ⟨K,z,L,rfl,_⟩<;>simp[Value.oneCell']) λq r s t u=>?_;refine aO ?_;rw[(Ca a).1];exact cd
end Go.Proofs.R