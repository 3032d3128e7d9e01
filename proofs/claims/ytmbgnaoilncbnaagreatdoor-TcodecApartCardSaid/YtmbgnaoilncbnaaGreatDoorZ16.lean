/- Part of a proof: see Root. -/
import Derived.Test.YtmbgnaoilncbnaaGreatDoorZ15
import Derived.KernelRfl
set_option linter.unnecessarySimpa false
set_option linter.unusedSimpArgs false
set_option linter.unusedVariables false
namespace Go.Proofs.YtmbgnaoilncbnaaGreatDoor
open Go.AM Go.AM.W
set_option maxRecDepth 10000
def cN: aI:=r [J [z0,z0,z0,e0,e0,.ae] 2]<|
 q (q (.draw [M 0 5,Z 5 6,A 2 6 7,K 7 8,M 8 9,MF 0 10 9,ZF 10 11 9,AF 1 11 12 9,KF 12 13 9,MF 0 14 9,ZF 14 15 9,AF 0 15 16 9,KF 16 17 9,NF 17 18 9,BF .geq 13 18 19 9,O 9 19 20] [])<|
 c 20 (r [M 0 21,Z 21 22,A 2 22 23,⟨.store 1 (t 23) (.c (.bool true)),none,none⟩]<|
 r [⟨.build [z0,z0,z0,e0,e0,.ae] [],(some 24),none⟩,W 6 2 24]<|
 .ret) k)<|
 q (.draw [M 0 25,Z 25 26,A 0 26 27,K 27 28,M 0 29,Z 29 30,A 1 30 31,K 31 32,I true 4 28 32 33,L 4 33 34,J [z0,e0,z0,z0] 3,W 4 3 34] [])<|
 r [⟨.build [z0,z0,z0,e0,e0,.ae] [(0,1,(.c (i6 1)))],(some 35),none⟩,J [z0,z0,z0,e0,e0,.ae] 4,W 6 4 35]<|
 q (.block 0 (r [A 0 3 41,K 41 42,D .eql 42 2 43,M 43 40]<|
 c 40 (R [A 2 3 44,K 44 45,⟨.build [z0,z0,e0] [(0,1,(.c (i6 1))),(1,1,(t 45))],(some 46),none⟩,A 1 4 47,W 3 47 46]) (r [A 0 3 49,K 49 50,D .eql 50 3 51,M 51 48]<|
 c 48 (R [A 1 3 52,K 52 53,⟨.build [z0,z0,e0] [(0,1,(.c (i6 2))),(2,1,(t 53))],(some 54),none⟩,A 1 4 55,W 3 55 54]) (r [M 0 57,⟨.call false (.c (.fn (.func dK) [] [])) [(t 57),(.c (i6 1)),(.c (.str [110,117,108,108]))],(some 58),none⟩,M 58 56]<|
 c 56 k (r [M 0 60,⟨.call false (.c (.fn (.func dK) [] [])) [(t 60),(.c (i6 1)),(.c (.str [116,114,117,101]))],(some 61),none⟩,M 61 59]<|
 c 59 (R [⟨.build [z0,z0,e0] [(0,1,(.c (i6 3))),(1,1,(.c (i6 1)))],(some 62),none⟩,A 1 4 63,W 3 63 62]) (r [M 0 65,⟨.call false (.c (.fn (.func dK) [] [])) [(t 65),(.c (i6 1)),(.c (.str [102,97,108,115,101]))],(some 66),none⟩,M 66 64]<|
 c 64 (R [⟨.build [z0,z0,e0] [(0,1,(.c (i6 3)))],(some 67),none⟩,A 1 4 68,W 3 68 67]) (r [A 0 3 70,K 70 71,D .eql 71 1 72,M 72 73,AT 1 3 74 73,KT 74 75 73,CT mO [t 75] 76 73,P 73 76 77,M 77 69]<|
 c 69 (R [A 1 3 78,K 78 79,⟨.build [z0,z0,z0,e0,e0,.ae] [(0,1,(.c (i6 2))),(4,1,(t 79))],(some 80),none⟩,W 6 4 80]) (r [M 0 82,⟨.call false (.c (.fn (.func dK) [] [])) [(t 82),(.c (i6 4)),(.c (.str [40]))],(some 83),none⟩,M 83 81]<|
 c 81 (r [M 0 84,Z 84 85,A 1 85 86,K 86 87,D .add 87 1 88,Z 84 89,A 1 89 90,W 1 90 88]<|
 r [M 0 91,⟨.call false (.c (.fn (.func bN) [] [])) [(t 91),(.c z0)],(some 92),none⟩,W 6 4 92]<|
 r [M 0 93,⟨.call false (.c (.fn (.func i_) [] [])) [(t 93),(.c (i6 4)),(.c (.str [41]))],(some 94),none⟩]<|
 r [L 6 4 95,W 6 2 95]<|
 .ret) (r [M 0 36,Z 36 37,A 2 37 38,⟨.store 1 (t 38) (.c (.bool true)),none,none⟩]<|
 r [⟨.build [z0,z0,z0,e0,e0,.ae] [],(some 39),none⟩,W 6 2 39]<|
 .ret)))))))))<|
 r [M 0 96,Z 96 97,A 1 97 98,K 98 99,D .add 99 1 100,Z 96 101,A 1 101 102,W 1 102 100]<|
 r [L 6 4 103,W 6 2 103]<|
 .ret
theorem cS: Of Tryz.prog kp 104 [.cell 2 true 6] cN:=aU {} Tryz.func250
def yp: aI:=r [V (.bool false) 6]<|
 q (.draw [M 0 7,Z 7 8,A 1 8 9,K 9 10,M 0 11,Z 11 12,A 0 12 13,K 13 14,N 14 15,B .lss 10 15 16,M 16 17,MT 0 18 17,ZT 18 19 17,AT 0 19 20 17,KT 20 21 17,MT 0 22 17,ZT 22 23 17,AT 1 23 24 17,KT 24 25 17,IT true 4 21 25 26 17,AT 0 26 27 17,KT 27 28 17,MT 1 29 17,BT .eql 28 29 30 17,P 17 30 31,M 31 32,MT 0 33 32,ZT 33 34 32,AT 0 34 35 32,KT 35 36 32,MT 0 37 32,ZT 37 38 32,AT 1 38 39 32,KT 39 40 32,IT true 4 36 40 41 32,AT 1 41 42 32,KT 42 43 32,MT 2 44 32,BT .eql 43 44 45 32,P 32 45 46,M 46 6] [])<|
 .ret
theorem G9: Of Tryz.prog dK 47 [.tmp 6] yp:=aU {} Tryz.func251
def oM: aI:= .block 0 (r [M 0 10,Z 10 11,A 2 11 12,K 12 13,M 13 9]<|
 c 9 k (r [M 0 15,M 1 16,M 2 17,C dK [t 15,t 16,t 17] 18,M 18 14]<|
 c 14 (R [M 0 19,Z 19 20,A 1 20 21,K 21 22,D .add 22 1 23,Z 19 24,A 1 24 25,W 1 25 23]) (R [M 0 6,Z 6 7,A 2 7 8,⟨.store 1 (t 8) (.c (.bool true)),none,none⟩])))
theorem uz: Of Tryz.prog i_ 26 [] oM:=aU {} Tryz.func252
def yq: aI:=r [V z0 4]<|
 q (r [V (i6 4) 5]<|
 .block 0 (.loop (q (r [M 5 7,D .leq 7 15 8]<|
 c 8 k (.exit 0))<|
 q (.block 1 (r [V (i6 4) 6]<|
 q (r [M 5 11,D .eql 11 14 12,M 12 13,MF 5 14 13,DF .eql 14 15 15 13,O 13 15 16]<|
 c 16 (R [V (i6 1) 6]) k)<|
 r [M 5 17,C sn [t 17] 18,M 1 19,B .eql 18 19 20,M 20 21,MT 0 22 21,MT 6 23 21,MT 5 24 21,CT pI [t 24] 25 21,CT dK [t 22,t 23,t 25] 26 21,P 21 26 27]<|
 c 27 (r [M 5 28,M 28 4]<|
 .ret) k))<|
 R [M 5 9,D .add 9 1 10,M 10 5])))<|
 r [V z0 4]<|
 .ret
theorem G_: Of Tryz.prog rj 29 [.tmp 4] yq:=aU {} Tryz.func253
def LS: aI:=r [V z0 4]<|
 q (r [M 0 5,D .eql 5 0 6]<|
 c 6 (r [M 1 7,M 7 4]<|
 .ret) k)<|
 r [M 0 8,M 8 4]<|
 .ret
theorem Tq: Of Tryz.prog yM 9 [.tmp 4] LS:=aU {} Tryz.func254
def LU: aI:=r [J [z0,e0,z0,z0,z0] 2,V z0 3]<|
 r [M 0 5,C yJ [t 5] 6,M 6 4]<|
 q (r [M 4 7,D .gtr 7 16 8]<|
 c 8 (r [⟨.build [z0,e0,z0,z0,z0] [],(some 9),none⟩,W 5 2 9,V (i6 5) 3]<|
 .ret) k)<|
 r [M 0 10,M 4 11,⟨.mK (t 10) none (some (t 11)),(some 12),none⟩,⟨.build [z0,e0,z0,z0] [(0,1,(.c (i6 1))),(1,1,(t 12))],(some 13),none⟩,M 4 14,⟨.build [z0,e0,z0,z0,z0] [(0,4,(t 13)),(4,1,(t 14))],(some 15),none⟩,W 5 2 15,V z0 3]<|
 .ret
theorem Tr: Of Tryz.prog DU 16 [.cell 2 true 5,.tmp 3] LU:=aU {} Tryz.func255
def He: aI:=r [J [z0,e0,z0,z0,z0] 2,V z0 3]<|
 r [M 0 8,⟨.call false (.c (.fn (.func wV) [] [])) [(t 8),(.c (.fn (.func ov) [] []))],(some 9),none⟩,M 9 4]<|
 q (r [M 4 10,D .gtr 10 1 11,M 11 12,MT 0 13 12,⟨.eJ (t 13) (.c z0),(some 14),some (12,true)⟩,⟨.bin .eql (t 14) (.c (.int .u8 48)),(some 15),some (12,true)⟩,P 12 15 16]<|
 c 16 (r [⟨.build [z0,e0,z0,z0,z0] [],(some 17),none⟩,W 5 2 17,V (i6 11) 3]<|
 .ret) k)<|
 r [V z0 5]<|
 q (r [M 4 18,V z0 19]<|
 .block 0 (.loop (r [B .lss 19 18 20]<|
 q (c 20 k (.exit 0))<|
 q (.block 1 (r [M 19 21,M 21 6]<|
 r [M 0 22,M 6 23,⟨.eJ (t 22) (t 23),(some 24),none⟩,⟨.bin .sub (t 24) (.c (.int .u8 48)),(some 25),none⟩,⟨.gW .i64 (t 25),(some 26),none⟩,M 26 7]<|
 q (r [M 5 27,M 7 28,⟨.bin .sub (.c (i6 9223372036854775807)) (t 28),(some 29),none⟩,D .quo 29 10 30,B .gtr 27 30 31]<|
 c 31 (r [⟨.build [z0,e0,z0,z0,z0] [],(some 32),none⟩,W 5 2 32,V (i6 15) 3]<|
 .ret) k)<|
 R [M 5 33,D .mul 33 10 34,M 7 35,B .add 34 35 36,M 36 5]))<|
 R [D .add 19 1 37,M 37 19])))<|
 r [M 5 38,⟨.build [z0,e0,z0,z0] [(0,1,(.c (i6 2))),(2,1,(t 38))],(some 39),none⟩,M 4 40,⟨.build [z0,e0,z0,z0,z0] [(0,4,(t 39)),(4,1,(t 40))],(some 41),none⟩,W 5 2 41,V z0 3]<|
 .ret
theorem Ql: Of Tryz.prog zW 42 [.cell 2 true 5,.tmp 3] He:=aU {} Tryz.func256
def LV: aI:=r [J [z0,e0,z0,z0,z0] 2,V z0 3]<|
 r [⟨.iB ⟨false,1⟩,(some 4),none⟩]<|
 q (r [V (i6 1) 5]<|
 .block 0 (.loop (q (r [M 5 7,M 0 8,S 8 9,B .lss 7 9 10]<|
 c 10 k (.exit 0))<|
 q (.block 1 (r [M 0 13,M 5 14,⟨.eJ (t 13) (t 14),(some 15),none⟩,M 15 6]<|
 q (.block 2 (r [M 6 17,⟨.bin .eql (t 17) (.c (.int .u8 34)),(some 18),none⟩,M 18 19,MT 4 20 19,NT 20 21 19,DT .gtr 21 40 22 19,P 19 22 23,M 23 16]<|
 c 16 (r [⟨.build [z0,e0,z0,z0,z0] [],(some 24),none⟩,W 5 2 24,V (i6 5) 3]<|
 .ret) (r [M 6 26,⟨.bin .eql (t 26) (.c (.int .u8 34)),(some 27),none⟩,M 27 25]<|
 c 25 (r [M 4 28,⟨.uV (t 28),(some 29),none⟩,⟨.build [z0,e0,z0,z0] [(0,1,(.c (i6 3))),(1,1,(t 29))],(some 30),none⟩,M 5 31,D .add 31 1 32,⟨.build [z0,e0,z0,z0,z0] [(0,4,(t 30)),(4,1,(t 32))],(some 33),none⟩,W 5 2 33,V z0 3]<|
 .ret) (r [M 6 35,⟨.bin .eql (t 35) (.c (.int .u8 92)),(some 36),none⟩,M 36 34]<|
 c 34 (r [M 5 37,D .add 37 1 38,M 38 5]<|
 r [M 5 39,M 0 40,S 40 41,B .eql 39 41 42,M 42 43,MF 0 44 43,MF 5 45 43,⟨.eJ (t 44) (t 45),(some 46),some (43,false)⟩,⟨.bin .neq (t 46) (.c (.int .u8 34)),(some 47),some (43,false)⟩,MF 47 48 43,MT 0 49 48,MT 5 50 48,⟨.eJ (t 49) (t 50),(some 51),some (48,true)⟩,⟨.bin .neq (t 51) (.c (.int .u8 92)),(some 52),some (48,true)⟩,PF 48 52 53 43,O 43 53 54]<|
 c 54 (r [⟨.build [z0,e0,z0,z0,z0] [],(some 55),none⟩,W 5 2 55,V (i6 11) 3]<|
 .ret) k) (r [M 6 57,⟨.bin .lss (t 57) (.c (.int .u8 32)),(some 58),none⟩,M 58 59,MF 6 60 59,⟨.bin .gtr (t 60) (.c (.int .u8 126)),(some 61),some (59,false)⟩,O 59 61 62,M 62 56]<|
 c 56 (r [⟨.build [z0,e0,z0,z0,z0] [],(some 63),none⟩,W 5 2 63,V (i6 11) 3]<|
 .ret) k)))))<|
 R [M 4 64,M 0 65,M 5 66,⟨.eJ (t 65) (t 66),(some 67),none⟩,⟨.bD false ⟨false,1⟩ (.int .u8 0) 1 [(0,(t 67))],(some 68),none⟩,⟨.app none ⟨false,1⟩ (t 64) (t 68),(some 69),none⟩,M 69 4]))<|
 R [M 5 11,D .add 11 1 12,M 12 5])))<|
 r [⟨.build [z0,e0,z0,z0,z0] [],(some 70),none⟩,W 5 2 70,V (i6 11) 3]<|
 .ret
theorem Ts: Of Tryz.prog DV 71 [.cell 2 true 5,.tmp 3] LV:=aU ⟨[],[],[(4,⟨false,1⟩)],[],[],[]⟩ Tryz.func257
def D6: aI:=r [X 0 1,J [z0,e0,z0,z0,z0] 2,V z0 3]<|
 r [C BX [] 6,M 6 4]<|
 r [M 4 7,⟨.vy (.func uf) [] [(t 1)],(some 8),none⟩,C kr [t 7,t 8] 9,M 9 5]<|
 q (r [M 5 10,D .lss 10 0 11]<|
 c 11 (r [⟨.build [z0,e0,z0,z0,z0] [],(some 12),none⟩,W 5 2 12,V (i6 11) 3]<|
 .ret) k)<|
 q (.draw [M 4 13,M 5 14,I false 1 13 14 15,K 15 16,⟨.build [z0,e0,z0,z0] [(0,1,(.c (i6 4))),(1,1,(t 16))],(some 17),none⟩,M 4 18,M 5 19,I false 1 18 19 20,K 20 21,S 21 22,⟨.build [z0,e0,z0,z0,z0] [(0,4,(t 17)),(4,1,(t 22))],(some 23),none⟩,W 5 2 23,V z0 3] [])<|
 .ret
theorem Jp: Of Tryz.prog DW 24 [.cell 2 true 5,.tmp 3] D6:=aU {} Tryz.func258
def pR: aI:=r [J [z0,z0,z0,e0,e0,.ae] 2]<|
 q (r [M 0 6,Z 6 7,A 2 7 8,K 8 9]<|
 c 9 (r [⟨.build [z0,z0,z0,e0,e0,.ae] [],(some 10),none⟩,W 6 2 10]<|
 .ret) k)<|
 q (.draw [M 0 12,Z 12 13,A 0 13 14,A 0 14 15,K 15 16,M 0 17,Z 17 18,A 0 18 19,A 1 19 20,K 20 21,⟨.call true (.c (.fn (.func sr) [] [])) [(t 16),(t 21),(.c (i6 4))],(some 22),none⟩,M 22 11,E 11 0 23,E 11 1 24,E 11 2 25,J [z0,z0,z0,e0,e0,.ae] 3,W 6 3 23,M 24 4,M 25 5] [])<|
 r [M 0 26,M 0 27,M 4 28,M 5 29,D .neq 29 0 30,Z 26 31,A 0 31 32,A 1 32 33,W 1 33 28,Z 27 34,A 2 34 35,W 1 35 30]<|
 r [L 6 3 36,W 6 2 36]<|
 .ret
theorem vm: Of Tryz.prog ie 37 [.cell 2 true 6] pR:=aU {} Tryz.func259
def w_: aI:=r [V (.bool false) 6]<|
 r [M 0 8,C lp [t 8] 9,J [z0,e0,z0,z0] 7,W 4 7 9]<|
 q (r [A 0 7 10,K 10 11,M 1 12,B .neq 11 12 13,M 13 14,AF 1 7 15 14,KF 15 16 14,MF 2 17 14,BF .neq 16 17 18 14,O 14 18 19]<|
 c 19 (r [V (.bool false) 6]<|
 .ret) k)<|
 r [M 0 20,Z 20 21,A 1 21 22,K 22 23,D .add 23 1 24,Z 20 25,A 1 25 26,W 1 26 24]<|
 r [V (.bool true) 6]<|
 .ret
theorem F0: Of Tryz.prog fo 27 [.tmp 6] w_:=aU {} Tryz.func260
def rL: aI:=r [J [z0,z0,z0,e0,e0,.ae] 2]<|
 r [M 0 5,⟨.call false (.c (.fn (.func bO) [] [])) [(t 5),(.c z0)],(some 6),none⟩,J [z0,z0,z0,e0,e0,.ae] 3,W 6 3 6]<|
 r [M 0 7,⟨.call false (.c (.fn (.func iH) [] [])) [(t 7),(.c (i6 1)),(.c (.str [116,104,101,110]))],(some 8),none⟩]<|
 r [M 0 9,⟨.call false (.c (.fn (.func bO) [] [])) [(t 9),(.c z0)],(some 10),none⟩,J [z0,z0,z0,e0,e0,.ae] 4,W 6 4 10]<|
 r [M 0 11,⟨.call false (.c (.fn (.func iH) [] [])) [(t 11),(.c (i6 1)),(.c (.str [101,108,115,101]))],(some 12),none⟩]<|
 q (.draw [L 6 3 13,L 6 4 14,M 0 15,⟨.j9 (.c (.fn (.func bO) [] [])) [(t 15),(.c z0)],(some 16),none⟩,⟨.bD false ⟨true,6⟩ (.agg [z0,z0,z0,e0,e0,.ae]) 3 [(0,(t 13)),(1,(t 14)),(2,(t 16))],(some 17),none⟩,⟨.build [z0,z0,z0,e0,e0,.ae] [(0,1,(.c (i6 16))),(5,1,(t 17))],(some 18),none⟩,W 6 2 18] [((t 3),(t 15)),((t 4),(t 15))])<|
 .ret
theorem AY: Of Tryz.prog mu 19 [.cell 2 true 6] rL:=aU ⟨[],[],[],[],[16],[]⟩ Tryz.func261
def ew: aI:=r [J [z0,z0,z0,e0,e0,.ae] 2]<|
 q (r [M 0 8,⟨.call false (.c (.fn (.func fo) [] [])) [(t 8),(.c (i6 4)),(.c (.str [40]))],(some 9),none⟩]<|
 c 9 (r [M 0 10,⟨.call false (.c (.fn (.func bO) [] [])) [(t 10),(.c z0)],(some 11),none⟩,J [z0,z0,z0,e0,e0,.ae] 3,W 6 3 11]<|
 r [M 0 12,⟨.call false (.c (.fn (.func iH) [] [])) [(t 12),(.c (i6 4)),(.c (.str [41]))],(some 13),none⟩]<|
 r [L 6 3 14,W 6 2 14]<|
 .ret) k)<|
 r [M 0 15,C lp [t 15] 16,J [z0,e0,z0,z0] 4,W 4 4 16]<|
 r [⟨.build [z0,z0,z0,e0,e0,.ae] [(0,1,(.c (i6 1)))],(some 17),none⟩,J [z0,z0,z0,e0,e0,.ae] 5,W 6 5 17]<|
 q (r [A 0 4 18,K 18 19]<|
 .block 0 (r [D .eql 19 2 25,M 25 24]<|
 c 24 (R [A 2 4 26,K 26 27,⟨.build [z0,z0,e0] [(0,1,(.c (i6 1))),(1,1,(t 27))],(some 28),none⟩,A 1 5 29,W 3 29 28]) (r [D .eql 19 3 31,M 31 30]<|
 c 30 (R [A 1 4 32,K 32 33,⟨.build [z0,z0,e0] [(0,1,(.c (i6 2))),(2,1,(t 33))],(some 34),none⟩,A 1 5 35,W 3 35 34]) (r [D .eql 19 1 37,M 37 36]<|
 c 36 (r [A 1 4 39,K 39 40,C xU [t 40] 41,M 41 38,E 38 0 42,E 38 1 43,J [z0,z0,e0] 6,W 3 6 42,M 43 7]<|
 q (r [M 7 44,U 44 45,M 45 46,AT 1 4 47 46,KT 47 48 46,CT qB [t 48] 49 46,UT 49 50 46,P 46 50 51]<|
 c 51 (r [M 0 52,Z 52 53,A 2 53 54,⟨.store 1 (t 54) (.c (.bool true)),none,none⟩]<|
 r [⟨.build [z0,z0,z0,e0,e0,.ae] [],(some 55),none⟩,W 6 2 55]<|
 .ret) k)<|
 r [L 3 6 56,A 1 5 57,W 3 57 56]<|
 r [M 7 58,U 58 59]<|
 c 59 (R [A 1 4 60,K 60 61,⟨.build [z0,z0,z0,e0,e0,.ae] [(0,1,(.c (i6 2))),(4,1,(t 61))],(some 62),none⟩,W 6 5 62]) k) (r [M 0 20,Z 20 21,A 2 21 22,⟨.store 1 (t 22) (.c (.bool true)),none,none⟩]<|
 r [⟨.build [z0,z0,z0,e0,e0,.ae] [],(some 23),none⟩,W 6 2 23]<|
 .ret)))))<|
 r [M 0 63,Z 63 64,A 1 64 65,K 65 66,D .add 66 1 67,Z 63 68,A 1 68 69,W 1 69 67]<|
 r [L 6 5 70,W 6 2 70]<|
 .ret
theorem eZ: Of Tryz.prog nK 71 [.cell 2 true 6] ew:=aU {} Tryz.func262
def rM: aI:=r [V z0 4]<|
 q (r [C mG [] 8,N 8 9,V z0 10]<|
 .block 0 (.loop (r [B .lss 10 9 11]<|
 q (c 11 k (.exit 0))<|
 q (.block 1 (r [I true 3 8 10 12,L 3 12 13,J [z0,e0,z0] 6,W 3 6 13]<|
 r [V (i6 4) 7]<|
 q (r [A 2 6 14,K 14 15,D .lss 15 3 16]<|
 c 16 (R [V (i6 1) 7]) k)<|
 r [A 2 6 17,K 17 18,M 1 19,B .eql 18 19 20,M 20 21,MT 0 22 21,MT 7 23 21,AT 1 6 24 21,KT 24 25 21,CT fo [t 22,t 23,t 25] 26 21,P 21 26 27]<|
 c 27 (r [A 0 6 28,K 28 29,M 29 4]<|
 .ret) k))<|
 R [D .add 10 1 30,M 30 10])))<|
 r [V z0 4]<|
 .ret
theorem AZ: Of Tryz.prog js 31 [.tmp 4] rM:=aU {} Tryz.func263
def Hf: aI:=r [V (.bool false) 4]<|
 q (r [M 1 7,N 7 8,V z0 9]<|
 .block 0 (.loop (r [B .lss 9 8 10]<|
 q (c 10 k (.exit 0))<|
 q (.block 1 (r [I false 1 7 9 11,K 11 12,M 12 6]<|
 r [M 6 13,M 0 14,C gS [t 13,t 14] 15,U 15 16]<|
 c 16 (r [V (.bool false) 4]<|
 .ret) k))<|
 R [D .add 9 1 17,M 17 9])))<|
 r [V (.bool true) 4]<|
 .ret
theorem Qm: Of Tryz.prog pM 18 [.tmp 4] Hf:=aU {} Tryz.func264
def uA: aI:=r [V z0 4]<|
 r [V z0 5]<|
 q (r [M 0 6,M 5 7,B .neq 6 7 8]<|
 c 8 (r [M 0 9,M 9 4]<|
 .ret) k)<|
 r [M 1 10,M 10 4]<|
 .ret
theorem C9: Of Tryz.prog kq 11 [.tmp 4] uA:=aU {} Tryz.func265
def rN: aI:=r [V (.bool false) 4]<|
 r [M 0 5,M 1 6,C oH [t 5,t 6] 7,D .geq 7 0 8,M 8 4]<|
 .ret
theorem A2: Of Tryz.prog mw 9 [.tmp 4] rN:=aU {} Tryz.func266
def Jq: aI:=r [V .ae 0]<|
 r [⟨.bD false ⟨false,1⟩ e0 16 [(0,(.c (.str [46,46]))),(1,(.c (.str [33,61]))),(2,(.c (.str [60,61]))),(3,(.c (.str [62,61]))),(4,(.c (.str [40]))),(5,(.c (.str [41]))),(6,(.c (.str [91]))),(7,(.c (.str [93]))),(8,(.c (.str [44]))),(9,(.c (.str [43]))),(10,(.c (.str [45]))),(11,(.c (.str [42]))),(12,(.c (.str [47]))),(13,(.c (.str [61]))),(14,(.c (.str [60]))),(15,(.c (.str [62])))],(some 1),none⟩,M 1 0]<|
 .ret
theorem RA: Of Tryz.prog BX 2 [.tmp 0] Jq:=aU {} Tryz.func272
def oY: aI:=r [V z0 4]<|
 q (r [M 0 6,N 6 7,V z0 8]<|
 .block 0 (.loop (r [B .lss 8 7 9]<|
 q (c 9 k (.exit 0))<|
 q (.block 1 (r [M 8 10,M 10 5]<|
 r [M 1 11,M 0 12,M 5 13,I false 1 12 13 14,K 14 15,⟨.call false (t 11) [(t 15)],(some 16),none⟩]<|
 c 16 (r [M 5 17,M 17 4]<|
 .ret) k))<|
 R [D .add 8 1 18,M 18 8])))<|
 r [V (i6 (-1)) 4]<|
 .ret
theorem ye: Of Tryz.prog kr 19 [.tmp 4] oY:=aU {} Tryz.func273
def Hg: aI:=r [V (.bool false) 3]<|
 r [K 1 4,M 0 5,C oG [t 4,t 5] 6,M 6 3]<|
 .ret
theorem Qn: Of Tryz.prog uf 7 [.tmp 3] Hg:=aU {} Tryz.func274
def vo: aI:=r [V (.bool false) 4]<|
 r [M 0 5,M 1 6,C gX [t 5,t 6] 7,M 7 4]<|
 .ret
theorem D7: Of Tryz.prog oG 8 [.tmp 4] vo:=aU {} Tryz.func275
def vp: aI:=r [J [z0,e0,z0,z0] 2]<|
 q (q (.draw [M 0 3,Z 3 4,A 2 4 5,K 5 6,M 6 7,MF 0 8 7,ZF 8 9 7,AF 1 9 10 7,KF 10 11 7,MF 0 12 7,ZF 12 13 7,AF 0 13 14 7,KF 14 15 7,NF 15 16 7,BF .geq 11 16 17 7,O 7 17 18] [])<|
 c 18 (r [⟨.build [z0,e0,z0,z0] [],(some 19),none⟩,W 4 2 19]<|
 .ret) k)<|
 q (.draw [M 0 20,Z 20 21,A 0 21 22,K 22 23,M 0 24,Z 24 25,A 1 25 26,K 26 27,I true 4 23 27 28,L 4 28 29,W 4 2 29] [])<|
 .ret
theorem D8: Of Tryz.prog lp 30 [.cell 2 true 4] vp:=aU {} Tryz.func276
def uB: aI:=r [M 0 6,M 1 7,M 2 8,C fo [t 6,t 7,t 8] 9,U 9 10]<|
 c 10 (R [M 0 11,Z 11 12,A 2 12 13,⟨.store 1 (t 13) (.c (.bool true)),none,none⟩]) k
theorem C_: Of Tryz.prog iH 14 [] uB:=aU {} Tryz.func277
def FC: aI:=r [J [z0,z0,e0] 2,V (.bool false) 3]<|
 q (r [M 0 4]<|
 .block 0 (r [⟨.bin .eql (t 4) (.c (.str [110,117,108,108])),(some 6),none⟩,M 6 5]<|
 c 5 (r [⟨.build [z0,z0,e0] [],(some 7),none⟩,W 3 2 7,V (.bool true) 3]<|
 .ret) (r [⟨.bin .eql (t 4) (.c (.str [102,97,108,115,101])),(some 9),none⟩,M 9 8]<|
 c 8 (r [⟨.build [z0,z0,e0] [(0,1,(.c (i6 3)))],(some 10),none⟩,W 3 2 10,V (.bool true) 3]<|
 .ret) (r [⟨.bin .eql (t 4) (.c (.str [116,114,117,101])),(some 12),none⟩,M 12 11]<|
 c 11 (r [⟨.build [z0,z0,e0] [(0,1,(.c (i6 3))),(1,1,(.c (i6 1)))],(some 13),none⟩,W 3 2 13,V (.bool true) 3]<|
 .ret) k))))<|
 r [⟨.build [z0,z0,e0] [],(some 14),none⟩,W 3 2 14,V (.bool false) 3]<|
 .ret
theorem NY: Of Tryz.prog xU 15 [.cell 2 true 3,.tmp 3] FC:=aU {} Tryz.func278
def vq: aI:=r [V z0 4]<|
 q (r [M 0 6,N 6 7,V z0 8]<|
 .block 0 (.loop (r [B .lss 8 7 9]<|
 q (c 9 k (.exit 0))<|
 q (.block 1 (r [M 8 10,M 10 5]<|
 r [M 1 11,M 0 12,M 5 13,I false 1 12 13 14,K 14 15,B .eql 11 15 16]<|
 c 16 (r [M 5 17,M 17 4]<|
 .ret) k))<|
 R [D .add 8 1 18,M 18 8])))<|
 r [V (i6 (-1)) 4]<|
 .ret
theorem D9: Of Tryz.prog oH 19 [.tmp 4] vq:=aU {} Tryz.func279
def kU: aI:=r [V (.bool false) 4]<|
 r [M 0 5,S 5 6,M 1 7,S 7 8,B .geq 6 8 9,M 9 10,MT 0 11 10,MT 1 12 10,ST 12 13 10,⟨.mK (t 11) none (some (t 13)),(some 14),some (10,true)⟩,MT 1 15 10,BT .eql 14 15 16 10,P 10 16 17,M 17 4]<|
 .ret
theorem rO: Of Tryz.prog gX 18 [.tmp 4] kU:=aU {} Tryz.func285
end Go.Proofs.YtmbgnaoilncbnaaGreatDoor
namespace Go.AM
variable {P:Program}
theorem aZ{p:Prop}(h:False:=by first|omega|(simp_all;done)|(simp_all;omega)): p:=h.elim
theorem at_{p:Prop}(h:p:=by simp (disch:=omega) only[cU,cE,and_true,go_sem,aj,au,ak,Nat.reduceAdd,Nat.reduceBEq,↓reduceIte,Int.natCast_add,Int.cast_ofNat_Int]<;>(try trivial)<;>(try omega)<;>(try (repeat (first|trivial|(refine And.intro ?_ ?_)|(congr 1;omega))))): p:=h
theorem bG{p:Prop}(h:p:=by repeat (first|exact aaw _ _ _|refine aax rfl ?_|refine YX rfl ?_|(simp only[Xn,YR]))): p:=h
theorem FD{p:Prop}(h:p:=by first|exact aQ.refl (by simp)|(repeat (first|exact aQ.nil _|refine aQ.cons ?_ ?_|exact View.ae _|exact View.refl _ (by simp)|exact View.weak _ _ _ (by simp)|exact View.cell _ _ rfl rfl (by simp)|refine View.fnL ?_ ?_|exact View.vec rfl (by simp) (by simp) (by simp)|refine View.abQ ?_|refine View.mq ?_))): p:=h
theorem bs_{K:AV→Prop}{xs:List AV}{m n:Nat}{s:List UInt8}(hk:K (.str s))(hx:xs=s.map fun b=>AV.int .u8 b.toNat)(hm:m=xs.length)(hn:n=xs.length): Vz (some (.vec ⟨false,1⟩ xs)) m 0 n (.mk:Tg K):=VB s hx hm hn hk
theorem aB{G K:Prop}(k:K) (h:K→G:=by
 first
 |(intro k;simp (disch:=omega) only[go_sem,aC,aD,aE,aj,au,ak,Nat.reduceAdd,Nat.reduceBEq,↓reduceIte];exact k)
 |(intro k;with_reducible refine aaf ?_ k;first|omega|(simp;done)|(simp;omega)|assumption)
 |(intro k;with_reducible exact YW k)
 |(intro k;with_reducible exact bs_ k rfl (by simp) (by simp))):G:=h k
theorem gn_{G K:Prop}(k:K) (h:K→G:=by
 first
 |(intro k;simp (disch:=omega) only[go_sem,aC,aD,aE,aj,au,ak,Nat.reduceAdd,Nat.reduceBEq,↓reduceIte];exact k)
 |(intro k;with_reducible refine aaf ?_ k;first|omega|(simp;done)|(simp;omega)|assumption)
 |(intro k;with_reducible exact bs_ k rfl (by simp) (by simp))):G:=h k
theorem cc_{t:Bool}{T E p q:Prop}(h:p→T)(h':q→E)(hp:(t=true)=p)(hq:(t=false)=q): DN (.bool t) (.mk:Tg (T,E)):=by
 subst hp hq;exact aau h h'
theorem gk_{t b:Bool}{T E U p q:Prop}(h:p→T)(h':q→E)(hp:(t=b)=p)(hq:(t = !b)=q): lW (.bool t) b (.mk:Tg (T,E,U)):=by
 subst hp hq;exact YM h h'
theorem aA{p q T E G:Prop}(h:p→T)(h':q→E) (hg:(p→T)→(q→E)→G:=by
 intro h h'
 with_reducible first|refine cc_ h h' ?_ ?_|refine gk_ h h' ?_ ?_
 all_goals
  (try simp only[decide_eq_true_eq,decide_eq_false_iff_not,beq_iff_eq,beq_eq_false_iff_ne,Bool.not_eq_true',Bool.not_eq_false',Bool.not_true,Bool.not_false,Int.not_lt,Int.not_le,ne_eq,Int.ofNat_lt,Int.ofNat_le,not_true_eq_false,reduceCtorEq,Int.toNat_zero])
  exact rfl):G:=hg h h'
theorem aF{n:FuncId}{args:List AV}{r:AV}{K G:Prop}(h:aq P n args r)(k:K) (hg:aq P n args r→K→G:=by
 intro h k;with_reducible first|exact CA h k|exact CB h k):G:=hg h k
theorem OY{n:FuncId}{args:List AV}{r:AV}{K G:Prop}(h:aq P n args r)(k:K) (hg:aq P n args r→K→G:=by
 intro h k;with_reducible first|refine aay h ?_ k|refine aaz h ?_ k
 exact FD):G:=hg h k
theorem RB{n:FuncId}{args:List AV}{r:AV}{K G:Prop}(h:aq P n args r)(k:K) (hg:aq P n args r→K→G:=by
 intro h k;with_reducible first|refine sX h ?_ ?_ k|refine aaA h ?_ ?_ k
 ·exact FD
 ·simp[AV.flat,AV.Iy]):G:=hg h k
theorem aS{f:FuncId}{off:Nat}{args cs ds:List AV}{r:AV}{K G:Prop}(h:aV P f off args cs ds r)(k:K) (hg:aV P f off args cs ds r→K→G:=by
 intro h k;with_reducible first|exact Nu h rfl k|exact vC h rfl k|exact Nv h rfl k):G:=hg h k
end Go.AM
namespace Go.Proofs.YtmbgnaoilncbnaaGreatDoor
open Go.AM
abbrev aH:=List UInt8
structure dy where
 kind:Int
 n:Int
 s:aH
deriving DecidableEq,Inhabited
structure Tok where
 kind:Int
 s:aH
 n:Int
 pos:Int
deriving DecidableEq,Inhabited
inductive Expr where
 | mk (op:Int) (v:dy) (s:aH) (l:List Expr)
instance:Inhabited Expr:=⟨.mk 0 ⟨0,0,[]⟩ [] []⟩
def Expr.op: Expr→Int | .mk op _ _ _=>op
def Expr.v: Expr→dy | .mk _ v _ _=>v
def Expr.s: Expr→aH | .mk _ _ s _=>s
def Expr.l: Expr→List Expr | .mk _ _ _ l=>l
structure Test where
 kind:Int
 a:Expr
 b:Expr
 lo:Bool
 hi:Bool
deriving Inhabited
structure Cell where
 any:Bool
 neg:Bool
 tests:List Test
deriving Inhabited
structure bV where
 name:aH
 kind:Int
 order:List dy
deriving Inhabited
structure cK where
 cells:List aH
 outs:List aH
deriving Inhabited
structure Table where
 name:aH
 ins:List bV
 outs:List bV
 bl:Int
 agg:Int
 rules:List cK
deriving Inhabited
structure gY where
 cells:List Cell
 outs:List Expr
deriving Inhabited
structure Ready where
 table:Table
 lines:List gY
deriving Inhabited
abbrev I(n:Int): AV:= .int .i64 n
abbrev E1: El:=⟨false,1⟩
abbrev EV: El:=⟨true,3⟩
abbrev ET: El:=⟨true,4⟩
abbrev EX: El:=⟨true,6⟩
abbrev ES: El:=⟨true,15⟩
abbrev EC: El:=⟨true,3⟩
abbrev ER: El:=⟨true,2⟩
def gO(v:dy): AV:= .agg [I v.kind,I v.n,.str v.s]
def j3(t:Tok): AV:= .agg [I t.kind,.str t.s,I t.n,I t.pos]
def cy(s:aH): AV:= .str s
def aJ: Expr→AV
 | .mk op v s l=> .agg [I op,I v.kind,I v.n,.str v.s,.str s,.aG false EX (l.map aJ)]
def bP(l:List Expr): AV:= .aG false EX (l.map aJ)
def bx(t:Test): AV:= .agg [I t.kind,I t.a.op,I t.a.v.kind,I t.a.v.n,.str t.a.v.s,.str t.a.s,bP t.a.l,I t.b.op,I t.b.v.kind,I t.b.v.n,.str t.b.v.s,.str t.b.s,bP t.b.l,.bool t.lo,.bool t.hi]
def dG(l:List Test): AV:= .aG false ES (l.map bx)
def br(c:Cell): AV:= .agg [.bool c.any,.bool c.neg,dG c.tests]
def dH(l:List dy): AV:= .aG false EV (l.map gO)
def oZ(l:List Tok): AV:= .aG false ET (l.map j3)
def dS(l:List aH): AV:= .aG false E1 (l.map cy)
def bp(c:bV): AV:= .agg [.str c.name,I c.kind,dH c.order]
def bq(l:List bV): AV:= .aG false EC (l.map bp)
def cj(r:cK): AV:= .agg [dS r.cells,dS r.outs]
def cQ(l:List cK): AV:= .aG false ER (l.map cj)
def dc(t:Table): List AV:=[.str t.name,bq t.ins,bq t.outs,I t.bl,I t.agg,cQ t.rules]
def bI(t:Table): AV:= .agg (dc t)
def n8(l:List Cell): AV:= .aG false EC (l.map br)
def ku(l:gY): AV:= .agg [n8 l.cells,bP l.outs]
def xd(l:List gY): AV:= .aG false ER (l.map ku)
def uC(r:Ready): AV:= .agg [.str r.table.name,bq r.table.ins,bq r.table.outs,I r.table.bl,I r.table.agg,cQ r.table.rules,xd r.lines]
theorem aN(x:Expr): aJ x = .agg [I x.op,I x.v.kind,I x.v.n,.str x.v.s,.str x.s,.aG false EX (x.l.map aJ)]:=by
 cases x;simp only[aJ];rfl
theorem Expr.eta(x:Expr): Expr.mk x.op ⟨x.v.kind,x.v.n,x.v.s⟩ x.s x.l=x:=by cases x;rfl
theorem Expr.ind{C:Expr→Prop}(h:∀ op v s l,(∀ y ∈ l,C y)→C (.mk op v s l)): ∀ x,C x
 | .mk op v s l=>h op v s l fun y _=>Expr.ind h y
attribute [go_sem] aN gO j3 bx br bp cj dc bI ku uC cy bP dG dH oZ dS bq cQ n8 xd
@[go_sem] theorem Expr.aai (op:Int) (v:dy) (s:aH) (l:List Expr):(Expr.mk op v s l).op=op:=_root_.id rfl
@[go_sem] theorem Expr.ack (op:Int) (v:dy) (s:aH) (l:List Expr):(Expr.mk op v s l).v=v:=_root_.id rfl
@[go_sem] theorem Expr.acm (op:Int) (v:dy) (s:aH) (l:List Expr):(Expr.mk op v s l).s=s:=_root_.id rfl
@[go_sem] theorem Expr.acn (op:Int) (v:dy) (s:aH) (l:List Expr):(Expr.mk op v s l).l=l:=_root_.id rfl
attribute [go_sem] Expr.eta
theorem Ki(v:dy): (gO v).cF=true:=rfl
theorem Kj(t:Tok): (j3 t).cF=true:=rfl
theorem cD(x:Expr): (aJ x).cF=true:=by
 induction x using Expr.ind with
 | h op v s l ih =>
   simp only[aJ,AV.cF,AV.bW,Bool.true_and,Bool.and_true]
   rw[pE];intro a ha
   obtain⟨y,hy,rfl⟩:=List.mem_map.1 ha
   exact ih y hy
theorem qK(l:List Expr): (bP l).cF=true:=by simp only[bP,AV.cF];exact fA _ _ cD
theorem Hh(t:Test): (bx t).cF=true:=by simp[bx,AV.cF,AV.bW,qK]
theorem yP(l:List Test): (dG l).cF=true:=by simp only[dG,AV.cF];exact fA _ _ Hh
theorem Bv(c:Cell): (br c).cF=true:=by simp[br,AV.cF,AV.bW,yP]
theorem OZ(l:List dy): (dH l).cF=true:=by simp only[dH,AV.cF];exact fA _ _ Ki
theorem Xs(l:List Tok): (oZ l).cF=true:=by simp only[oZ,AV.cF];exact fA _ _ Kj
theorem Hi(l:List aH): (dS l).cF=true:=by simp only[dS,AV.cF];exact fA _ _ (fun _=>rfl)
theorem Au(c:bV): (bp c).cF=true:=by simp[bp,AV.cF,AV.bW,OZ]
theorem dh(l:List bV): (bq l).cF=true:=by simp only[bq,AV.cF];exact fA _ _ Au
theorem Hj(r:cK): (cj r).cF=true:=by simp[cj,AV.cF,AV.bW,Hi]
theorem l8(l:List cK): (cQ l).cF=true:=by simp only[cQ,AV.cF];exact fA _ _ Hj
theorem VH(t:Table): (bI t).cF=true:=by simp[bI,dc,AV.cF,AV.bW,dh,l8]
theorem LW(l:List Cell): (n8 l).cF=true:=by simp only[n8,AV.cF];exact fA _ _ Bv
theorem Hl(l:gY): (ku l).cF=true:=by simp[ku,AV.cF,AV.bW,LW,qK]
theorem LX(l:List gY): (xd l).cF=true:=by simp only[xd,AV.cF];exact fA _ _ Hl
theorem VI(r:Ready): (uC r).cF=true:=by simp[uC,AV.cF,AV.bW,dh,l8,LX]
theorem xe(l:List Expr): AV.bW (l.map aJ)=true:=fA _ _ cD
theorem RC(l:List dy): AV.bW (l.map gO)=true:=fA _ _ Ki
theorem LY(l:List Tok): AV.bW (l.map j3)=true:=fA _ _ Kj
theorem LZ(l:List aH): AV.bW (l.map cy)=true:=fA _ _ (fun _=>rfl)
theorem O0(l:List Test): AV.bW (l.map bx)=true:=fA _ _ Hh
theorem fL(l:List Cell): AV.bW (l.map br)=true:=fA _ _ Bv
theorem RE(l:List bV): AV.bW (l.map bp)=true:=fA _ _ Au
theorem O1(l:List cK): AV.bW (l.map cj)=true:=fA _ _ Hj
theorem Ho(l:List gY): AV.bW (l.map ku)=true:=fA _ _ Hl
attribute [simp] AV.cF AV.bW Ki Kj cD qK Hh yP Bv OZ Xs Hi Au dh Hj l8 VH LW Hl LX VI xe RC LY LZ O0 fL RE O1 Ho
theorem aY{α : Type}[Inhabited α]{l:List α}{i:Nat}(h:i<l.length): l.getD i default ∈ l:=by
 rw[List.getD_eq_getElem?_getD,List.getElem?_eq_getElem h];exact List.getElem_mem h
def ig(c:UInt8): Bool:=decide (32≤c.toNat) && decide (c.toNat≤126)
def gJ(c:UInt8): Bool:=(decide (97≤c.toNat) && decide (c.toNat≤122)) ||(decide (65≤c.toNat) && decide (c.toNat≤90)) || decide (c.toNat=95)
def cw(c:UInt8): Bool:=decide (48≤c.toNat) && decide (c.toNat≤57)
def l9(c:UInt8): Bool:=gJ c || cw c
def ij(s:aH): Bool:=decide (s.length≤40) && s.all ig
def bS(v:dy): Bool :=
 if v.kind=0 then decide (v.n=0) && decide (v.s=[])
 else if v.kind=1 then decide (v.s=[])
 else if v.kind=2 then decide (v.n=0) && ij v.s
 else if v.kind=3 then decide (v.s=[]) && (decide (v.n=0) || decide (v.n=1))
 else false
end Go.Proofs.YtmbgnaoilncbnaaGreatDoor
namespace Go.Proofs.YtmbgnaoilncbnaaGreatDoor
open Go.AM
def gx(s:aH): Nat:=match s with
 | []=>0
 | c::_=>if gJ c then(s.takeWhile l9).length else 0
structure PR where
 kind:Int
 s:aH
 n:Int
 len:Nat
 e:Int
deriving Inhabited,DecidableEq
def Uy(p:PR): AV:= .bJ [.agg [I p.kind,.str p.s,I p.n,I 0,I p.len],I p.e]
def Xt(p:PR): AV:= .bJ [.agg [I p.kind,.str p.s,I p.n,I 0],I p.len,I p.e]
attribute [go_sem] Uy Xt
def PR.err(e:Int): PR:=⟨0,[],0,0,e⟩
def yQ(s:aH): PR:=if 16<gx s then .err 5 else⟨1,s.take (gx s),0,gx s,0⟩
def mz: aH→Int→Option Int
 | [],v=>some v
 | c::r,v=>if v>(9223372036854775807-((c.toNat:Int)-48)) / 10 then none else mz r (v*10+((c.toNat:Int)-48))
def kN(s:aH): PR :=
 let n:=(s.takeWhile cw).length
 if 1<n∧(s.getD 0 0).toNat=48 then .err 11
 else match mz (s.takeWhile cw) 0 with
  | none=> .err 15
  | some v=>⟨2,[],v,n,0⟩
def gT: aH→aH→Nat→PR
 | [],_,_=> .err 11
 | c :: r, b, i =>
   if c.toNat=34 then(if 40<b.length then .err 5 else⟨3,b,0,i+1,0⟩)
   else if c.toNat=92 then
    match r with
    | []=> .err 11
    | d::r'=>if d.toNat=34∨d.toNat=92 then gT r' (b++[d]) (i+2)else .err 11
   else if ig c then gT r (b++[c]) (i+1)else .err 11
theorem dn(c:UInt8)(r b:aH)(i:Nat): gT (c::r) b i =
 if c.toNat=34 then(if 40<b.length then .err 5 else⟨3,b,0,i+1,0⟩)
 else if c.toNat=92 then
  match r with
  | []=> .err 11
  | d::r'=>if d.toNat=34∨d.toNat=92 then gT r' (b++[d]) (i+2)else .err 11
 else if ig c then gT r (b++[c]) (i+1)else .err 11:=by
 rw[gT.eq_def];rfl
def l_: List aH:=[[46,46],[33,61],[60,61],[62,61],[40],[41],[91],[93],[44],[43],[45],[42],[47],[61],[60],[62]]
def o8(s:aH): PR:=match l_.find? (fun m=>m.isPrefixOf s)with
 | some m=>⟨4,m,0,m.length,0⟩
 | none=> .err 11
def ey(s:aH): PR :=
 let c:=s.getD 0 0
 if gJ c then yQ s else if cw c then kN s else if c.toNat=34 then gT (s.drop 1) [] 1 else o8 s
def oN: Nat→aH→Nat→List Tok→List Tok × Int × Int
 | 0,_,_,acc=>(acc,0,0)
 | _+1,[],_,acc=>(acc,0,0)
 | f + 1, c :: r, pos, acc =>
   if c.toNat=32 then oN f r (pos+1) acc
   else if(ey (c::r)).e=0 then oN f ((c::r).drop (ey (c::r)).len) (pos+(ey (c::r)).len) (acc++[⟨(ey (c::r)).kind,(ey (c::r)).s,(ey (c::r)).n,pos⟩])
   else([],pos,(ey (c::r)).e)
def bf(s:aH): List Tok × Int × Int:=if 200<s.length then([],0,5)else oN (s.length+1) s 0 []
def pS: List aH:=[[97,110,100],[111,114],[110,111,116],[105,102],[116,104,101,110],[101,108,115,101],[116,114,117,101],[102,97,108,115,101],[110,117,108,108]]
def pT(s:aH): Bool:=pS.contains s
def eK(s:aH): Bool:=decide (s≠[]) && decide (gx s=s.length) && decide (s.length≤16) && !pT s
theorem uD{p:UInt8→Bool}(s:aH): (s.takeWhile p).length≤s.length:=by
 induction s with
 | nil=>simp
 | cons c s ih=>simp only[List.takeWhile_cons];split<;>simp;omega
theorem Kk(s:aH): gx s≤s.length:=by
 unfold gx;split
 ·simp
 ·split
  ·exact uD _
  ·simp
theorem Xu{s:aH}(h:gJ (s.getD 0 0)=true)(hs:s≠[]): 1≤gx s:=by
 cases s with
 | nil=>exact absurd rfl hs
 | cons c r =>
   simp only[List.getD_cons_zero]at h
   simp only[gx,h,if_true,List.takeWhile_cons,l9,Bool.true_or]
   simp
theorem Xv(r b:aH)(i:Nat): (gT r b i).e=0→i+1≤(gT r b i).len∧(gT r b i).len≤i+r.length:=by
 fun_induction gT r b i<;>simp_all[PR.err]<;>omega
theorem Tt{s:aH}(h:(kN s).e=0): (kN s).len=(s.takeWhile cw).length:=by
 unfold kN at *
 simp only at *
 split at h
 ·simp[PR.err]at h
 ·rename_i h1
  rw[if_neg h1]
  split at h
  ·simp[PR.err]at h
  ·rfl
theorem Xw{s:aH}(h:(o8 s).e=0): 1≤(o8 s).len∧(o8 s).len≤s.length:=by
 unfold o8 at *
 split at h
 ·rename_i m hm
  have h1:=List.find?_some hm
  have h2:=List.mem_of_find?_eq_some hm
  refine⟨?_,(List.isPrefixOf_iff_prefix.1 h1).length_le⟩
  show 1≤m.length
  simp only[l_,List.mem_cons,List.not_mem_nil,or_false]at h2
  rcases h2 with h|h|h|h|h|h|h|h|h|h|h|h|h|h|h|h<;>subst h<;>simp
 ·simp[PR.err]at h
theorem Kl{s:aH}(hs:s≠[])(h:(ey s).e=0): 1≤(ey s).len∧(ey s).len≤s.length:=by
 unfold ey at *
 simp only at *
 split at h
 ·rename_i h1;rw[if_pos h1]
  unfold yQ at *
  split at h
  ·simp[PR.err]at h
  ·rename_i h2;rw[if_neg h2];exact⟨Xu h1 hs,Kk s⟩
 ·rename_i h1;rw[if_neg h1]
  split at h
  ·rename_i h2;rw[if_pos h2,Tt h]
   refine⟨?_,uD _⟩
   cases s with
   | nil=>exact absurd rfl hs
   | cons c r=>simp only[List.getD_cons_zero]at h2;simp[List.takeWhile_cons,h2]
  ·rename_i h2;rw[if_neg h2]
   split at h
   ·rename_i h3;rw[if_pos h3]
    have:=Xv _ _ _ h
    have h4:1≤s.length:=by cases s with|nil=>exact absurd rfl hs|cons=>simp
    rw[List.length_drop]at this
    omega
   ·rename_i h3;rw[if_neg h3];exact Xw h
end Go.Proofs.YtmbgnaoilncbnaaGreatDoor
