/- Part. -/
import Derived.Test.YtmbgnaoilncbnaaGreatDoorX15
import Derived.KernelRfl
set_option linter.all false
namespace Go.Proofs.YtmbgnaoilncbnaaGreatDoor
open Go.AM Go.AM.W
set_option maxRecDepth 10000
def dU: aI:=r [J [z0,z0,z0,e0,e0,.ae] 2]<|
 q (q (.draw [M 0 5,Z 5 6,A 2 6 7,K 7 8,M 8 9,MF 0 10 9,ZF 10 11 9,AF 1 11 12 9,KF 12 13 9,MF 0 14 9,ZF 14 15 9,AF 0 15 16 9,KF 16 17 9,NF 17 18 9,BF .geq 13 18 19 9,O 9 19 20] [])<|
 c 20 (r [M 0 21,Z 21 22,A 2 22 23,⟨.store 1 (t 23) (.c (.bool true)),none,none⟩]<|
 r [aD (.build [z0,z0,z0,e0,e0,.ae] []) 24,W 6 2 24]<|
 .ret) k)<|
 q (.draw [M 0 25,Z 25 26,A 0 26 27,K 27 28,M 0 29,Z 29 30,A 1 30 31,K 31 32,I true 4 28 32 33,L 4 33 34,J [z0,e0,z0,z0] 3,W 4 3 34] [])<|
 r [aD (.build [z0,z0,z0,e0,e0,.ae] [(0,1,(.c (i6 1)))]) 35,J [z0,z0,z0,e0,e0,.ae] 4,W 6 4 35]<|
 q (.block 0 (r [A 0 3 41,K 41 42,D .eql 42 2 43,M 43 40]<|
 c 40 (R [A 2 3 44,K 44 45,aD (.build [z0,z0,e0] [(0,1,(.c (i6 1))),(1,1,(t 45))]) 46,A 1 4 47,W 3 47 46]) (r [A 0 3 49,K 49 50,D .eql 50 3 51,M 51 48]<|
 c 48 (R [A 1 3 52,K 52 53,aD (.build [z0,z0,e0] [(0,1,(.c (i6 2))),(2,1,(t 53))]) 54,A 1 4 55,W 3 55 54]) (r [M 0 57,aD (.call false (.c (.fn (.func fD) [] [])) [(t 57),(.c (i6 1)),(.c (.str [110,117,108,108]))]) 58,M 58 56]<|
 c 56 k (r [M 0 60,aD (.call false (.c (.fn (.func fD) [] [])) [(t 60),(.c (i6 1)),(.c (.str [116,114,117,101]))]) 61,M 61 59]<|
 c 59 (R [aD (.build [z0,z0,e0] [(0,1,(.c (i6 3))),(1,1,(.c (i6 1)))]) 62,A 1 4 63,W 3 63 62]) (r [M 0 65,aD (.call false (.c (.fn (.func fD) [] [])) [(t 65),(.c (i6 1)),(.c (.str [102,97,108,115,101]))]) 66,M 66 64]<|
 c 64 (R [aD (.build [z0,z0,e0] [(0,1,(.c (i6 3)))]) 67,A 1 4 68,W 3 68 67]) (r [A 0 3 70,K 70 71,D .eql 71 1 72,M 72 73,AT 1 3 74 73,KT 74 75 73,CT nw [t 75] 76 73,P 73 76 77,M 77 69]<|
 c 69 (R [A 1 3 78,K 78 79,aD (.build [z0,z0,z0,e0,e0,.ae] [(0,1,(.c (i6 2))),(4,1,(t 79))]) 80,W 6 4 80]) (r [M 0 82,aD (.call false (.c (.fn (.func fD) [] [])) [(t 82),(.c (i6 4)),(.c (.str [40]))]) 83,M 83 81]<|
 c 81 (r [M 0 84,Z 84 85,A 1 85 86,K 86 87,D .add 87 1 88,Z 84 89,A 1 89 90,W 1 90 88]<|
 r [M 0 91,aD (.call false (.c (.fn (.func cq) [] [])) [(t 91),(.c z0)]) 92,W 6 4 92]<|
 r [M 0 93,aD (.call false (.c (.fn (.func kW) [] [])) [(t 93),(.c (i6 4)),(.c (.str [41]))]) 94]<|
 r [L 6 4 95,W 6 2 95]<|
 .ret) (r [M 0 36,Z 36 37,A 2 37 38,⟨.store 1 (t 38) (.c (.bool true)),none,none⟩]<|
 r [aD (.build [z0,z0,z0,e0,e0,.ae] []) 39,W 6 2 39]<|
 .ret)))))))))<|
 r [M 0 96,Z 96 97,A 1 97 98,K 98 99,D .add 99 1 100,Z 96 101,A 1 101 102,W 1 102 100]<|
 r [L 6 4 103,W 6 2 103]<|
 .ret
def dY: Of Tryz.prog mS 104 [.cell 2 true 6] dU:=aZ {} Tryz.func250
def BA: aI:=r [V (.bool false) 6]<|
 q (.draw [M 0 7,Z 7 8,A 1 8 9,K 9 10,M 0 11,Z 11 12,A 0 12 13,K 13 14,N 14 15,B .lss 10 15 16,M 16 17,MT 0 18 17,ZT 18 19 17,AT 0 19 20 17,KT 20 21 17,MT 0 22 17,ZT 22 23 17,AT 1 23 24 17,KT 24 25 17,IT true 4 21 25 26 17,AT 0 26 27 17,KT 27 28 17,MT 1 29 17,BT .eql 28 29 30 17,P 17 30 31,M 31 32,MT 0 33 32,ZT 33 34 32,AT 0 34 35 32,KT 35 36 32,MT 0 37 32,ZT 37 38 32,AT 1 38 39 32,KT 39 40 32,IT true 4 36 40 41 32,AT 1 41 42 32,KT 42 43 32,MT 2 44 32,BT .eql 43 44 45 32,P 32 45 46,M 46 6] [])<|
 .ret
def K4: Of Tryz.prog fD 47 [.tmp 6] BA:=aZ {} Tryz.func251
def r7: aI:= .block 0 (r [M 0 10,Z 10 11,A 2 11 12,K 12 13,M 13 9]<|
 c 9 k (r [M 0 15,M 1 16,M 2 17,C fD [t 15,t 16,t 17] 18,M 18 14]<|
 c 14 (R [M 0 19,Z 19 20,A 1 20 21,K 21 22,D .add 22 1 23,Z 19 24,A 1 24 25,W 1 25 23]) (R [M 0 6,Z 6 7,A 2 7 8,⟨.store 1 (t 8) (.c (.bool true)),none,none⟩])))
def xW: Of Tryz.prog kW 26 [] r7:=aZ {} Tryz.func252
def BB: aI:=r [V z0 4]<|
 q (r [V (i6 4) 5]<|
 .block 0 (.loop (q (r [M 5 7,D .leq 7 15 8]<|
 c 8 k (.exit 0))<|
 q (.block 1 (r [V (i6 4) 6]<|
 q (r [M 5 11,D .eql 11 14 12,M 12 13,MF 5 14 13,DF .eql 14 15 15 13,O 13 15 16]<|
 c 16 (R [V (i6 1) 6]) k)<|
 r [M 5 17,C vM [t 17] 18,M 1 19,B .eql 18 19 20,M 20 21,MT 0 22 21,MT 6 23 21,MT 5 24 21,CT sP [t 24] 25 21,CT fD [t 22,t 23,t 25] 26 21,P 21 26 27]<|
 c 27 (r [M 5 28,M 28 4]<|
 .ret) k))<|
 R [M 5 9,D .add 9 1 10,M 10 5])))<|
 r [V z0 4]<|
 .ret
def K5: Of Tryz.prog uP 29 [.tmp 4] BB:=aZ {} Tryz.func253
def Qf: aI:=r [V z0 4]<|
 q (r [M 0 5,D .eql 5 0 6]<|
 c 6 (r [M 1 7,M 7 4]<|
 .ret) k)<|
 r [M 0 8,M 8 4]<|
 .ret
def XF: Of Tryz.prog BU 9 [.tmp 4] Qf:=aZ {} Tryz.func254
def Qg: aI:=r [J [z0,e0,z0,z0,z0] 2,V z0 3]<|
 r [M 0 5,C BQ [t 5] 6,M 6 4]<|
 q (r [M 4 7,D .gtr 7 16 8]<|
 c 8 (r [aD (.build [z0,e0,z0,z0,z0] []) 9,W 5 2 9,V (i6 5) 3]<|
 .ret) k)<|
 r [M 0 10,M 4 11,aD (.pG (t 10) none (some (t 11))) 12,aD (.build [z0,e0,z0,z0] [(0,1,(.c (i6 1))),(1,1,(t 12))]) 13,M 4 14,aD (.build [z0,e0,z0,z0,z0] [(0,4,(t 13)),(4,1,(t 14))]) 15,W 5 2 15,V z0 3]<|
 .ret
def XG: Of Tryz.prog Hw 16 [.cell 2 true 5,.tmp 3] Qg:=aZ {} Tryz.func255
def K6: aI:=r [J [z0,e0,z0,z0,z0] 2,V z0 3]<|
 r [M 0 8,aD (.call false (.c (.fn (.func zT) [] [])) [(t 8),(.c (.fn (.func rL) [] []))]) 9,M 9 4]<|
 q (r [M 4 10,D .gtr 10 1 11,M 11 12,MT 0 13 12,⟨.gL (t 13) (.c z0),(some 14),some (12,true)⟩,⟨.bin .eql (t 14) (.c (.int .u8 48)),(some 15),some (12,true)⟩,P 12 15 16]<|
 c 16 (r [aD (.build [z0,e0,z0,z0,z0] []) 17,W 5 2 17,V (i6 11) 3]<|
 .ret) k)<|
 r [V z0 5]<|
 q (r [M 4 18,V z0 19]<|
 .block 0 (.loop (r [B .lss 19 18 20]<|
 q (c 20 k (.exit 0))<|
 q (.block 1 (r [M 19 21,M 21 6]<|
 r [M 0 22,M 6 23,aD (.gL (t 22) (t 23)) 24,aD (.bin .sub (t 24) (.c (.int .u8 48))) 25,aD (.jP .i64 (t 25)) 26,M 26 7]<|
 q (r [M 5 27,M 7 28,aD (.bin .sub (.c (i6 9223372036854775807)) (t 28)) 29,D .quo 29 10 30,B .gtr 27 30 31]<|
 c 31 (r [aD (.build [z0,e0,z0,z0,z0] []) 32,W 5 2 32,V (i6 15) 3]<|
 .ret) k)<|
 R [M 5 33,D .mul 33 10 34,M 7 35,B .add 34 35 36,M 36 5]))<|
 R [D .add 19 1 37,M 37 19])))<|
 r [M 5 38,aD (.build [z0,e0,z0,z0] [(0,1,(.c (i6 2))),(2,1,(t 38))]) 39,M 4 40,aD (.build [z0,e0,z0,z0,z0] [(0,4,(t 39)),(4,1,(t 40))]) 41,W 5 2 41,V z0 3]<|
 .ret
def UC: Of Tryz.prog C_ 42 [.cell 2 true 5,.tmp 3] K6:=aZ {} Tryz.func256
def Qh: aI:=r [J [z0,e0,z0,z0,z0] 2,V z0 3]<|
 r [aD (.iZ ⟨false,1⟩) 4]<|
 q (r [V (i6 1) 5]<|
 .block 0 (.loop (q (r [M 5 7,M 0 8,S 8 9,B .lss 7 9 10]<|
 c 10 k (.exit 0))<|
 q (.block 1 (r [M 0 13,M 5 14,aD (.gL (t 13) (t 14)) 15,M 15 6]<|
 q (.block 2 (r [M 6 17,aD (.bin .eql (t 17) (.c (.int .u8 34))) 18,M 18 19,MT 4 20 19,NT 20 21 19,DT .gtr 21 40 22 19,P 19 22 23,M 23 16]<|
 c 16 (r [aD (.build [z0,e0,z0,z0,z0] []) 24,W 5 2 24,V (i6 5) 3]<|
 .ret) (r [M 6 26,aD (.bin .eql (t 26) (.c (.int .u8 34))) 27,M 27 25]<|
 c 25 (r [M 4 28,aD (.wX (t 28)) 29,aD (.build [z0,e0,z0,z0] [(0,1,(.c (i6 3))),(1,1,(t 29))]) 30,M 5 31,D .add 31 1 32,aD (.build [z0,e0,z0,z0,z0] [(0,4,(t 30)),(4,1,(t 32))]) 33,W 5 2 33,V z0 3]<|
 .ret) (r [M 6 35,aD (.bin .eql (t 35) (.c (.int .u8 92))) 36,M 36 34]<|
 c 34 (r [M 5 37,D .add 37 1 38,M 38 5]<|
 r [M 5 39,M 0 40,S 40 41,B .eql 39 41 42,M 42 43,MF 0 44 43,MF 5 45 43,⟨.gL (t 44) (t 45),(some 46),some (43,false)⟩,⟨.bin .neq (t 46) (.c (.int .u8 34)),(some 47),some (43,false)⟩,MF 47 48 43,MT 0 49 48,MT 5 50 48,⟨.gL (t 49) (t 50),(some 51),some (48,true)⟩,⟨.bin .neq (t 51) (.c (.int .u8 92)),(some 52),some (48,true)⟩,PF 48 52 53 43,O 43 53 54]<|
 c 54 (r [aD (.build [z0,e0,z0,z0,z0] []) 55,W 5 2 55,V (i6 11) 3]<|
 .ret) k) (r [M 6 57,aD (.bin .lss (t 57) (.c (.int .u8 32))) 58,M 58 59,MF 6 60 59,⟨.bin .gtr (t 60) (.c (.int .u8 126)),(some 61),some (59,false)⟩,O 59 61 62,M 62 56]<|
 c 56 (r [aD (.build [z0,e0,z0,z0,z0] []) 63,W 5 2 63,V (i6 11) 3]<|
 .ret) k)))))<|
 R [M 4 64,M 0 65,M 5 66,aD (.gL (t 65) (t 66)) 67,aD (.bK false ⟨false,1⟩ (.int .u8 0) 1 [(0,(t 67))]) 68,aD (.app none ⟨false,1⟩ (t 64) (t 68)) 69,M 69 4]))<|
 R [M 5 11,D .add 11 1 12,M 12 5])))<|
 r [aD (.build [z0,e0,z0,z0,z0] []) 70,W 5 2 70,V (i6 11) 3]<|
 .ret
def XH: Of Tryz.prog Hx 71 [.cell 2 true 5,.tmp 3] Qh:=aZ ⟨[],[],[(4,⟨false,1⟩)],[],[],[]⟩ Tryz.func257
def HK: aI:=r [X 0 1,J [z0,e0,z0,z0,z0] 2,V z0 3]<|
 r [C Fo [] 6,M 6 4]<|
 r [M 4 7,aD (.qu (.func xF) [] [(t 1)]) 8,C mU [t 7,t 8] 9,M 9 5]<|
 q (r [M 5 10,D .lss 10 0 11]<|
 c 11 (r [aD (.build [z0,e0,z0,z0,z0] []) 12,W 5 2 12,V (i6 11) 3]<|
 .ret) k)<|
 q (.draw [M 4 13,M 5 14,I false 1 13 14 15,K 15 16,aD (.build [z0,e0,z0,z0] [(0,1,(.c (i6 4))),(1,1,(t 16))]) 17,M 4 18,M 5 19,I false 1 18 19 20,K 20 21,S 21 22,aD (.build [z0,e0,z0,z0,z0] [(0,4,(t 17)),(4,1,(t 22))]) 23,W 5 2 23,V z0 3] [])<|
 .ret
def Nh: Of Tryz.prog Hy 24 [.cell 2 true 5,.tmp 3] HK:=aZ {} Tryz.func258
def td: aI:=r [J [z0,z0,z0,e0,e0,.ae] 2]<|
 q (r [M 0 6,Z 6 7,A 2 7 8,K 8 9]<|
 c 9 (r [aD (.build [z0,z0,z0,e0,e0,.ae] []) 10,W 6 2 10]<|
 .ret) k)<|
 q (.draw [M 0 12,Z 12 13,A 0 13 14,A 0 14 15,K 15 16,M 0 17,Z 17 18,A 0 18 19,A 1 19 20,K 20 21,aD (.call true (.c (.fn (.func vO) [] [])) [(t 16),(t 21),(.c (i6 4))]) 22,M 22 11,E 11 0 23,E 11 1 24,E 11 2 25,J [z0,z0,z0,e0,e0,.ae] 3,W 6 3 23,M 24 4,M 25 5] [])<|
 r [M 0 26,M 0 27,M 4 28,M 5 29,D .neq 29 0 30,Z 26 31,A 0 31 32,A 1 32 33,W 1 33 28,Z 27 34,A 2 34 35,W 1 35 30]<|
 r [L 6 3 36,W 6 2 36]<|
 .ret
def yG: Of Tryz.prog jY 37 [.cell 2 true 6] td:=aZ {} Tryz.func259
def Ab: aI:=r [V (.bool false) 6]<|
 r [M 0 8,C nM [t 8] 9,J [z0,e0,z0,z0] 7,W 4 7 9]<|
 q (r [A 0 7 10,K 10 11,M 1 12,B .neq 11 12 13,M 13 14,AF 1 7 15 14,KF 15 16 14,MF 2 17 14,BF .neq 16 17 18 14,O 14 18 19]<|
 c 19 (r [V (.bool false) 6]<|
 .ret) k)<|
 r [M 0 20,Z 20 21,A 1 21 22,K 22 23,D .add 23 1 24,Z 20 25,A 1 25 26,W 1 26 24]<|
 r [V (.bool true) 6]<|
 .ret
def JQ: Of Tryz.prog iu 27 [.tmp 6] Ab:=aZ {} Tryz.func260
def vi: aI:=r [J [z0,z0,z0,e0,e0,.ae] 2]<|
 r [M 0 5,aD (.call false (.c (.fn (.func cu) [] [])) [(t 5),(.c z0)]) 6,J [z0,z0,z0,e0,e0,.ae] 3,W 6 3 6]<|
 r [M 0 7,aD (.call false (.c (.fn (.func ku) [] [])) [(t 7),(.c (i6 1)),(.c (.str [116,104,101,110]))]) 8]<|
 r [M 0 9,aD (.call false (.c (.fn (.func cu) [] [])) [(t 9),(.c z0)]) 10,J [z0,z0,z0,e0,e0,.ae] 4,W 6 4 10]<|
 r [M 0 11,aD (.call false (.c (.fn (.func ku) [] [])) [(t 11),(.c (i6 1)),(.c (.str [101,108,115,101]))]) 12]<|
 q (.draw [L 6 3 13,L 6 4 14,M 0 15,aD (.mL (.c (.fn (.func cu) [] [])) [(t 15),(.c z0)]) 16,aD (.bK false ⟨true,6⟩ (.agg [z0,z0,z0,e0,e0,.ae]) 3 [(0,(t 13)),(1,(t 14)),(2,(t 16))]) 17,aD (.build [z0,z0,z0,e0,e0,.ae] [(0,1,(.c (i6 16))),(5,1,(t 17))]) 18,W 6 2 18] [((t 3),(t 15)),((t 4),(t 15))])<|
 .ret
def Ea: Of Tryz.prog oW 19 [.cell 2 true 6] vi:=aZ ⟨[],[],[],[],[16],[]⟩ Tryz.func261
def gD: aI:=r [J [z0,z0,z0,e0,e0,.ae] 2]<|
 q (r [M 0 8,aD (.call false (.c (.fn (.func iu) [] [])) [(t 8),(.c (i6 4)),(.c (.str [40]))]) 9]<|
 c 9 (r [M 0 10,aD (.call false (.c (.fn (.func cu) [] [])) [(t 10),(.c z0)]) 11,J [z0,z0,z0,e0,e0,.ae] 3,W 6 3 11]<|
 r [M 0 12,aD (.call false (.c (.fn (.func ku) [] [])) [(t 12),(.c (i6 4)),(.c (.str [41]))]) 13]<|
 r [L 6 3 14,W 6 2 14]<|
 .ret) k)<|
 r [M 0 15,C nM [t 15] 16,J [z0,e0,z0,z0] 4,W 4 4 16]<|
 r [aD (.build [z0,z0,z0,e0,e0,.ae] [(0,1,(.c (i6 1)))]) 17,J [z0,z0,z0,e0,e0,.ae] 5,W 6 5 17]<|
 q (r [A 0 4 18,K 18 19]<|
 .block 0 (r [D .eql 19 2 25,M 25 24]<|
 c 24 (R [A 2 4 26,K 26 27,aD (.build [z0,z0,e0] [(0,1,(.c (i6 1))),(1,1,(t 27))]) 28,A 1 5 29,W 3 29 28]) (r [D .eql 19 3 31,M 31 30]<|
 c 30 (R [A 1 4 32,K 32 33,aD (.build [z0,z0,e0] [(0,1,(.c (i6 2))),(2,1,(t 33))]) 34,A 1 5 35,W 3 35 34]) (r [D .eql 19 1 37,M 37 36]<|
 c 36 (r [A 1 4 39,K 39 40,C A5 [t 40] 41,M 41 38,E 38 0 42,E 38 1 43,J [z0,z0,e0] 6,W 3 6 42,M 43 7]<|
 q (r [M 7 44,U 44 45,M 45 46,AT 1 4 47 46,KT 47 48 46,CT qB [t 48] 49 46,UT 49 50 46,P 46 50 51]<|
 c 51 (r [M 0 52,Z 52 53,A 2 53 54,⟨.store 1 (t 54) (.c (.bool true)),none,none⟩]<|
 r [aD (.build [z0,z0,z0,e0,e0,.ae] []) 55,W 6 2 55]<|
 .ret) k)<|
 r [L 3 6 56,A 1 5 57,W 3 57 56]<|
 r [M 7 58,U 58 59]<|
 c 59 (R [A 1 4 60,K 60 61,aD (.build [z0,z0,z0,e0,e0,.ae] [(0,1,(.c (i6 2))),(4,1,(t 61))]) 62,W 6 5 62]) k) (r [M 0 20,Z 20 21,A 2 21 22,⟨.store 1 (t 22) (.c (.bool true)),none,none⟩]<|
 r [aD (.build [z0,z0,z0,e0,e0,.ae] []) 23,W 6 2 23]<|
 .ret)))))<|
 r [M 0 63,Z 63 64,A 1 64 65,K 65 66,D .add 66 1 67,Z 63 68,A 1 68 69,W 1 69 67]<|
 r [L 6 5 70,W 6 2 70]<|
 .ret
def g_: Of Tryz.prog qF 71 [.cell 2 true 6] gD:=aZ {} Tryz.func262
def vm: aI:=r [V z0 4]<|
 q (r [C pB [] 8,N 8 9,V z0 10]<|
 .block 0 (.loop (r [B .lss 10 9 11]<|
 q (c 11 k (.exit 0))<|
 q (.block 1 (r [I true 3 8 10 12,L 3 12 13,J [z0,e0,z0] 6,W 3 6 13]<|
 r [V (i6 4) 7]<|
 q (r [A 2 6 14,K 14 15,D .lss 15 3 16]<|
 c 16 (R [V (i6 1) 7]) k)<|
 r [A 2 6 17,K 17 18,M 1 19,B .eql 18 19 20,M 20 21,MT 0 22 21,MT 7 23 21,AT 1 6 24 21,KT 24 25 21,CT iu [t 22,t 23,t 25] 26 21,P 21 26 27]<|
 c 27 (r [A 0 6 28,K 28 29,M 29 4]<|
 .ret) k))<|
 R [D .add 10 1 30,M 30 10])))<|
 r [V z0 4]<|
 .ret
def Eb: Of Tryz.prog lH 31 [.tmp 4] vm:=aZ {} Tryz.func263
def K7: aI:=r [V (.bool false) 4]<|
 q (r [M 1 7,N 7 8,V z0 9]<|
 .block 0 (.loop (r [B .lss 9 8 10]<|
 q (c 10 k (.exit 0))<|
 q (.block 1 (r [I false 1 7 9 11,K 11 12,M 12 6]<|
 r [M 6 13,M 0 14,C jL [t 13,t 14] 15,U 15 16]<|
 c 16 (r [V (.bool false) 4]<|
 .ret) k))<|
 R [D .add 9 1 17,M 17 9])))<|
 r [V (.bool true) 4]<|
 .ret
def UD: Of Tryz.prog sU 18 [.tmp 4] K7:=aZ {} Tryz.func264
def xX: aI:=r [V z0 4]<|
 r [V z0 5]<|
 q (r [M 0 6,M 5 7,B .neq 6 7 8]<|
 c 8 (r [M 0 9,M 9 4]<|
 .ret) k)<|
 r [M 1 10,M 10 4]<|
 .ret
def GF: Of Tryz.prog mT 11 [.tmp 4] xX:=aZ {} Tryz.func265
def vo: aI:=r [V (.bool false) 4]<|
 r [M 0 5,M 1 6,C rX [t 5,t 6] 7,D .geq 7 0 8,M 8 4]<|
 .ret
def Ec: Of Tryz.prog oX 9 [.tmp 4] vo:=aZ {} Tryz.func266
def Ni: aI:=r [V .ae 0]<|
 r [aD (.bK false ⟨false,1⟩ e0 16 [(0,(.c (.str [46,46]))),(1,(.c (.str [33,61]))),(2,(.c (.str [60,61]))),(3,(.c (.str [62,61]))),(4,(.c (.str [40]))),(5,(.c (.str [41]))),(6,(.c (.str [91]))),(7,(.c (.str [93]))),(8,(.c (.str [44]))),(9,(.c (.str [43]))),(10,(.c (.str [45]))),(11,(.c (.str [42]))),(12,(.c (.str [47]))),(13,(.c (.str [61]))),(14,(.c (.str [60]))),(15,(.c (.str [62])))]) 1,M 1 0]<|
 .ret
def VS: Of Tryz.prog Fo 2 [.tmp 0] Ni:=aZ {} Tryz.func272
def sC: aI:=r [V z0 4]<|
 q (r [M 0 6,N 6 7,V z0 8]<|
 .block 0 (.loop (r [B .lss 8 7 9]<|
 q (c 9 k (.exit 0))<|
 q (.block 1 (r [M 8 10,M 10 5]<|
 r [M 1 11,M 0 12,M 5 13,I false 1 12 13 14,K 14 15,aD (.call false (t 11) [(t 15)]) 16]<|
 c 16 (r [M 5 17,M 17 4]<|
 .ret) k))<|
 R [D .add 8 1 18,M 18 8])))<|
 r [V (i6 (-1)) 4]<|
 .ret
def Bl: Of Tryz.prog mU 19 [.tmp 4] sC:=aZ {} Tryz.func273
def K8: aI:=r [V (.bool false) 3]<|
 r [K 1 4,M 0 5,C rW [t 4,t 5] 6,M 6 3]<|
 .ret
def UE: Of Tryz.prog xF 7 [.tmp 3] K8:=aZ {} Tryz.func274
def yH: aI:=r [V (.bool false) 4]<|
 r [M 0 5,M 1 6,C jR [t 5,t 6] 7,M 7 4]<|
 .ret
def HL: Of Tryz.prog rW 8 [.tmp 4] yH:=aZ {} Tryz.func275
def yI: aI:=r [J [z0,e0,z0,z0] 2]<|
 q (q (.draw [M 0 3,Z 3 4,A 2 4 5,K 5 6,M 6 7,MF 0 8 7,ZF 8 9 7,AF 1 9 10 7,KF 10 11 7,MF 0 12 7,ZF 12 13 7,AF 0 13 14 7,KF 14 15 7,NF 15 16 7,BF .geq 11 16 17 7,O 7 17 18] [])<|
 c 18 (r [aD (.build [z0,e0,z0,z0] []) 19,W 4 2 19]<|
 .ret) k)<|
 q (.draw [M 0 20,Z 20 21,A 0 21 22,K 22 23,M 0 24,Z 24 25,A 1 25 26,K 26 27,I true 4 23 27 28,L 4 28 29,W 4 2 29] [])<|
 .ret
def HM: Of Tryz.prog nM 30 [.cell 2 true 4] yI:=aZ {} Tryz.func276
def xY: aI:=r [M 0 6,M 1 7,M 2 8,C iu [t 6,t 7,t 8] 9,U 9 10]<|
 c 10 (R [M 0 11,Z 11 12,A 2 12 13,⟨.store 1 (t 13) (.c (.bool true)),none,none⟩]) k
def GG: Of Tryz.prog ku 14 [] xY:=aZ {} Tryz.func277
def Jq: aI:=r [J [z0,z0,e0] 2,V (.bool false) 3]<|
 q (r [M 0 4]<|
 .block 0 (r [aD (.bin .eql (t 4) (.c (.str [110,117,108,108]))) 6,M 6 5]<|
 c 5 (r [aD (.build [z0,z0,e0] []) 7,W 3 2 7,V (.bool true) 3]<|
 .ret) (r [aD (.bin .eql (t 4) (.c (.str [102,97,108,115,101]))) 9,M 9 8]<|
 c 8 (r [aD (.build [z0,z0,e0] [(0,1,(.c (i6 3)))]) 10,W 3 2 10,V (.bool true) 3]<|
 .ret) (r [aD (.bin .eql (t 4) (.c (.str [116,114,117,101]))) 12,M 12 11]<|
 c 11 (r [aD (.build [z0,z0,e0] [(0,1,(.c (i6 3))),(1,1,(.c (i6 1)))]) 13,W 3 2 13,V (.bool true) 3]<|
 .ret) k))))<|
 r [aD (.build [z0,z0,e0] []) 14,W 3 2 14,V (.bool false) 3]<|
 .ret
def Sg: Of Tryz.prog A5 15 [.cell 2 true 3,.tmp 3] Jq:=aZ {} Tryz.func278
def yJ: aI:=r [V z0 4]<|
 q (r [M 0 6,N 6 7,V z0 8]<|
 .block 0 (.loop (r [B .lss 8 7 9]<|
 q (c 9 k (.exit 0))<|
 q (.block 1 (r [M 8 10,M 10 5]<|
 r [M 1 11,M 0 12,M 5 13,I false 1 12 13 14,K 14 15,B .eql 11 15 16]<|
 c 16 (r [M 5 17,M 17 4]<|
 .ret) k))<|
 R [D .add 8 1 18,M 18 8])))<|
 r [V (i6 (-1)) 4]<|
 .ret
def HO: Of Tryz.prog rX 19 [.tmp 4] yJ:=aZ {} Tryz.func279
def nB: aI:=r [V (.bool false) 4]<|
 r [M 0 5,S 5 6,M 1 7,S 7 8,B .geq 6 8 9,M 9 10,MT 0 11 10,MT 1 12 10,ST 12 13 10,⟨.pG (t 11) none (some (t 13)),(some 14),some (10,true)⟩,MT 1 15 10,BT .eql 14 15 16 10,P 10 16 17,M 17 4]<|
 .ret
def vp: Of Tryz.prog jR 18 [.tmp 4] nB:=aZ {} Tryz.func285
end Go.Proofs.YtmbgnaoilncbnaaGreatDoor
namespace Go.AM
variable {P:Program}
def aY{p:Prop}(h:False:=by first|omega|(simp_all;done)|(simp_all;omega)): p:=h.elim
def at_{p:Prop}(h:p:=by simp (disch:=omega) only[dm,cK,and_true,go_sem,Eo,N8,Km,Nat.reduceAdd,Nat.reduceBEq,↓reduceIte,Int.natCast_add,Int.cast_ofNat_Int]<;>(try trivial)<;>(try omega)<;>(try (repeat (first|trivial|(refine And.intro ?_ ?_)|(congr 1;omega))))): p:=h
def bJ{p:Prop}(h:p:=by repeat (first|exact aem _ _ _|refine aen rfl ?_|refine acY rfl ?_|(simp only[abw,acS]))): p:=h
def wJ{p:Prop}(h:p:=by first|exact aW.refl (by simp)|(repeat (first|exact aW.nil _|refine aW.cons ?_ ?_|exact View.ae _|exact View.refl _ (by simp)|exact View.weak _ _ _ (by simp)|exact View.cell _ _ rfl rfl (by simp)|refine View.fnL ?_ ?_|exact View.vec rfl (by simp) (by simp) (by simp)|refine View.afD ?_|refine View.nU ?_))): p:=h
def bs_{K:AV->Prop}{xs:List AV}{m n:Nat}{s:List UInt8}(hk:K (.str s))(hx:xs=s.map fun b=>AV.int .u8 b.toNat)(hm:m=xs.length)(hn:n=xs.length): ZY (some (.vec ⟨false,1⟩ xs)) m 0 n (.mk:Tg K):=Z0 s hx hm hn hk
def aq {G K : Prop} (k : K) (h : K -> G := by
    first
    |(intro k;simp (disch:=omega) only[go_sem,au,aA,aB];exact k)
    |(intro k;with_reducible refine ad7 ?_ k;first|omega|(simp;done)|(simp;omega)|assumption)
    |(intro k;with_reducible exact acX k)
    |(intro k;with_reducible exact bs_ k rfl (by simp) (by simp))):G:=h k
def gn_ {G K : Prop} (k : K) (h : K -> G := by
    first
    |(intro k;simp (disch:=omega) only[go_sem,au,aA,aB];exact k)
    |(intro k;with_reducible refine ad7 ?_ k;first|omega|(simp;done)|(simp;omega)|assumption)
    |(intro k;with_reducible exact bs_ k rfl (by simp) (by simp))):G:=h k
def cc_{t:Bool}{T E p q:Prop}(h:p->T)(h':q->E)(hp:(t=true)=p)(hq:(t=false)=q): Hp (.bool t) (.mk:Tg (T,E)):=by
 subst hp hq;exact aek h h'
def gk_{t b:Bool}{T E U p q:Prop}(h:p->T)(h':q->E)(hp:(t=b)=p)(hq:(t = !b)=q): oE (.bool t) b (.mk:Tg (T,E,U)):=by
 subst hp hq;exact acN h h'
def ak {p q T E G : Prop} (h : p -> T) (h' : q -> E) (hg : (p -> T) -> (q -> E) -> G := by
    intro h h';with_reducible first|refine cc_ h h' ?_ ?_|refine gk_ h h' ?_ ?_
    all_goals
     (try simp only[decide_eq_true_eq,decide_eq_false_iff_not,beq_iff_eq,beq_eq_false_iff_ne,bZ,Bool.not_eq_false',Bool.not_true,gk,Int.not_lt,Int.not_le,ne_eq,Int.ofNat_lt,Int.ofNat_le,not_true_eq_false,reduceCtorEq,Int.toNat_zero])
     exact rfl):G:=hg h h'
def aC {n : FuncId} {args : List AV} {r : AV} {K G : Prop} (h : ai P n args r) (k : K) (hg : ai P n args r -> K -> G := by
    intro h k;with_reducible first|exact F2 h k|exact F3 h k):G:=hg h k
def qo {n : FuncId} {args : List AV} {r : AV} {K G : Prop} (h : ai P n args r) (k : K) (hg : ai P n args r -> K -> G := by
    intro h k;with_reducible first|refine aeo h ?_ k|refine aep h ?_ k
    exact wJ):G:=hg h k
def Td {n : FuncId} {args : List AV} {r : AV} {K G : Prop} (h : ai P n args r) (k : K) (hg : ai P n args r -> K -> G := by
    intro h k;with_reducible first|refine wC h ?_ ?_ k|refine aeq h ?_ ?_ k
    ·exact wJ
    ·simp[AV.flat,AV.Mm]):G:=hg h k
def bh {f : FuncId} {off : Nat} {args cs ds : List AV} {r : AV} {K G : Prop} (h : bj P f off args cs ds r) (k : K) (hg : bj P f off args cs ds r -> K -> G := by
    intro h k;with_reducible first|exact yR h rfl k|exact yS h rfl k|exact RI h rfl k):G:=hg h k
end Go.AM
namespace Go.Proofs.YtmbgnaoilncbnaaGreatDoor
open Go.AM
abbrev aJ:=List UInt8
structure eg where
 kind:Int
 n:Int
 s:aJ
deriving DecidableEq,Inhabited
structure Tok where
 kind:Int
 s:aJ
 n:Int
 pos:Int
deriving DecidableEq,Inhabited
inductive Expr where
 | mk (op:Int) (v:eg) (s:aJ) (l:List Expr)
instance:Inhabited Expr:=⟨.mk 0 ⟨0,0,[]⟩ [] []⟩
def Expr.op: Expr->Int | .mk op _ _ _=>op
def Expr.v: Expr->eg | .mk _ v _ _=>v
def Expr.s: Expr->aJ | .mk _ _ s _=>s
def Expr.l: Expr->List Expr | .mk _ _ _ l=>l
structure Test where
 kind:Int
 a:Expr
 b:Expr
 lo:Bool
 hi:Bool
deriving Inhabited
structure Cell where
 any:Bool
 neg:Bool
 tests:List Test
deriving Inhabited
structure cI where
 name:aJ
 kind:Int
 order:List eg
deriving Inhabited
structure dO where
 cells:List aJ
 outs:List aJ
deriving Inhabited
structure Table where
 name:aJ
 ins:List cI
 outs:List cI
 bA:Int
 agg:Int
 rules:List dO
deriving Inhabited
structure kP where
 cells:List Cell
 outs:List Expr
deriving Inhabited
structure Ready where
 table:Table
 lines:List kP
deriving Inhabited
abbrev I(n:Int): AV:= .int .i64 n
abbrev E1: El:=⟨false,1⟩
abbrev EV: El:=⟨true,3⟩
abbrev ET: El:=⟨true,4⟩
abbrev EX: El:=⟨true,6⟩
abbrev ES: El:=⟨true,15⟩
abbrev EC: El:=⟨true,3⟩
abbrev ER: El:=⟨true,2⟩
def iJ(v:eg): AV:= .agg [I v.kind,I v.n,.str v.s]
def mF(t:Tok): AV:= .agg [I t.kind,.str t.s,I t.n,I t.pos]
def cS(s:aJ): AV:= .str s
def aL: Expr->AV
 | .mk op v s l=> .agg [I op,I v.kind,I v.n,.str v.s,.str s,.aK false EX (l.map aL)]
def cw(l:List Expr): AV:= .aK false EX (l.map aL)
def bO(t:Test): AV:= .agg [I t.kind,I t.a.op,I t.a.v.kind,I t.a.v.n,.str t.a.v.s,.str t.a.s,cw t.a.l,I t.b.op,I t.b.v.kind,I t.b.v.n,.str t.b.v.s,.str t.b.s,cw t.b.l,.bool t.lo,.bool t.hi]
def fo(l:List Test): AV:= .aK false ES (l.map bO)
def bH(c:Cell): AV:= .agg [.bool c.any,.bool c.neg,fo c.tests]
def cH(l:List eg): AV:= .aK false EV (l.map iJ)
def sD(l:List Tok): AV:= .aK false ET (l.map mF)
def eR(l:List aJ): AV:= .aK false E1 (l.map cS)
def bE(c:cI): AV:= .agg [.str c.name,I c.kind,cH c.order]
def bB(l:List cI): AV:= .aK false EC (l.map bE)
def cN(r:dO): AV:= .agg [eR r.cells,eR r.outs]
def cW(l:List dO): AV:= .aK false ER (l.map cN)
def dy(t:Table): List AV:=[.str t.name,bB t.ins,bB t.outs,I t.bA,I t.agg,cW t.rules]
def bS(t:Table): AV:= .agg (dy t)
def rj(l:List Cell): AV:= .aK false EC (l.map bH)
def mV(l:kP): AV:= .agg [rj l.cells,cw l.outs]
def Ac(l:List kP): AV:= .aK false ER (l.map mV)
def xZ(r:Ready): AV:= .agg [.str r.table.name,bB r.table.ins,bB r.table.outs,I r.table.bA,I r.table.agg,cW r.table.rules,Ac r.lines]
def aR(x:Expr): aL x = .agg [I x.op,I x.v.kind,I x.v.n,.str x.v.s,.str x.s,.aK false EX (x.l.map aL)]:=by
 cases x;simp only[aL];rfl
def Expr.eta(x:Expr): Expr.mk x.op ⟨x.v.kind,x.v.n,x.v.s⟩ x.s x.l=x:=by cases x;rfl
def Expr.ind{C:Expr->Prop}(h:∀ op v s l,(∀ y ∈ l,C y)->C (.mk op v s l)): ∀ x,C x
 | .mk op v s l=>h op v s l fun y _=>Expr.ind h y
attribute [go_sem] aR iJ mF bO bH bE cN dy bS mV xZ cS cw fo cH sD eR bB cW rj Ac
@[go_sem] def Expr.ad_ (op:Int) (v:eg) (s:aJ) (l:List Expr):(Expr.mk op v s l).op=op:=_root_.id rfl
@[go_sem] def Expr.af4 (op:Int) (v:eg) (s:aJ) (l:List Expr):(Expr.mk op v s l).v=v:=_root_.id rfl
@[go_sem] def Expr.af5 (op:Int) (v:eg) (s:aJ) (l:List Expr):(Expr.mk op v s l).s=s:=_root_.id rfl
@[go_sem] def Expr.af6 (op:Int) (v:eg) (s:aJ) (l:List Expr):(Expr.mk op v s l).l=l:=_root_.id rfl
attribute [go_sem] Expr.eta
def Oy(v:eg): (iJ v).dn=true:=rfl
def Oz(t:Tok): (mF t).dn=true:=rfl
def dD(x:Expr): (aL x).dn=true:=by
 induction x using Expr.ind with
 | h op v s l ih =>
   simp only[aL,AV.dn,AV.cy,dA,Bool.and_true];rw[sL];intro a ha;obtain⟨y,hy,rfl⟩:=ek.1 ha;exact ih y hy
def uh(l:List Expr): (cw l).dn=true:=by simp only[cw,AV.dn];exact gZ _ _ dD
def K9(t:Test): (bO t).dn=true:=by simp[bO,AV.dn,AV.cy,uh]
def BZ(l:List Test): (fo l).dn=true:=by simp only[fo,AV.dn];exact gZ _ _ K9
def EU(c:Cell): (bH c).dn=true:=by simp[bH,AV.dn,AV.cy,BZ]
def Te(l:List eg): (cH l).dn=true:=by simp only[cH,AV.dn];exact gZ _ _ Oy
def abB(l:List Tok): (sD l).dn=true:=by simp only[sD,AV.dn];exact gZ _ _ Oz
def K_(l:List aJ): (eR l).dn=true:=by simp only[eR,AV.dn];exact gZ _ _ (fun _=>rfl)
def DC(c:cI): (bE c).dn=true:=by simp[bE,AV.dn,AV.cy,Te]
def eT(l:List cI): (bB l).dn=true:=by simp only[bB,AV.dn];exact gZ _ _ DC
def La(r:dO): (cN r).dn=true:=by simp[cN,AV.dn,AV.cy,K_]
def oM(l:List dO): (cW l).dn=true:=by simp only[cW,AV.dn];exact gZ _ _ La
def Z6(t:Table): (bS t).dn=true:=by simp[bS,dy,AV.dn,AV.cy,eT,oM]
def Qi(l:List Cell): (rj l).dn=true:=by simp only[rj,AV.dn];exact gZ _ _ EU
def Lb(l:kP): (mV l).dn=true:=by simp[mV,AV.dn,AV.cy,Qi,uh]
def Qj(l:List kP): (Ac l).dn=true:=by simp only[Ac,AV.dn];exact gZ _ _ Lb
def Z7(r:Ready): (xZ r).dn=true:=by simp[xZ,AV.dn,AV.cy,eT,oM,Qj]
def Ad(l:List Expr): AV.cy (l.map aL)=true:=gZ _ _ dD
def GH(l:List eg): AV.cy (l.map iJ)=true:=gZ _ _ Oy
def Qk(l:List Tok): AV.cy (l.map mF)=true:=gZ _ _ Oz
def GI(l:List aJ): AV.cy (l.map cS)=true:=gZ _ _ (fun _=>rfl)
def Tf(l:List Test): AV.cy (l.map bO)=true:=gZ _ _ K9
def iL(l:List Cell): AV.cy (l.map bH)=true:=gZ _ _ EU
def tf(l:List cI): AV.cy (l.map bE)=true:=gZ _ _ DC
def Ae(l:List dO): AV.cy (l.map cN)=true:=gZ _ _ La
def Ld(l:List kP): AV.cy (l.map mV)=true:=gZ _ _ Lb
attribute [simp] AV.dn AV.cy Oy Oz dD uh K9 BZ EU Te abB K_ DC eT La oM Z6 Qi Lb Qj Z7 Ad GH Qk GI Tf iL tf Ae Ld
def a_{α : Type}[Inhabited α]{l:List α}{i:Nat}(h:i<l.length): l.getD i default ∈ l:=by
 rw[aE,aQ h];exact fY h
def kz(c:UInt8): Bool:=decide (32<=c.toNat) && decide (c.toNat<=126)
def om(c:UInt8): Bool:=(decide (97<=c.toNat) && decide (c.toNat<=122)) ||(decide (65<=c.toNat) && decide (c.toNat<=90)) || decide (c.toNat=95)
def dP(c:UInt8): Bool:=decide (48<=c.toNat) && decide (c.toNat<=57)
def uj(c:UInt8): Bool:=om c || dP c
def kX(s:aJ): Bool:=decide (s.length<=40) && s.all kz
def bL(v:eg): Bool :=
 if v.kind=0 then decide (v.n=0) && decide (v.s=[])
 else if v.kind=1 then decide (v.s=[])
 else if v.kind=2 then decide (v.n=0) && kX v.s
 else if v.kind=3 then decide (v.s=[]) && (decide (v.n=0) || decide (v.n=1))
 else false
end Go.Proofs.YtmbgnaoilncbnaaGreatDoor
namespace Go.Proofs.YtmbgnaoilncbnaaGreatDoor
open Go.AM
def mW(s:aJ): Nat:=match s with
 | []=>0
 | c::_=>if om c then(s.takeWhile uj).length else 0
structure PR where
 kind:Int
 s:aJ
 n:Int
 len:Nat
 e:Int
deriving Inhabited,DecidableEq
def YP(p:PR): AV:= .bX [.agg [I p.kind,.str p.s,I p.n,I 0,I p.len],I p.e]
def eTP(p:PR): AV:= .bX [.agg [I p.kind,.str p.s,I p.n,I 0],I p.len,I p.e]
attribute [go_sem] YP eTP
def PR.err(e:Int): PR:=⟨0,[],0,0,e⟩
def EW(s:aJ): PR:=if 16<mW s then .err 5 else⟨1,s.take (mW s),0,mW s,0⟩
def x4: aJ->Int->Option Int
 | [],v=>some v
 | c::r,v=>if v>(9223372036854775807-((c.toNat:Int)-48)) / 10 then none else x4 r (v*10+((c.toNat:Int)-48))
def oq(s:aJ): PR :=
 let n:=(s.takeWhile dP).length
 if 1<n/\(s.getD 0 0).toNat=48 then .err 11
 else match x4 (s.takeWhile dP) 0 with
  | none=> .err 15
  | some v=>⟨2,[],v,n,0⟩
def j6: aJ->aJ->Nat->PR
 | [],_,_=> .err 11
 | c :: r, b, i =>
   if c.toNat=34 then(if 40<b.length then .err 5 else⟨3,b,0,i+1,0⟩)
   else if c.toNat=92 then
    match r with
    | []=> .err 11
    | d::r'=>if d.toNat=34\/d.toNat=92 then j6 r' (b++[d]) (i+2)else .err 11
   else if kz c then j6 r (b++[c]) (i+1)else .err 11
def gh (c : UInt8) (r b : aJ) (i : Nat) : j6 (c :: r) b i =
    if c.toNat=34 then(if 40<b.length then .err 5 else⟨3,b,0,i+1,0⟩)
    else if c.toNat=92 then
     match r with
     | []=> .err 11
     | d::r'=>if d.toNat=34\/d.toNat=92 then j6 r' (b++[d]) (i+2)else .err 11
    else if kz c then j6 r (b++[c]) (i+1)else .err 11:=by
 rw[j6.eq_def];rfl
def rm: List aJ:=[[46,46],[33,61],[60,61],[62,61],[40],[41],[91],[93],[44],[43],[45],[42],[47],[61],[60],[62]]
def vV(s:aJ): PR:=match rm.find? (fun m=>m.isPrefixOf s)with
 | some m=>⟨4,m,0,m.length,0⟩
 | none=> .err 11
def iE(s:aJ): PR :=
 let c:=s.getD 0 0
 if om c then EW s else if dP c then oq s else if c.toNat=34 then j6 (s.drop 1) [] 1 else vV s
def tg: Nat->aJ->Nat->List Tok->List Tok × Int × Int
 | 0,_,_,acc=>(acc,0,0)
 | _+1,[],_,acc=>(acc,0,0)
 | f + 1, c :: r, pos, acc =>
   if c.toNat=32 then tg f r (pos+1) acc
   else if(iE (c::r)).e=0 then tg f ((c::r).drop (iE (c::r)).len) (pos+(iE (c::r)).len) (acc++[⟨(iE (c::r)).kind,(iE (c::r)).s,(iE (c::r)).n,pos⟩])
   else([],pos,(iE (c::r)).e)
def bw(s:aJ): List Tok × Int × Int:=if 200<s.length then([],0,5)else tg (s.length+1) s 0 []
def wK: List aJ:=[[97,110,100],[111,114],[110,111,116],[105,102],[116,104,101,110],[101,108,115,101],[116,114,117,101],[102,97,108,115,101],[110,117,108,108]]
def wL(s:aJ): Bool:=wK.contains s
def gE(s:aJ): Bool:=decide (s≠[]) && decide (mW s=s.length) && decide (s.length<=16) && !wL s
def x6{p:UInt8->Bool}(s:aJ): (s.takeWhile p).length<=s.length:=by
 induction s with
 | nil=>simp
 | cons c s ih=>simp only[eV];split<;>simp;omega
def OA(s:aJ): mW s<=s.length:=by
 unfold mW;split
 ·simp
 ·split
  ·exact x6 _
  ·simp
def abC{s:aJ}(h:om (s.getD 0 0)=true)(hs:s≠[]): 1<=mW s:=by
 cases s with
 | nil=>exact absurd rfl hs
 | cons c r =>
   simp only[cQ]at h;simp only[mW,h,if_true,eV,uj,Bool.true_or];simp
def abD(r b:aJ)(i:Nat): (j6 r b i).e=0->i+1<=(j6 r b i).len/\(j6 r b i).len<=i+r.length:=by
 fun_induction j6 r b i<;>simp_all[PR.err]<;>omega
def XI{s:aJ}(h:(oq s).e=0): (oq s).len=(s.takeWhile dP).length:=by
 unfold oq at *;simp only at *;split at h
 ·simp[PR.err]at h
 ·rename_i h1;rw[if_neg h1];split at h
  ·simp[PR.err]at h
  ·rfl
def abE{s:aJ}(h:(vV s).e=0): 1<=(vV s).len/\(vV s).len<=s.length:=by
 unfold vV at *;split at h
 ·rename_i m hm;have h1:=eX hm;have h2:=fK hm;refine⟨?_,(gM.1 h1).length_le⟩;show 1<=m.length;simp only[rm,List.mem_cons,List.not_mem_nil,or_false]at h2;rcases h2 with h|h|h|h|h|h|h|h|h|h|h|h|h|h|h|h<;>subst h<;>simp
 ·simp[PR.err]at h
def OB{s:aJ}(hs:s≠[])(h:(iE s).e=0): 1<=(iE s).len/\(iE s).len<=s.length:=by
 unfold iE at *;simp only at *;split at h
 ·rename_i h1;rw[if_pos h1];unfold EW at *;split at h
  ·simp[PR.err]at h
  ·rename_i h2;rw[if_neg h2];exact⟨abC h1 hs,OA s⟩
 ·rename_i h1;rw[if_neg h1];split at h
  ·rename_i h2;rw[if_pos h2,XI h];refine⟨?_,x6 _⟩;cases s with
   | nil=>exact absurd rfl hs
   | cons c r=>simp only[cQ]at h2;simp[eV,h2]
  ·rename_i h2;rw[if_neg h2];split at h
   ·rename_i h3;rw[if_pos h3];have:=abD _ _ _ h;have h4:1<=s.length:=by cases s with|nil=>exact absurd rfl hs|cons=>simp
    rw[List.length_drop]at this;omega
   ·rename_i h3;rw[if_neg h3];exact abE h
end Go.Proofs.YtmbgnaoilncbnaaGreatDoor
