/- Part. -/
import Derived.Test.YtmbgnaoilncbnaaGreatDoorX12
import Derived.KernelRfl
set_option linter.all false
namespace Go.Proofs.YtmbgnaoilncbnaaGreatDoor
open Go.AM Go.AM.W
set_option maxRecDepth 10000
def qG: aI:=r [X 0 2,V (.bool false) 4]<|
 q (r [L 12 2 13,aD (.bK false ⟨true,12⟩ (.agg [z0,e0,.ae,.ae,z0,z0,.ae,e0,z0,.ae,z0,z0]) 1 [(0,(t 13))]) 14,C k_ [t 14] 15,U 15 16,M 16 17,MF 1 18 17,SF 18 19 17,DF .gtr 19 4000 20 17,O 17 20 21]<|
 c 21 (r [C jj [] 22,M 22 4]<|
 .ret) k)<|
 r [L 12 2 24,C jt [t 24] 25,M 25 23,E 23 0 26,E 23 1 27,M 26 5,M 27 6]<|
 r [L 12 2 29,C qV [t 29] 30,M 30 28,E 28 0 31,E 28 1 32,M 31 7,M 32 8]<|
 r [M 1 34,C kg [t 34] 35,M 35 33,E 33 0 36,E 33 1 37,J [z0,e0,.ae,.ae,z0,z0,.ae,e0,z0,.ae,z0,z0] 9,W 12 9 36,M 37 10]<|
 r [M 1 39,C vJ [t 39] 40,M 40 38,E 38 0 41,E 38 1 42,J [z0,e0,.ae,.ae,z0,z0,.ae,e0,z0,.ae,z0,z0] 11,W 12 11 41,M 42 12]<|
 r [M 5 43,M 7 44,B .eql 43 44 45,M 45 46,MT 6 47 46,MT 8 48 46,BT .eql 47 48 49 46,P 46 49 50,M 50 51,LT 12 2 52 51,CT ju [t 52] 53 51,MT 8 54 51,BT .eql 53 54 55 51,P 51 55 56,M 56 57,LT 12 9 58 57,LT 12 11 59 57,CT kj [t 58,t 59] 60 57,P 57 60 61,M 61 62,MT 10 63 62,MT 12 64 62,BT .eql 63 64 65 62,P 62 65 66,M 66 67,CT jj [] 68 67,P 67 68 69,M 69 4]<|
 .ret
def wD: Of Tryz.prog xe 70 [.tmp 4] qG:=aZ {} Tryz.func7
def sV: aI:=r [X 0 2,V (.bool false) 4]<|
 q (r [L 12 2 8,aD (.bK false ⟨true,12⟩ (.agg [z0,e0,.ae,.ae,z0,z0,.ae,e0,z0,.ae,z0,z0]) 1 [(0,(t 8))]) 9,C k_ [t 9] 10,U 10 11,M 11 12,LF 12 2 13 12,CF ju [t 13] 14 12,DF .neq 14 0 15 12,O 12 15 16]<|
 c 16 (r [C jj [] 17,M 17 4]<|
 .ret) k)<|
 r [L 12 2 18,J [z0,e0,.ae,.ae,z0,z0,.ae,e0,z0,.ae,z0,z0] 5,W 12 5 18]<|
 r [M 1 19,A 8 5 20,W 1 20 19]<|
 r [L 12 5 21,C ju [t 21] 22,M 22 6]<|
 q (r [A 0 2 23,K 23 24,D .neq 24 2 25,M 25 26,AT 0 2 27 26,KT 27 28 26,DT .neq 28 3 29 26,P 26 29 30,M 30 31,MT 1 32 31,DT .neq 32 0 33 31,P 31 33 34,M 34 35,MT 6 36 35,DT .neq 36 2 37 35,P 35 37 38]<|
 c 38 (r [V (.bool false) 4]<|
 .ret) k)<|
 r [L 12 2 39,W 12 5 39]<|
 r [M 1 40,A 11 5 41,W 1 41 40]<|
 r [L 12 5 42,C ju [t 42] 43,M 43 7]<|
 q (r [A 0 2 44,K 44 45,D .neq 45 5 46,M 46 47,MT 1 48 47,DT .neq 48 0 49 47,P 47 49 50,M 50 51,MT 7 52 51,DT .neq 52 2 53 51,P 51 53 54]<|
 c 54 (r [V (.bool false) 4]<|
 .ret) k)<|
 q (r [M 1 55,D .lss 55 1 56,M 56 57,MF 1 58 57,DF .gtr 58 9 59 57,O 57 59 60]<|
 c 60 (r [L 12 2 61,W 12 5 61]<|
 r [M 1 62,A 0 5 63,W 1 63 62]<|
 r [L 12 5 64,C ju [t 64] 65,D .neq 65 2 66]<|
 c 66 (r [V (.bool false) 4]<|
 .ret) k) k)<|
 r [C jj [] 67,M 67 4]<|
 .ret
def yw: Of Tryz.prog zS 68 [.tmp 4] sV:=aZ {} Tryz.func8
def rY: aI:=r [V (.bool false) 4]<|
 q (r [M 0 22,C k_ [t 22] 23,U 23 24,M 24 25,MF 1 26 25,SF 26 27 25,DF .gtr 27 4000 28 25,O 25 28 29]<|
 c 29 (r [C jj [] 30,M 30 4]<|
 .ret) k)<|
 q (r [V z0 5]<|
 .block 0 (.loop (q (r [M 5 31,M 0 32,N 32 33,B .lss 31 33 34]<|
 c 34 k (.exit 0))<|
 q (.block 1 (r [M 0 38,M 5 39,I true 12 38 39 40,L 12 40 41,C jt [t 41] 42,M 42 37,E 37 0 43,E 37 1 44,M 43 6,M 44 7]<|
 q (r [M 7 45,D .neq 45 0 46]<|
 c 46 (.exit 1) k)<|
 r [M 6 48,C kg [t 48] 49,M 49 47,E 47 0 50,E 47 1 51,J [z0,e0,.ae,.ae,z0,z0,.ae,e0,z0,.ae,z0,z0] 8,W 12 8 50,M 51 9]<|
 q (.draw [L 12 8 52,M 0 53,M 5 54,I true 12 53 54 55,L 12 55 56,Q kj [t 52,t 56] 57,U 57 58,M 58 59,MF 9 60 59,DF .neq 60 0 61 59,O 59 61 62] [])<|
 c 62 (r [V (.bool false) 4]<|
 .ret) k))<|
 R [M 5 35,D .add 35 1 36,M 36 5])))<|
 q (r [M 0 64,C oG [t 64] 65,M 65 63,E 63 0 66,E 63 1 67,M 66 10,M 67 11]<|
 r [M 11 68,D .eql 68 0 69]<|
 c 69 (r [M 10 71,C ko [t 71] 72,M 72 70,E 70 0 73,E 70 1 74,M 73 12,M 74 13]<|
 r [M 0 75,M 12 76,C si [t 75,t 76] 77,U 77 78,M 78 79,MF 13 80 79,DF .neq 80 0 81 79,O 79 81 82]<|
 c 82 (r [V (.bool false) 4]<|
 .ret) k) k)<|
 r [M 1 84,C kg [t 84] 85,M 85 83,E 83 0 86,E 83 1 87,J [z0,e0,.ae,.ae,z0,z0,.ae,e0,z0,.ae,z0,z0] 14,W 12 14 86,M 87 15]<|
 q (r [M 15 88,D .eql 88 0 89]<|
 c 89 (r [L 12 14 91,C jt [t 91] 92,M 92 90,E 90 0 93,E 90 1 94,M 93 16,M 94 17]<|
 r [M 16 95,M 1 96,B .neq 95 96 97,M 97 98,MF 17 99 98,DF .neq 99 0 100 98,O 98 100 101]<|
 c 101 (r [V (.bool false) 4]<|
 .ret) k) k)<|
 r [M 1 103,C ko [t 103] 104,M 104 102,E 102 0 105,E 102 1 106,M 105 18,M 106 19]<|
 q (r [M 19 107,D .eql 107 0 108]<|
 c 108 (r [M 18 110,C oG [t 110] 111,M 111 109,E 109 0 112,E 109 1 113,M 112 20,M 113 21]<|
 r [M 20 114,M 1 115,B .neq 114 115 116,M 116 117,MF 21 118 117,DF .neq 118 0 119 117,O 117 119 120]<|
 c 120 (r [V (.bool false) 4]<|
 .ret) k) k)<|
 r [M 15 121,D .eql 121 0 122,M 122 123,LF 12 14 124 123,⟨.build [z0,e0,.ae,.ae,z0,z0,.ae,e0,z0,.ae,z0,z0] [],(some 125),some (123,false)⟩,CF kj [t 124,t 125] 126 123,O 123 126 127,M 127 128,MT 19 129 128,DT .eql 129 0 130 128,MT 130 131 128,MF 18 132 131,NF 132 133 131,DF .eql 133 0 134 131,OT 131 134 135 128,P 128 135 136,M 136 137,CT jj [] 138 137,P 137 138 139,M 139 4]<|
 .ret
def xG: Of Tryz.prog yu 140 [.tmp 4] rY:=aZ {} Tryz.func9
def oY: aI:=r [V (.bool false) 4]<|
 q (r [M 0 14,C k_ [t 14] 15,U 15 16,M 16 17,MF 1 18 17,SF 18 19 17,DF .gtr 19 4000 20 17,O 17 20 21]<|
 c 21 (r [C jj [] 22,M 22 4]<|
 .ret) k)<|
 r [M 0 24,C oG [t 24] 25,M 25 23,E 23 0 26,E 23 1 27,M 26 5,M 27 6]<|
 r [M 0 29,C Ay [t 29] 30,M 30 28,E 28 0 31,E 28 1 32,M 31 7,M 32 8]<|
 r [M 1 34,C ko [t 34] 35,M 35 33,E 33 0 36,E 33 1 37,M 36 9,M 37 10]<|
 r [M 1 39,C Az [t 39] 40,M 40 38,E 38 0 41,E 38 1 42,M 41 11,M 42 12]<|
 q (r [V z0 13]<|
 .block 0 (.loop (q (r [M 13 43,D .add 43 1 44,M 0 45,N 45 46,B .lss 44 46 47]<|
 c 47 k (.exit 0))<|
 q (.block 1 (q (.draw [M 0 50,M 13 51,I true 12 50 51 52,L 12 52 53,M 0 54,M 13 55,D .add 55 1 56,I true 12 54 56 57,L 12 57 58,Q yV [t 53,t 58] 59,M 0 60,M 13 61,I true 12 60 61 62,L 12 62 63,M 0 64,M 13 65,D .add 65 1 66,I true 12 64 66 67,L 12 67 68,Q kj [t 63,t 68] 69,aD (.qd true false [.b] (t 59) (t 69)) 70] [])<|
 c 70 (r [V (.bool false) 4]<|
 .ret) k))<|
 R [M 13 48,D .add 48 1 49,M 49 13])))<|
 r [M 5 71,M 7 72,B .eql 71 72 73,M 73 74,MT 6 75 74,MT 8 76 74,BT .eql 75 76 77 74,P 74 77 78,M 78 79,MT 9 80 79,MT 11 81 79,CT si [t 80,t 81] 82 79,P 79 82 83,M 83 84,MT 10 85 84,MT 12 86 84,BT .eql 85 86 87 84,P 84 87 88,M 88 89,CT jj [] 90 89,P 89 90 91,M 91 4]<|
 .ret
def uB: Of Tryz.prog uW 92 [.tmp 4] oY:=aZ {} Tryz.func10
def Es: aI:=r [X 0 1,V (.bool false) 2]<|
 q (r [A 0 1 4,K 4 5,S 5 6,D .gtr 6 300 7,M 7 8,AF 5 1 9 8,KF 9 10 8,NF 10 11 8,DF .gtr 11 26 12 8,O 8 12 13,M 13 14,AF 1 1 15 14,KF 15 16 14,CF vK [t 16] 17 14,UF 17 18 14,O 14 18 19,M 19 20,AF 2 1 21 20,KF 21 22 20,CF vK [t 22] 23 20,UF 23 24 20,O 20 24 25]<|
 c 25 (r [V (.bool false) 2]<|
 .ret) k)<|
 q (r [V z0 3]<|
 .block 0 (.loop (q (r [M 3 26,A 5 1 27,K 27 28,N 28 29,B .lss 26 29 30]<|
 c 30 k (.exit 0))<|
 q (.block 1 (r [A 5 1 33,K 33 34,M 3 35,I true 2 34 35 36,A 0 36 37,K 37 38,C vL [t 38] 39,U 39 40,M 40 41,AF 5 1 42 41,KF 42 43 41,MF 3 44 41,IF true 2 43 44 45 41,AF 1 45 46 41,KF 46 47 41,CF vL [t 47] 48 41,UF 48 49 41,O 41 49 50]<|
 c 50 (r [V (.bool false) 2]<|
 .ret) k))<|
 R [M 3 31,D .add 31 1 32,M 32 3])))<|
 r [V (.bool true) 2]<|
 .ret
def Oa: Of Tryz.prog xg 51 [.tmp 2] Es:=aZ {} Tryz.func11
def ue: aI:=r [X 0 1,V e0 2,V z0 3]<|
 r [L 6 1 12,C yU [t 12] 13,M 13 11,E 11 0 14,E 11 1 15,E 11 2 16,E 11 3 17,J [e0,.ae,.ae,z0,z0,.ae] 4,W 6 4 14,M 15 5,M 16 6,M 17 7]<|
 q (.block 0 (r [M 7 19,D .neq 19 0 20,M 20 18]<|
 c 18 (r [M 7 21,V e0 2,M 21 3]<|
 .ret) (r [L 6 4 23,L 6 1 24,C qW [t 23,t 24] 25,U 25 26,M 26 22]<|
 c 22 (r [V e0 2,V (i6 4) 3]<|
 .ret) k)))<|
 q (.draw [A 0 1 27,K 27 28,Q kp [t 28] 29,A 3 1 30,K 30 31,Q gw [t 31] 32,B .add 29 32 33,A 4 1 34,K 34 35,Q gw [t 35] 36,B .add 33 36 37,M 37 8] [])<|
 q (.draw [M 8 38,A 1 1 39,K 39 40,aD (.call true (.c (.fn (.func qy) [] [])) [(t 40),(.c (.fn (.func qz) [] []))]) 41,A 2 1 42,K 42 43,aD (.call true (.c (.fn (.func qy) [] [])) [(t 43),(.c (.fn (.func tW) [] []))]) 44,B .add 41 44 45,A 5 1 46,K 46 47,N 47 48,Q gw [t 48] 49,B .add 45 49 50,B .add 38 50 51,M 51 8] [])<|
 q (r [A 5 1 52,K 52 53,N 53 54,V z0 55]<|
 .block 1 (.loop (r [B .lss 55 54 56]<|
 q (c 56 k (.exit 1))<|
 q (.block 2 (r [I true 2 53 55 57,L 2 57 58,J [.ae,.ae] 10,W 2 10 58]<|
 .draw [M 8 59,A 0 10 60,K 60 61,Q tX [t 61] 62,A 1 10 63,K 63 64,Q tX [t 64] 65,B .add 62 65 66,B .add 59 66 67,M 67 8] []))<|
 R [D .add 55 1 68,M 68 55])))<|
 q (r [M 8 69,S 69 70,D .gtr 70 1400 71]<|
 c 71 (r [V e0 2,V (i6 5) 3]<|
 .ret) k)<|
 r [M 8 72,M 72 2,V z0 3]<|
 .ret
def xH: Of Tryz.prog pH 73 [.tmp 2,.tmp 3] ue:=aZ {} Tryz.func13
def q9: aI:=r [X 0 1,V e0 2,V z0 3]<|
 r [L 6 1 10,C AA [t 10] 11,M 11 9,E 9 0 12,E 9 1 13,E 9 2 14,E 9 3 15,J [e0,.ae,.ae,z0,z0,.ae] 4,W 6 4 12,M 13 5,M 14 6,M 15 7]<|
 q (.block 0 (r [M 7 17,D .neq 17 0 18,M 18 16]<|
 c 16 (r [M 7 19,V e0 2,M 19 3]<|
 .ret) (r [L 6 4 21,L 6 1 22,C xh [t 21,t 22] 23,U 23 24,M 24 20]<|
 c 20 (r [V e0 2,V (i6 4) 3]<|
 .ret) k)))<|
 r [L 6 1 25,C CP [t 25] 26,M 26 8]<|
 q (r [M 8 27,S 27 28,D .gtr 28 1400 29]<|
 c 29 (r [V e0 2,V (i6 5) 3]<|
 .ret) k)<|
 r [M 8 30,M 30 2,V z0 3]<|
 .ret
def uf: Of Tryz.prog qU 31 [.tmp 2,.tmp 3] q9:=aZ {} Tryz.func14
def y7: aI:=r [J [e0,.ae,.ae,z0,z0,.ae] 2,V z0 3]<|
 q (r [M 0 9,S 9 10,D .gtr 10 1400 11]<|
 c 11 (r [aD (.build [e0,.ae,.ae,z0,z0,.ae] []) 12,W 6 2 12,V (i6 5) 3]<|
 .ret) k)<|
 r [M 0 13,aD (.build [e0,(.bool false)] [(0,1,(t 13))]) 14,X 14 15,M 15 4]<|
 r [M 4 16,C kq [t 16] 17,aD (.build [e0,.ae,.ae,z0,z0,.ae] [(0,1,(t 17))]) 18,J [e0,.ae,.ae,z0,z0,.ae] 5,W 6 5 18]<|
 r [M 4 19,C iO [t 19] 20,M 4 21,C iO [t 21] 22,A 3 5 23,W 1 23 20,A 4 5 24,W 1 24 22]<|
 r [M 4 25,M 4 26,aD (.qu (.func mO) [(t 26)] []) 27,C kR [t 25,t 27] 28,A 1 5 29,W 1 29 28]<|
 r [M 4 30,M 4 31,aD (.qu (.func nK) [(t 31)] []) 32,C kR [t 30,t 32] 33,A 2 5 34,W 1 34 33]<|
 q (r [M 4 35,C iO [t 35] 36,M 36 6]<|
 .block 0 (.loop (q (r [A 5 5 37,K 37 38,N 38 39,M 6 40,aD (.min (t 40) [(.c (i6 25))]) 41,B .lss 39 41 42,M 42 43,MT 4 44 43,ZT 44 45 43,AT 1 45 46 43,KT 46 47 43,UT 47 48 43,P 43 48 49]<|
 c 49 k (.exit 0))<|
 .block 1 (.draw [A 5 5 50,K 50 51,M 4 52,A 1 5 53,K 53 54,N 54 55,aD (.mL (.c (.fn (.func lZ) [] [])) [(t 52),(t 55)]) 56,M 4 57,A 2 5 58,K 58 59,N 59 60,aD (.mL (.c (.fn (.func lZ) [] [])) [(t 57),(t 60)]) 61,aD (.build [.ae,.ae] [(0,1,(t 56)),(1,1,(t 61))]) 62,aD (.bK false ⟨true,2⟩ (.agg [.ae,.ae]) 1 [(0,(t 62))]) 63,aD (.app none ⟨true,2⟩ (t 51) (t 63)) 64,A 5 5 65,W 1 65 64] [((t 50),(t 52)),((t 58),(t 52)),((t 50),(t 57))]))))<|
 q (r [L 6 5 67,C pH [t 67] 68,M 68 66,E 66 0 69,E 66 1 70,M 69 7,M 70 8]<|
 r [M 4 71,Z 71 72,A 1 72 73,K 73 74,M 74 75,MF 8 76 75,DF .neq 76 0 77 75,O 75 77 78,M 78 79,MF 7 80 79,MF 0 81 79,BF .neq 80 81 82 79,O 79 82 83]<|
 c 83 (r [aD (.build [e0,.ae,.ae,z0,z0,.ae] []) 84,W 6 2 84,V (i6 4) 3]<|
 .ret) k)<|
 r [L 6 5 85,W 6 2 85,V z0 3]<|
 .ret
def Et: Of Tryz.prog yT 86 [.cell 2 true 6,.tmp 3] y7:=aZ ⟨[],[],[],[],[56,61],[]⟩ Tryz.func15
def A6: aI:=r [J [e0,.ae,.ae,z0,z0,.ae] 2,V z0 3]<|
 q (r [M 0 13,S 13 14,D .gtr 14 1400 15]<|
 c 15 (r [aD (.build [e0,.ae,.ae,z0,z0,.ae] []) 16,W 6 2 16,V (i6 5) 3]<|
 .ret) k)<|
 r [M 0 17,aD (.build [e0,(.bool false)] [(0,1,(t 17))]) 18,X 18 19,M 19 4]<|
 r [M 4 20,C jB [t 20] 21,M 4 22,C jd [t 22] 23,M 4 24,C jd [t 24] 25,M 4 26,aD (.call false (.c (.fn (.func lG) [] [])) [(t 26),(.c (.bool false))]) 27,M 4 28,aD (.call false (.c (.fn (.func lG) [] [])) [(t 28),(.c (.bool true))]) 29,aD (.build [e0,.ae,.ae,z0,z0,.ae] [(0,1,(t 21)),(3,1,(t 23)),(4,1,(t 25)),(1,1,(t 27)),(2,1,(t 29))]) 30,J [e0,.ae,.ae,z0,z0,.ae] 5,W 6 5 30]<|
 r [M 4 31,C jd [t 31] 32,M 32 6]<|
 q (r [V z0 7]<|
 .block 0 (.loop (q (r [M 7 33,M 6 34,B .lss 33 34 35,M 35 36,MT 4 37 36,ZT 37 38 36,AT 1 38 39 36,KT 39 40 36,UT 40 41 36,P 36 41 42]<|
 c 42 k (.exit 0))<|
 q (.block 1 (r [aD (.build [.ae,.ae] []) 45,J [.ae,.ae] 8,W 2 8 45]<|
 q (r [V z0 9]<|
 .block 2 (.loop (q (r [M 9 46,A 1 5 47,K 47 48,N 48 49,B .lss 46 49 50]<|
 c 50 k (.exit 2))<|
 q (.block 3 (.draw [A 0 8 53,K 53 54,M 4 55,aD (.mL (.c (.fn (.func jB) [] [])) [(t 55)]) 56,aD (.bK false ⟨false,1⟩ e0 1 [(0,(t 56))]) 57,aD (.app none ⟨false,1⟩ (t 54) (t 57)) 58,A 0 8 59,W 1 59 58] [((t 53),(t 55))]))<|
 R [M 9 51,D .add 51 1 52,M 52 9])))<|
 q (r [V z0 10]<|
 .block 4 (.loop (q (r [M 10 60,A 2 5 61,K 61 62,N 62 63,B .lss 60 63 64]<|
 c 64 k (.exit 4))<|
 q (.block 5 (.draw [A 1 8 67,K 67 68,M 4 69,aD (.mL (.c (.fn (.func jB) [] [])) [(t 69)]) 70,aD (.bK false ⟨false,1⟩ e0 1 [(0,(t 70))]) 71,aD (.app none ⟨false,1⟩ (t 68) (t 71)) 72,A 1 8 73,W 1 73 72] [((t 67),(t 69))]))<|
 R [M 10 65,D .add 65 1 66,M 66 10])))<|
 q (r [A 0 8 74,K 74 75,N 75 76,A 1 8 77,K 77 78,N 78 79,B .add 76 79 80,D .eql 80 0 81]<|
 c 81 (R [M 4 82,Z 82 83,A 1 83 84,⟨.store 1 (t 84) (.c (.bool true)),none,none⟩]) k)<|
 R [A 5 5 85,K 85 86,L 2 8 87,aD (.bK false ⟨true,2⟩ (.agg [.ae,.ae]) 1 [(0,(t 87))]) 88,aD (.app none ⟨true,2⟩ (t 86) (t 88)) 89,A 5 5 90,W 1 90 89]))<|
 R [M 7 43,D .add 43 1 44,M 44 7])))<|
 q (r [M 4 91,Z 91 92,A 1 92 93,K 93 94,M 94 95,MF 4 96 95,ZF 96 97 95,AF 0 97 98 95,KF 98 99 95,⟨.bin .neq (t 99) (.c e0),(some 100),some (95,false)⟩,O 95 100 101]<|
 c 101 (r [aD (.build [e0,.ae,.ae,z0,z0,.ae] []) 102,W 6 2 102,V (i6 4) 3]<|
 .ret) k)<|
 q (r [L 6 5 104,C qU [t 104] 105,M 105 103,E 103 0 106,E 103 1 107,M 106 11,M 107 12]<|
 r [M 12 108,D .neq 108 0 109,M 109 110,MF 11 111 110,MF 0 112 110,BF .neq 111 112 113 110,O 110 113 114]<|
 c 114 (r [aD (.build [e0,.ae,.ae,z0,z0,.ae] []) 115,W 6 2 115,V (i6 4) 3]<|
 .ret) k)<|
 r [L 6 5 116,W 6 2 116,V z0 3]<|
 .ret
def F6: Of Tryz.prog Ax 117 [.cell 2 true 6,.tmp 3] A6:=aZ ⟨[],[],[],[],[56,70],[]⟩ Tryz.func16
def Da: aI:=r [X 0 2,X 1 3,V (.bool false) 4]<|
 q (r [A 0 2 6,K 6 7,A 0 3 8,K 8 9,B .neq 7 9 10,M 10 11,AF 3 2 12 11,KF 12 13 11,AF 3 3 14 11,KF 14 15 11,BF .neq 13 15 16 11,O 11 16 17,M 17 18,AF 4 2 19 18,KF 19 20 18,AF 4 3 21 18,KF 21 22 18,BF .neq 20 22 23 18,O 18 23 24,M 24 25,AF 5 2 26 25,KF 26 27 25,NF 27 28 25,AF 5 3 29 25,KF 29 30 25,NF 30 31 25,BF .neq 28 31 32 25,O 25 32 33]<|
 c 33 (r [V (.bool false) 4]<|
 .ret) k)<|
 q (r [V z0 5]<|
 .block 0 (.loop (q (r [M 5 34,A 5 2 35,K 35 36,N 36 37,B .lss 34 37 38]<|
 c 38 k (.exit 0))<|
 q (.block 1 (q (.draw [A 5 2 41,K 41 42,M 5 43,I true 2 42 43 44,A 0 44 45,K 45 46,A 5 3 47,K 47 48,M 5 49,I true 2 48 49 50,A 0 50 51,K 51 52,Q pq [t 46,t 52] 53,U 53 54,M 54 55,AF 5 2 56 55,KF 56 57 55,MF 5 58 55,IF true 2 57 58 59 55,AF 1 59 60 55,KF 60 61 55,AF 5 3 62 55,KF 62 63 55,MF 5 64 55,IF true 2 63 64 65 55,AF 1 65 66 55,KF 66 67 55,QF pq [t 61,t 67] 68 55,UF 68 69 55,O 55 69 70] [])<|
 c 70 (r [V (.bool false) 4]<|
 .ret) k))<|
 R [M 5 39,D .add 39 1 40,M 40 5])))<|
 r [A 1 2 71,K 71 72,A 1 3 73,K 73 74,C nL [t 72,t 74] 75,M 75 76,AT 2 2 77 76,KT 77 78 76,AT 2 3 79 76,KT 79 80 76,CT nL [t 78,t 80] 81 76,P 76 81 82,M 82 4]<|
 .ret
def IK: Of Tryz.prog xh 83 [.tmp 4] Da:=aZ {} Tryz.func17
def y8: aI:=r [X 0 1,J [e0,.ae,.ae,z0,z0,.ae] 2,V z0 3,V z0 4,V z0 5]<|
 .scope 0 (r [L 6 1 22,C AB [t 22] 23,M 23 21,E 21 0 24,E 21 1 25,E 21 2 26,E 21 3 27,J [e0,.ae,.ae,z0,z0,.ae,.ae] 6,W 7 6 24,M 25 7,M 26 8,M 27 9]<|
 q (r [M 9 28,D .neq 28 0 29]<|
 c 29 (r [aD (.build [e0,.ae,.ae,z0,z0,.ae] []) 30,M 7 31,M 8 32,M 9 33,W 6 2 30,M 31 3,M 32 4,M 33 5]<|
 .ret) k)<|
 r [L 6 1 34,J [e0,.ae,.ae,z0,z0,.ae] 10,W 6 10 34]<|
 r [A 5 10 35,⟨.store 1 (t 35) (.c .ae),none,none⟩]<|
 r [J [.ae,.ae] 11]<|
 r [V (.fn (.func ld) [] []) 12]<|
 q (.label 0)<|
 q (r [A 6 6 36,K 36 37,N 37 38,V z0 39]<|
 .block 0 (.loop (r [B .lss 39 38 40]<|
 q (c 40 k (.exit 0))<|
 q (.block 1 (r [M 39 41,I true 2 37 39 42,L 2 42 43,J [.ae,.ae] 14,M 41 13,W 2 14 43]<|
 r [aD (.build [.ae,.ae] []) 44,M 13 45,W 2 11 44,M 45 7]<|
 q (r [A 0 14 46,K 46 47,N 47 48,V z0 49]<|
 .block 2 (.loop (r [B .lss 49 48 50]<|
 q (c 50 k (.exit 2))<|
 q (.block 3 (r [M 49 51,I true 3 47 49 52,L 3 52 53,J [(.bool false),(.bool false),.ae] 16,M 51 15,W 3 16 53]<|
 r [V e0 17]<|
 r [L 3 16 55,C uX [t 55] 56,M 56 54,E 54 0 57,E 54 1 58,M 57 17,M 58 9]<|
 r [M 15 59,M 59 8]<|
 r [M 12 60,A 0 11 61,M 17 62,M 9 63,aD (.call false (t 60) [(t 61),(t 62),(t 63)]) 64,U 64 65]<|
 c 65 (.exit 0) k))<|
 R [D .add 49 1 66,M 66 49])))<|
 q (r [A 1 14 67,K 67 68,N 68 69,V z0 70]<|
 .block 4 (.loop (r [B .lss 70 69 71]<|
 q (c 71 k (.exit 4))<|
 q (.block 5 (r [M 70 72,I true 6 68 70 73,L 6 73 74,J [z0,z0,z0,e0,e0,.ae] 19,M 72 18,W 6 19 74]<|
 r [V e0 20]<|
 r [L 6 19 76,C n_ [t 76] 77,M 77 75,E 75 0 78,E 75 1 79,M 78 20,M 79 9]<|
 r [A 1 1 80,K 80 81,N 81 82,M 18 83,B .add 82 83 84,M 84 8]<|
 r [M 12 85,A 1 11 86,M 20 87,M 9 88,aD (.call false (t 85) [(t 86),(t 87),(t 88)]) 89,U 89 90]<|
 c 90 (.exit 0) k))<|
 R [D .add 70 1 91,M 91 70])))<|
 R [A 5 10 92,K 92 93,L 2 11 94,aD (.bK false ⟨true,2⟩ (.agg [.ae,.ae]) 1 [(0,(t 94))]) 95,aD (.app none ⟨true,2⟩ (t 93) (t 95)) 96,A 5 10 97,W 1 97 96]))<|
 R [D .add 39 1 98,M 98 39])))<|
 q (r [M 9 99,D .neq 99 0 100]<|
 c 100 (r [aD (.build [e0,.ae,.ae,z0,z0,.ae] []) 101,M 7 102,M 8 103,M 9 104,W 6 2 101,M 102 3,M 103 4,M 104 5]<|
 .ret) k)<|
 r [L 6 10 105,W 6 2 105,V z0 3,V z0 4,V z0 5]<|
 .ret) (.seq k <|
 q (r [A 6 6 36,K 36 37,N 37 38,V z0 39]<|
 .block 0 (.loop (r [B .lss 39 38 40]<|
 q (c 40 k (.exit 0))<|
 q (.block 1 (r [M 39 41,I true 2 37 39 42,L 2 42 43,J [.ae,.ae] 14,M 41 13,W 2 14 43]<|
 r [aD (.build [.ae,.ae] []) 44,M 13 45,W 2 11 44,M 45 7]<|
 q (r [A 0 14 46,K 46 47,N 47 48,V z0 49]<|
 .block 2 (.loop (r [B .lss 49 48 50]<|
 q (c 50 k (.exit 2))<|
 q (.block 3 (r [M 49 51,I true 3 47 49 52,L 3 52 53,J [(.bool false),(.bool false),.ae] 16,M 51 15,W 3 16 53]<|
 r [V e0 17]<|
 r [L 3 16 55,C uX [t 55] 56,M 56 54,E 54 0 57,E 54 1 58,M 57 17,M 58 9]<|
 r [M 15 59,M 59 8]<|
 r [M 12 60,A 0 11 61,M 17 62,M 9 63,aD (.call false (t 60) [(t 61),(t 62),(t 63)]) 64,U 64 65]<|
 c 65 (.exit 0) k))<|
 R [D .add 49 1 66,M 66 49])))<|
 q (r [A 1 14 67,K 67 68,N 68 69,V z0 70]<|
 .block 4 (.loop (r [B .lss 70 69 71]<|
 q (c 71 k (.exit 4))<|
 q (.block 5 (r [M 70 72,I true 6 68 70 73,L 6 73 74,J [z0,z0,z0,e0,e0,.ae] 19,M 72 18,W 6 19 74]<|
 r [V e0 20]<|
 r [L 6 19 76,C n_ [t 76] 77,M 77 75,E 75 0 78,E 75 1 79,M 78 20,M 79 9]<|
 r [A 1 1 80,K 80 81,N 81 82,M 18 83,B .add 82 83 84,M 84 8]<|
 r [M 12 85,A 1 11 86,M 20 87,M 9 88,aD (.call false (t 85) [(t 86),(t 87),(t 88)]) 89,U 89 90]<|
 c 90 (.exit 0) k))<|
 R [D .add 70 1 91,M 91 70])))<|
 R [A 5 10 92,K 92 93,L 2 11 94,aD (.bK false ⟨true,2⟩ (.agg [.ae,.ae]) 1 [(0,(t 94))]) 95,aD (.app none ⟨true,2⟩ (t 93) (t 95)) 96,A 5 10 97,W 1 97 96]))<|
 R [D .add 39 1 98,M 98 39])))<|
 q (r [M 9 99,D .neq 99 0 100]<|
 c 100 (r [aD (.build [e0,.ae,.ae,z0,z0,.ae] []) 101,M 7 102,M 8 103,M 9 104,W 6 2 101,M 102 3,M 103 4,M 104 5]<|
 .ret) k)<|
 r [L 6 10 105,W 6 2 105,V z0 3,V z0 4,V z0 5]<|
 .ret)
def Eu: Of Tryz.prog yU 106 [.cell 2 true 6,.tmp 3,.tmp 4,.tmp 5] y8:=aZ {} Tryz.func18
def Db: aI:=r [V (.bool false) 2]<|
 q (r [M 0 4,N 4 5,D .gtr 5 70 6]<|
 c 6 (r [V (.bool false) 2]<|
 .ret) k)<|
 q (r [V z0 3]<|
 .block 0 (.loop (q (r [M 3 7,M 0 8,N 8 9,B .lss 7 9 10]<|
 c 10 k (.exit 0))<|
 q (.block 1 (r [M 0 13,M 3 14,I true 12 13 14 15,A 1 15 16,L 6 16 17,C xg [t 17] 18,U 18 19,M 19 20,MF 0 21 20,MF 3 22 20,IF true 12 21 22 23 20,AF 7 23 24 20,KF 24 25 20,SF 25 26 20,DF .gtr 26 300 27 20,O 20 27 28,M 28 29,MF 0 30 29,MF 3 31 29,IF true 12 30 31 32 29,AF 9 32 33 29,KF 33 34 29,CF xj [t 34] 35 29,UF 35 36 29,O 29 36 37]<|
 c 37 (r [V (.bool false) 2]<|
 .ret) k))<|
 R [M 3 11,D .add 11 1 12,M 12 3])))<|
 r [V (.bool true) 2]<|
 .ret
def MJ: Of Tryz.prog k_ 38 [.tmp 2] Db:=aZ {} Tryz.func19
def IL: aI:=r [V (.bool false) 0]<|
 r [aD (.build [z0,e0,.ae,.ae,z0,z0,.ae,e0,z0,.ae,z0,z0] [(0,1,(.c (i6 5))),(10,1,(.c (i6 2))),(11,1,(.c (i6 5)))]) 6,C jt [t 6] 7,M 7 5,E 5 0 8,E 5 1 9,M 8 1,M 9 2]<|
 r [aD (.call false (.c (.fn (.func kg) [] [])) [(.c (.str [8]))]) 11,M 11 10,E 10 0 12,E 10 1 13,J [z0,e0,.ae,.ae,z0,z0,.ae,e0,z0,.ae,z0,z0] 3,W 12 3 12,M 13 4]<|
 r [M 1 14,aD (.bin .eql (t 14) (.c (.str [10,4,10]))) 15,M 15 16,MT 2 17 16,DT .eql 17 0 18 16,P 16 18 19,M 19 20,LT 12 3 21 20,⟨.build [z0,e0,.ae,.ae,z0,z0,.ae,e0,z0,.ae,z0,z0] [(0,1,(.c (i6 4)))],(some 22),some (20,true)⟩,CT kj [t 21,t 22] 23 20,P 20 23 24,M 24 25,MT 4 26 25,DT .eql 26 0 27 25,P 25 27 28,M 28 0]<|
 .ret
def RJ: Of Tryz.prog jj 29 [.tmp 0] IL:=aZ {} Tryz.func20
def xI: aI:=r [X 0 1,V e0 2,V z0 3]<|
 q (r [L 12 1 12,C ju [t 12] 13,M 13 4]<|
 r [M 4 14,D .neq 14 0 15]<|
 c 15 (r [M 4 16,V e0 2,M 16 3]<|
 .ret) k)<|
 r [A 0 1 18,K 18 19,C pI [t 19] 20,M 20 17,E 17 0 21,E 17 1 22,M 21 5,M 22 6]<|
 r [A 0 1 23,K 23 24,C gw [t 24] 25,M 25 7]<|
 q (r [M 5 26,D .and 26 1 27,D .neq 27 0 28]<|
 c 28 (r [A 1 1 30,L 6 30 31,C pH [t 31] 32,M 32 29,E 29 0 33,E 29 1 34,M 33 8,M 34 9]<|
 R [M 7 35,M 8 36,C kp [t 36] 37,B .add 35 37 38,M 38 7]) k)<|
 q (r [M 5 39,D .and 39 2 40,D .neq 40 0 41]<|
 c 41 (.draw [M 7 42,A 7 1 43,K 43 44,Q kp [t 44] 45,A 8 1 46,K 46 47,Q gw [t 47] 48,B .add 45 48 49,B .add 42 49 50,M 50 7] []) k)<|
 q (r [M 5 51,D .and 51 4 52,D .neq 52 0 53]<|
 c 53 (r [A 9 1 55,K 55 56,C zA [t 56] 57,M 57 54,E 54 0 58,E 54 1 59,M 58 10,M 59 11]<|
 R [M 7 60,M 10 61,B .add 60 61 62,M 62 7]) k)<|
 q (r [M 5 63,D .and 63 8 64,D .neq 64 0 65]<|
 c 65 (R [M 7 66,A 10 1 67,K 67 68,C gw [t 68] 69,B .add 66 69 70,M 70 7]) k)<|
 q (r [M 5 71,D .and 71 16 72,D .neq 72 0 73]<|
 c 73 (R [M 7 74,A 11 1 75,K 75 76,C gw [t 76] 77,B .add 74 77 78,M 78 7]) k)<|
 r [M 7 79,M 79 2,V z0 3]<|
 .ret
def Dc: Of Tryz.prog jt 80 [.tmp 2,.tmp 3] xI:=aZ {} Tryz.func21
def A7: aI:=r [X 0 1,V e0 2,V z0 3]<|
 q (r [L 12 1 5,C AD [t 5] 6,M 6 4]<|
 r [M 4 7,D .neq 7 0 8]<|
 c 8 (r [M 4 9,V e0 2,M 9 3]<|
 .ret) k)<|
 r [L 12 1 10,C CQ [t 10] 11,M 11 2,V z0 3]<|
 .ret
def F7: Of Tryz.prog qV 12 [.tmp 2,.tmp 3] A7:=aZ {} Tryz.func22
def kx: aI:=r [J [z0,e0,.ae,.ae,z0,z0,.ae,e0,z0,.ae,z0,z0] 2,V z0 3]<|
 r [M 0 10,aD (.build [e0] [(0,1,(t 10))]) 11,X 11 12,M 12 4]<|
 r [M 4 13,C jl [t 13] 14,aD (.build [z0,e0,.ae,.ae,z0,z0,.ae,e0,z0,.ae,z0,z0] [(0,1,(t 14))]) 15,J [z0,e0,.ae,.ae,z0,z0,.ae,e0,z0,.ae,z0,z0] 5,W 12 5 15]<|
 r [A 0 5 17,K 17 18,C pI [t 18] 19,M 19 16,E 16 0 20,E 16 1 21,M 20 6,M 21 7]<|
 r [M 6 22,M 4 23,aD (.qu (.func oV) [(t 23)] []) 24,aD (.call false (.c (.fn (.func mP) [] [])) [(t 22),(.c (i6 1)),(t 24)]) 25,A 1 5 26,W 6 26 25]<|
 r [M 6 27,M 4 28,aD (.qu (.func l9) [(t 28)] []) 29,aD (.call false (.c (.fn (.func l8) [] [])) [(t 27),(.c (i6 2)),(t 29)]) 30,A 7 5 31,W 1 31 30]<|
 r [M 6 32,M 4 33,aD (.qu (.func jl) [(t 33)] []) 34,aD (.call false (.c (.fn (.func jX) [] [])) [(t 32),(.c (i6 2)),(t 34)]) 35,A 8 5 36,W 1 36 35]<|
 r [M 6 37,M 4 38,aD (.qu (.func qA) [(t 38)] []) 39,aD (.call false (.c (.fn (.func l_) [] [])) [(t 37),(.c (i6 4)),(t 39)]) 40,A 9 5 41,W 1 41 40]<|
 r [M 6 42,M 4 43,aD (.qu (.func jl) [(t 43)] []) 44,aD (.call false (.c (.fn (.func jX) [] [])) [(t 42),(.c (i6 8)),(t 44)]) 45,A 10 5 46,W 1 46 45]<|
 r [M 6 47,M 4 48,aD (.qu (.func jl) [(t 48)] []) 49,aD (.call false (.c (.fn (.func jX) [] [])) [(t 47),(.c (i6 16)),(t 49)]) 50,A 11 5 51,W 1 51 50]<|
 q (r [L 12 5 53,C jt [t 53] 54,M 54 52,E 52 0 55,E 52 1 56,M 55 8,M 56 9]<|
 r [M 9 57,D .neq 57 0 58,M 58 59,MF 8 60 59,MF 0 61 59,BF .neq 60 61 62 59,O 59 62 63]<|
 c 63 (r [aD (.build [z0,e0,.ae,.ae,z0,z0,.ae,e0,z0,.ae,z0,z0] []) 64,W 12 2 64,V (i6 4) 3]<|
 .ret) k)<|
 r [L 12 5 65,W 12 2 65,V z0 3]<|
 .ret
def lj: Of Tryz.prog kg 66 [.cell 2 true 12,.tmp 3] kx:=aZ {} Tryz.func23
def mD: aI:=r [J [z0,e0,.ae,.ae,z0,z0,.ae,e0,z0,.ae,z0,z0] 2,V z0 3]<|
 r [M 0 14,C fj [t 14] 15,M 15 13,E 13 0 16,E 13 1 17,E 13 2 18,M 16 4,M 17 5,M 18 6]<|
 r [M 4 19,aD (.build [z0,e0,.ae,.ae,z0,z0,.ae,e0,z0,.ae,z0,z0] [(0,1,(t 19))]) 20,J [z0,e0,.ae,.ae,z0,z0,.ae,e0,z0,.ae,z0,z0] 7,W 12 7 20]<|
 q (r [M 4 21]<|
 .block 0 (r [D .eql 21 1 23,M 23 22]<|
 c 22 (r [M 5 25,aD (.call false (.c (.fn (.func jQ) [] [])) [(t 25),(.c (i6 4000))]) 26,M 26 24,E 24 0 27,E 24 1 28,E 24 2 29,M 27 8,M 28 9,M 29 10]<|
 R [M 8 31,C Ax [t 31] 32,M 32 30,E 30 0 33,E 30 1 34,A 1 7 35,W 6 35 33]) (q (r [D .eql 21 2 37,M 37 36]<|
 c 36 k (R [D .eql 21 3 38,M 38 36]))<|
 c 36 (r [M 5 40,aD (.call false (.c (.fn (.func jQ) [] [])) [(t 40),(.c (i6 4000))]) 41,M 41 39,E 39 0 42,E 39 1 43,E 39 2 44,A 7 7 45,W 1 45 42,M 43 5]<|
 r [M 5 47,C fj [t 47] 48,M 48 46,E 46 0 49,E 46 1 50,E 46 2 51,A 8 7 52,W 1 52 49,M 50 5]<|
 r [M 4 53,D .eql 53 2 54]<|
 c 54 (R [M 5 56,aD (.call false (.c (.fn (.func sj) [] [])) [(t 56),(.c (i6 6))]) 57,M 57 55,E 55 0 58,E 55 1 59,E 55 2 60,A 9 7 61,W 1 61 58]) k) (r [D .eql 21 5 63,M 63 62]<|
 c 62 (r [M 5 65,C fj [t 65] 66,M 66 64,E 64 0 67,E 64 1 68,E 64 2 69,A 10 7 70,W 1 70 67,M 68 5]<|
 R [M 5 72,C fj [t 72] 73,M 73 71,E 71 0 74,E 71 1 75,E 71 2 76,A 11 7 77,W 1 77 74]) (r [D .eql 21 6 79,M 79 78]<|
 c 78 (R [M 5 81,C fj [t 81] 82,M 82 80,E 80 0 83,E 80 1 84,E 80 2 85,A 10 7 86,W 1 86 83]) k)))))<|
 q (r [L 12 7 88,C qV [t 88] 89,M 89 87,E 87 0 90,E 87 1 91,M 90 11,M 91 12]<|
 r [M 12 92,D .neq 92 0 93,M 93 94,MF 11 95 94,MF 0 96 94,BF .neq 95 96 97 94,O 94 97 98]<|
 c 98 (r [aD (.build [z0,e0,.ae,.ae,z0,z0,.ae,e0,z0,.ae,z0,z0] []) 99,W 12 2 99,V (i6 4) 3]<|
 .ret) k)<|
 r [L 12 7 100,W 12 2 100,V z0 3]<|
 .ret
def nj: Of Tryz.prog vJ 101 [.cell 2 true 12,.tmp 3] mD:=aZ {} Tryz.func24
def Ev: aI:=r [X 0 1,V z0 2]<|
 r [A 0 1 8,K 8 9,C pI [t 9] 10,M 10 7,E 7 0 11,E 7 1 12,M 11 3,M 12 4]<|
 q (r [M 3 13,D .eql 13 1 14]<|
 c 14 (r [A 1 1 16,L 6 16 17,C pH [t 17] 18,M 18 15,E 15 0 19,E 15 1 20,M 19 5,M 20 6]<|
 r [M 6 21,D .neq 21 0 22]<|
 c 22 (r [M 6 23,M 23 2]<|
 .ret) k) k)<|
 q (.block 0 (r [M 4 25,U 25 26,M 26 27,LF 12 1 28 27,CF AE [t 28] 29 27,MF 3 30 27,BF .andNot 29 30 31 27,DF .neq 31 0 32 27,O 27 32 33,M 33 24]<|
 c 24 (r [V (i6 2) 2]<|
 .ret) (r [M 3 35,D .and 35 2 36,D .neq 36 0 37,M 37 38,AT 7 1 39 38,KT 39 40 38,CT qB [t 40] 41 38,UT 41 42 38,MT 42 43 38,AF 8 1 44 43,KF 44 45 43,DF .lss 45 0 46 43,OT 43 46 47 38,MT 47 48 38,AF 8 1 49 48,KF 49 50 48,DF .gtr 50 2147483648 51 48,OT 48 51 52 38,P 38 52 53,M 53 34]<|
 c 34 (r [V (i6 2) 2]<|
 .ret) (r [A 10 1 55,K 55 56,C sk [t 56] 57,U 57 58,M 58 59,AF 11 1 60 59,KF 60 61 59,CF sk [t 61] 62 59,UF 62 63 59,O 59 63 64,M 64 65,AF 9 1 66 65,KF 66 67 65,CF xk [t 67] 68 65,UF 68 69 65,O 65 69 70,M 70 54]<|
 c 54 (r [V (i6 2) 2]<|
 .ret) k))))<|
 r [V z0 2]<|
 .ret
def Ob: Of Tryz.prog ju 71 [.tmp 2] Ev:=aZ {} Tryz.func25
def Kr: aI:=r [X 0 2,X 1 3,V (.bool false) 4]<|
 r [A 0 2 5,K 5 6,A 0 3 7,K 7 8,B .eql 6 8 9,M 9 10,AT 1 2 11 10,LT 6 11 12 10,AT 1 3 13 10,LT 6 13 14 10,CT xh [t 12,t 14] 15 10,P 10 15 16,M 16 17,AT 7 2 18 17,KT 18 19 17,AT 7 3 20 17,KT 20 21 17,BT .eql 19 21 22 17,P 17 22 23,M 23 24,AT 8 2 25 24,KT 25 26 24,AT 8 3 27 24,KT 27 28 24,BT .eql 26 28 29 24,P 24 29 30,M 30 31,AT 9 2 32 31,KT 32 33 31,AT 9 3 34 31,KT 34 35 31,CT sn [t 33,t 35] 36 31,P 31 36 37,M 37 38,AT 10 2 39 38,KT 39 40 38,AT 10 3 41 38,KT 41 42 38,BT .eql 40 42 43 38,P 38 43 44,M 44 45,AT 11 2 46 45,KT 46 47 45,AT 11 3 48 45,KT 48 49 45,BT .eql 47 49 50 45,P 45 50 51,M 51 4]<|
 .ret
def Ua: Of Tryz.prog kj 52 [.tmp 4] Kr:=aZ {} Tryz.func26
def Ew: aI:=r [V e0 2,V z0 3]<|
 q (r [M 0 9,N 9 10,D .gtr 10 64 11]<|
 c 11 (r [V e0 2,V (i6 24) 3]<|
 .ret) k)<|
 r [aD (.iZ ⟨false,1⟩) 4]<|
 q (r [M 0 12,N 12 13,V z0 14]<|
 .block 0 (.loop (r [B .lss 14 13 15]<|
 q (c 15 k (.exit 0))<|
 q (.block 1 (r [I true 12 12 14 16,L 12 16 17,J [z0,e0,.ae,.ae,z0,z0,.ae,e0,z0,.ae,z0,z0] 6,W 12 6 17]<|
 r [L 12 6 19,C jt [t 19] 20,M 20 18,E 18 0 21,E 18 1 22,M 21 7,M 22 8]<|
 q (r [M 8 23,D .neq 23 0 24]<|
 c 24 (r [M 8 25,V e0 2,M 25 3]<|
 .ret) k)<|
 R [M 4 26,M 7 27,aD (.bK false ⟨false,1⟩ e0 1 [(0,(t 27))]) 28,aD (.app none ⟨false,1⟩ (t 26) (t 28)) 29,M 29 4]))<|
 R [D .add 14 1 30,M 30 14])))<|
 r [M 4 31,C AG [t 31] 32,M 32 2,V z0 3]<|
 .ret
def Oc: Of Tryz.prog oG 33 [.tmp 2,.tmp 3] Ew:=aZ ⟨[],[],[(4,⟨false,1⟩)],[],[],[]⟩ Tryz.func27
def Ex: aI:=r [V .ae 2,V z0 3]<|
 r [M 0 13,aD (.call false (.c (.fn (.func uN) [] [])) [(t 13),(.c (i6 64)),(.c (i6 4000))]) 14,M 14 12,E 12 0 15,E 12 1 16,E 12 2 17,M 15 4,M 16 5,M 17 6]<|
 q (r [M 6 18,D .neq 18 0 19,M 19 20,MF 5 21 20,⟨.bin .neq (t 21) (.c e0),(some 22),some (20,false)⟩,O 20 22 23]<|
 c 23 (r [V .ae 2,V (i6 4) 3]<|
 .ret) k)<|
 r [aD (.iZ ⟨true,12⟩) 7]<|
 q (r [M 4 24,N 24 25,V z0 26]<|
 .block 0 (.loop (r [B .lss 26 25 27]<|
 q (c 27 k (.exit 0))<|
 q (.block 1 (r [I false 1 24 26 28,K 28 29,M 29 9]<|
 r [M 9 31,C kg [t 31] 32,M 32 30,E 30 0 33,E 30 1 34,J [z0,e0,.ae,.ae,z0,z0,.ae,e0,z0,.ae,z0,z0] 10,W 12 10 33,M 34 11]<|
 q (r [M 11 35,D .neq 35 0 36]<|
 c 36 (r [V .ae 2,V (i6 4) 3]<|
 .ret) k)<|
 R [M 7 37,L 12 10 38,aD (.bK false ⟨true,12⟩ (.agg [z0,e0,.ae,.ae,z0,z0,.ae,e0,z0,.ae,z0,z0]) 1 [(0,(t 38))]) 39,aD (.app none ⟨true,12⟩ (t 37) (t 39)) 40,M 40 7]))<|
 R [D .add 26 1 41,M 41 26])))<|
 r [M 7 42,M 42 2,V z0 3]<|
 .ret
def Od: Of Tryz.prog ko 43 [.tmp 2,.tmp 3] Ex:=aZ ⟨[],[],[(7,⟨true,12⟩)],[],[],[]⟩ Tryz.func28
def Ey: aI:=r [V (.bool false) 4]<|
 q (r [M 0 6,N 6 7,M 1 8,N 8 9,B .neq 7 9 10]<|
 c 10 (r [V (.bool false) 4]<|
 .ret) k)<|
 q (r [V z0 5]<|
 .block 0 (.loop (q (r [M 5 11,M 0 12,N 12 13,B .lss 11 13 14]<|
 c 14 k (.exit 0))<|
 q (.block 1 (q (.draw [M 0 17,M 5 18,I true 12 17 18 19,L 12 19 20,M 1 21,M 5 22,I true 12 21 22 23,L 12 23 24,Q kj [t 20,t 24] 25,U 25 26] [])<|
 c 26 (r [V (.bool false) 4]<|
 .ret) k))<|
 R [M 5 15,D .add 15 1 16,M 16 5])))<|
 r [V (.bool true) 4]<|
 .ret
def Oe: Of Tryz.prog si 27 [.tmp 4] Ey:=aZ {} Tryz.func29
def IP: aI:=r [V e0 2,V z0 3]<|
 q (r [M 0 8,N 8 9,D .gtr 9 64 10]<|
 c 10 (r [V e0 2,V (i6 24) 3]<|
 .ret) k)<|
 r [M 0 11,N 11 12,C fy [t 12] 13,M 13 4]<|
 q (r [V z0 5]<|
 .block 0 (.loop (q (r [M 5 14,M 0 15,N 15 16,B .lss 14 16 17]<|
 c 17 k (.exit 0))<|
 q (.block 1 (r [M 0 21,M 5 22,I true 12 21 22 23,L 12 23 24,C qV [t 24] 25,M 25 20,E 20 0 26,E 20 1 27,M 26 6,M 27 7]<|
 q (r [M 7 28,D .neq 28 0 29]<|
 c 29 (r [M 7 30,V e0 2,M 30 3]<|
 .ret) k)<|
 R [M 4 31,M 6 32,C je [t 32] 33,B .add 31 33 34,M 34 4]))<|
 R [M 5 18,D .add 18 1 19,M 19 5])))<|
 r [M 4 35,M 35 2,V z0 3]<|
 .ret
def RK: Of Tryz.prog Ay 36 [.tmp 2,.tmp 3] IP:=aZ {} Tryz.func30
def IQ: aI:=r [V .ae 2,V z0 3]<|
 r [M 0 12,aD (.call false (.c (.fn (.func uO) [] [])) [(t 12),(.c (i6 64)),(.c (i6 4000))]) 13,M 13 11,E 11 0 14,E 11 1 15,E 11 2 16,M 14 4,M 15 5,M 16 6]<|
 q (r [M 6 17,D .neq 17 0 18,M 18 19,MF 5 20 19,⟨.bin .neq (t 20) (.c e0),(some 21),some (19,false)⟩,O 19 21 22]<|
 c 22 (r [V .ae 2,V (i6 4) 3]<|
 .ret) k)<|
 r [aD (.iZ ⟨true,12⟩) 7]<|
 q (r [V z0 8]<|
 .block 0 (.loop (q (r [M 8 23,M 4 24,N 24 25,B .lss 23 25 26]<|
 c 26 k (.exit 0))<|
 q (.block 1 (r [M 4 30,M 8 31,I false 1 30 31 32,K 32 33,C vJ [t 33] 34,M 34 29,E 29 0 35,E 29 1 36,J [z0,e0,.ae,.ae,z0,z0,.ae,e0,z0,.ae,z0,z0] 9,W 12 9 35,M 36 10]<|
 q (r [M 10 37,D .neq 37 0 38]<|
 c 38 (r [V .ae 2,V (i6 4) 3]<|
 .ret) k)<|
 R [M 7 39,L 12 9 40,aD (.bK false ⟨true,12⟩ (.agg [z0,e0,.ae,.ae,z0,z0,.ae,e0,z0,.ae,z0,z0]) 1 [(0,(t 40))]) 41,aD (.app none ⟨true,12⟩ (t 39) (t 41)) 42,M 42 7]))<|
 R [M 8 27,D .add 27 1 28,M 28 8])))<|
 r [M 7 43,M 43 2,V z0 3]<|
 .ret
def RL: Of Tryz.prog Az 44 [.tmp 2,.tmp 3] IQ:=aZ ⟨[],[],[(7,⟨true,12⟩)],[],[],[]⟩ Tryz.func31
def F8: aI:=r [X 0 2,X 1 3,V (.bool false) 4]<|
 r [A 0 2 5,K 5 6,A 0 3 7,K 7 8,B .eql 6 8 9,M 9 10,AT 1 2 11 10,LT 6 11 12 10,AT 1 3 13 10,LT 6 13 14 10,CT qW [t 12,t 14] 15 10,P 10 15 16,M 16 17,AT 7 2 18 17,KT 18 19 17,AT 7 3 20 17,KT 20 21 17,BT .eql 19 21 22 17,P 17 22 23,M 23 24,AT 8 2 25 24,KT 25 26 24,AT 8 3 27 24,KT 27 28 24,BT .eql 26 28 29 24,P 24 29 30,M 30 31,AT 9 2 32 31,KT 32 33 31,AT 9 3 34 31,KT 34 35 31,CT mQ [t 33,t 35] 36 31,P 31 36 37,M 37 38,AT 10 2 39 38,KT 39 40 38,AT 10 3 41 38,KT 41 42 38,BT .eql 40 42 43 38,P 38 43 44,M 44 45,AT 11 2 46 45,KT 46 47 45,AT 11 3 48 45,KT 48 49 45,BT .eql 47 49 50 45,P 45 50 51,M 51 4]<|
 .ret
def PO: Of Tryz.prog yV 52 [.tmp 4] F8:=aZ {} Tryz.func32
def IU: aI:=r [V (.bool false) 2]<|
 q (r [M 0 5,C v8 [t 5] 6,U 6 7]<|
 c 7 (r [V (.bool false) 2]<|
 .ret) k)<|
 q (r [V z0 3]<|
 .block 0 (.loop (q (r [M 3 8,M 0 9,N 9 10,B .lss 8 10 11]<|
 c 11 k (.exit 0))<|
 q (.block 1 (q (r [M 0 14,M 3 15,I true 3 14 15 16,A 2 16 17,K 17 18,N 18 19,D .gtr 19 12 20]<|
 c 20 (r [V (.bool false) 2]<|
 .ret) k)<|
 r [V z0 4]<|
 .block 2 (.loop (q (r [M 4 21,M 0 22,M 3 23,I true 3 22 23 24,A 2 24 25,K 25 26,N 26 27,B .lss 21 27 28]<|
 c 28 k (.exit 2))<|
 q (.block 3 (r [M 0 31,M 3 32,I true 3 31 32 33,A 2 33 34,K 34 35,M 4 36,I true 3 35 36 37,A 2 37 38,K 38 39,S 39 40,D .gtr 40 300 41]<|
 c 41 (r [V (.bool false) 2]<|
 .ret) k))<|
 R [M 4 29,D .add 29 1 30,M 30 4]))))<|
 R [M 3 12,D .add 12 1 13,M 13 3])))<|
 r [V (.bool true) 2]<|
 .ret
def RM: Of Tryz.prog vK 42 [.tmp 2] IU:=aZ {} Tryz.func33
def IV: aI:=r [V (.bool false) 2]<|
 q (r [M 0 4,N 4 5,D .gtr 5 10 6]<|
 c 6 (r [V (.bool false) 2]<|
 .ret) k)<|
 q (r [V z0 3]<|
 .block 0 (.loop (q (r [M 3 7,M 0 8,N 8 9,B .lss 7 9 10]<|
 c 10 k (.exit 0))<|
 q (.block 1 (r [M 0 13,M 3 14,I false 1 13 14 15,K 15 16,S 16 17,D .gtr 17 300 18]<|
 c 18 (r [V (.bool false) 2]<|
 .ret) k))<|
 R [M 3 11,D .add 11 1 12,M 12 3])))<|
 r [V (.bool true) 2]<|
 .ret
def RN: Of Tryz.prog vL 19 [.tmp 2] IV:=aZ {} Tryz.func34
def IW: aI:=r [X 0 2,X 1 3,V (.bool false) 4]<|
 r [A 0 2 5,K 5 6,A 0 3 7,K 7 8,B .eql 6 8 9,M 9 10,AT 3 2 11 10,KT 11 12 10,AT 3 3 13 10,KT 13 14 10,BT .eql 12 14 15 10,P 10 15 16,M 16 17,AT 4 2 18 17,KT 18 19 17,AT 4 3 20 17,KT 20 21 17,BT .eql 19 21 22 17,P 17 22 23,M 23 24,AT 1 2 25 24,KT 25 26 24,AT 1 3 27 24,KT 27 28 24,⟨.call false (.c (.fn (.func j4) [] [])) [(t 26),(t 28),(.c (.fn (.func jC) [] []))],(some 29),some (24,true)⟩,P 24 29 30,M 30 31,AT 2 2 32 31,KT 32 33 31,AT 2 3 34 31,KT 34 35 31,⟨.call false (.c (.fn (.func j4) [] [])) [(t 33),(t 35),(.c (.fn (.func jC) [] []))],(some 36),some (31,true)⟩,P 31 36 37,M 37 38,AT 5 2 39 38,KT 39 40 38,AT 5 3 41 38,KT 41 42 38,⟨.call false (.c (.fn (.func nV) [] [])) [(t 40),(t 42),(.c (.fn (.func pz) [] []))],(some 43),some (38,true)⟩,P 38 43 44,M 44 4]<|
 .ret
def RO: Of Tryz.prog qW 45 [.tmp 4] IW:=aZ {} Tryz.func35
def Ks: aI:=r [V e0 2]<|
 r [M 0 3,S 3 4,C gw [t 4] 5,M 0 6,B .add 5 6 7,M 7 2]<|
 .ret
def Ub: Of Tryz.prog kp 8 [.tmp 2] Ks:=aZ {} Tryz.func36
def M7: aI:=r [V e0 2]<|
 r [M 0 5,C CR [t 5] 6,M 6 3]<|
 r [aD (.rG ⟨false,1⟩ (.int .u8 0) (.c z0) (.c (i6 10))) 7,M 7 4]<|
 q (.block 0 (.loop (q (r [M 3 8,aD (.bin .geq (t 8) (.c (.int .u64 128))) 9]<|
 c 9 k (.exit 0))<|
 .block 1 (r [M 4 10,M 3 11,C oH [t 11] 12,aD (.bin .or (t 12) (.c (.int .u8 128))) 13,aD (.bK false ⟨false,1⟩ (.int .u8 0) 1 [(0,(t 13))]) 14,aD (.app none ⟨false,1⟩ (t 10) (t 14)) 15,M 15 4]<|
 R [M 3 16,aD (.bin .shr (t 16) (.c (.int .u64 7))) 17,M 17 3]))))<|
 r [M 4 18,M 3 19,C oH [t 19] 20,aD (.bK false ⟨false,1⟩ (.int .u8 0) 1 [(0,(t 20))]) 21,aD (.app none ⟨false,1⟩ (t 18) (t 21)) 22,aD (.wX (t 22)) 23,M 23 2]<|
 .ret
def VH: Of Tryz.prog gw 24 [.tmp 2] M7:=aZ {} Tryz.func37
def Dd: aI:=r [V e0 4]<|
 r [M 0 8,N 8 9,C gw [t 9] 10,M 10 5]<|
 q (r [M 0 11,N 11 12,V z0 13]<|
 .block 0 (.loop (r [B .lss 13 12 14]<|
 q (c 14 k (.exit 0))<|
 q (.block 1 (r [I true 3 11 13 15,L 3 15 16,J [e0,z0,.ae] 7,W 3 7 16]<|
 .draw [M 5 17,A 0 7 18,K 18 19,Q kp [t 19] 20,A 1 7 21,K 21 22,Q gw [t 22] 23,B .add 20 23 24,M 1 25,L 3 7 26,aD (.call true (t 25) [(t 26)]) 27,B .add 24 27 28,B .add 17 28 29,M 29 5] []))<|
 R [D .add 13 1 30,M 30 13])))<|
 r [M 5 31,M 31 4]<|
 .ret
def MK: Of Tryz.prog qy 32 [.tmp 4] Dd:=aZ {} Tryz.func38
def De: aI:=r [X 0 1,V e0 2]<|
 r [V e0 2]<|
 .ret
def ML: Of Tryz.prog qz 3 [.tmp 2] De:=aZ {} Tryz.func39
def F9: aI:=r [X 0 1,V e0 2]<|
 r [A 2 1 6,K 6 7,C zA [t 7] 8,M 8 5,E 5 0 9,E 5 1 10,M 9 3,M 10 4]<|
 r [M 3 11,M 11 2]<|
 .ret
def PS: Of Tryz.prog tW 12 [.tmp 2] F9:=aZ {} Tryz.func40
def Ga: aI:=r [V e0 2]<|
 r [V e0 3]<|
 q (r [M 0 6,N 6 7,V z0 8]<|
 .block 0 (.loop (r [B .lss 8 7 9]<|
 q (c 9 k (.exit 0))<|
 q (.block 1 (r [I false 1 6 8 10,K 10 11,M 11 5]<|
 R [M 3 12,M 5 13,C kp [t 13] 14,B .add 12 14 15,M 15 3]))<|
 R [D .add 8 1 16,M 16 8])))<|
 r [M 3 17,M 17 2]<|
 .ret
def PU: Of Tryz.prog tX 18 [.tmp 2] Ga:=aZ {} Tryz.func41
def A8: aI:=r [X 0 1,J [e0,.ae,.ae,z0,z0,.ae] 2,V z0 3,V z0 4,V z0 5]<|
 r [L 6 1 20,C CU [t 20] 21,M 21 19,E 19 0 22,E 19 1 23,E 19 2 24,E 19 3 25,J [e0,.ae,.ae,z0,z0,.ae,.ae] 6,W 7 6 22,M 23 7,M 24 8,M 25 9]<|
 q (r [M 9 26,D .neq 26 0 27]<|
 c 27 (r [aD (.build [e0,.ae,.ae,z0,z0,.ae] []) 28,M 7 29,M 8 30,M 9 31,W 6 2 28,M 29 3,M 30 4,M 31 5]<|
 .ret) k)<|
 r [L 6 1 32,J [e0,.ae,.ae,z0,z0,.ae] 10,W 6 10 32]<|
 r [A 5 10 33,⟨.store 1 (t 33) (.c .ae),none,none⟩]<|
 q (r [V z0 11]<|
 .block 0 (.loop (q (r [M 11 34,A 6 6 35,K 35 36,N 36 37,B .lss 34 37 38]<|
 c 38 k (.exit 0))<|
 q (.block 1 (r [aD (.build [.ae,.ae] []) 41,J [.ae,.ae] 12,W 2 12 41]<|
 q (r [V z0 13]<|
 .block 2 (.loop (q (r [M 13 42,A 6 6 43,K 43 44,M 11 45,I true 2 44 45 46,A 0 46 47,K 47 48,N 48 49,B .lss 42 49 50]<|
 c 50 k (.exit 2))<|
 q (.block 3 (r [A 6 6 54,K 54 55,M 11 56,I true 2 55 56 57,A 0 57 58,K 58 59,M 13 60,I true 3 59 60 61,L 3 61 62,C xm [t 62] 63,M 63 53,E 53 0 64,E 53 1 65,M 64 14,M 65 15]<|
 q (r [M 15 66,D .neq 66 0 67]<|
 c 67 (r [aD (.build [e0,.ae,.ae,z0,z0,.ae] []) 68,M 11 69,M 13 70,M 15 71,W 6 2 68,M 69 3,M 70 4,M 71 5]<|
 .ret) k)<|
 R [A 0 12 72,K 72 73,M 14 74,aD (.bK false ⟨false,1⟩ e0 1 [(0,(t 74))]) 75,aD (.app none ⟨false,1⟩ (t 73) (t 75)) 76,A 0 12 77,W 1 77 76]))<|
 R [M 13 51,D .add 51 1 52,M 52 13])))<|
 q (r [V z0 16]<|
 .block 4 (.loop (q (r [M 16 78,A 6 6 79,K 79 80,M 11 81,I true 2 80 81 82,A 1 82 83,K 83 84,N 84 85,B .lss 78 85 86]<|
 c 86 k (.exit 4))<|
 q (.block 5 (r [A 6 6 90,K 90 91,M 11 92,I true 2 91 92 93,A 1 93 94,K 94 95,M 16 96,I true 6 95 96 97,L 6 97 98,C pJ [t 98] 99,M 99 89,E 89 0 100,E 89 1 101,M 100 17,M 101 18]<|
 q (r [M 18 102,D .neq 102 0 103]<|
 c 103 (q (.draw [aD (.build [e0,.ae,.ae,z0,z0,.ae] []) 104,M 11 105,A 1 1 106,K 106 107,N 107 108,M 16 109,B .add 108 109 110,M 18 111,W 6 2 104,M 105 3,M 110 4,M 111 5] [((t 106),(t 2))])<|
 .ret) k)<|
 R [A 1 12 112,K 112 113,M 17 114,aD (.bK false ⟨false,1⟩ e0 1 [(0,(t 114))]) 115,aD (.app none ⟨false,1⟩ (t 113) (t 115)) 116,A 1 12 117,W 1 117 116]))<|
 R [M 16 87,D .add 87 1 88,M 88 16])))<|
 R [A 5 10 118,K 118 119,L 2 12 120,aD (.bK false ⟨true,2⟩ (.agg [.ae,.ae]) 1 [(0,(t 120))]) 121,aD (.app none ⟨true,2⟩ (t 119) (t 121)) 122,A 5 10 123,W 1 123 122]))<|
 R [M 11 39,D .add 39 1 40,M 40 11])))<|
 r [L 6 10 124,W 6 2 124,V z0 3,V z0 4,V z0 5]<|
 .ret
def Gb: Of Tryz.prog AA 125 [.cell 2 true 6,.tmp 3,.tmp 4,.tmp 5] A8:=aZ {} Tryz.func42
def Kt: aI:=r [X 0 1,V e0 2]<|
 q (.draw [A 0 1 7,K 7 8,Q je [t 8] 9,A 3 1 10,K 10 11,Q fy [t 11] 12,B .add 9 12 13,A 4 1 14,K 14 15,Q fy [t 15] 16,B .add 13 16 17,A 1 1 18,K 18 19,aD (.call true (.c (.fn (.func sq) [] [])) [(t 19),(.c (.bool false))]) 20,B .add 17 20 21,A 2 1 22,K 22 23,aD (.call true (.c (.fn (.func sq) [] [])) [(t 23),(.c (.bool true))]) 24,B .add 21 24 25,A 5 1 26,K 26 27,N 27 28,Q fy [t 28] 29,B .add 25 29 30,M 30 3] [])<|
 q (r [V z0 4]<|
 .block 0 (.loop (q (r [M 4 31,A 5 1 32,K 32 33,N 33 34,B .lss 31 34 35]<|
 c 35 k (.exit 0))<|
 q (.block 1 (q (r [V z0 5]<|
 .block 2 (.loop (q (r [M 5 38,A 5 1 39,K 39 40,M 4 41,I true 2 40 41 42,A 0 42 43,K 43 44,N 44 45,B .lss 38 45 46]<|
 c 46 k (.exit 2))<|
 q (.block 3 (R [M 3 49,A 5 1 50,K 50 51,M 4 52,I true 2 51 52 53,A 0 53 54,K 54 55,M 5 56,I false 1 55 56 57,K 57 58,C je [t 58] 59,B .add 49 59 60,M 60 3]))<|
 R [M 5 47,D .add 47 1 48,M 48 5])))<|
 r [V z0 6]<|
 .block 4 (.loop (q (r [M 6 61,A 5 1 62,K 62 63,M 4 64,I true 2 63 64 65,A 1 65 66,K 66 67,N 67 68,B .lss 61 68 69]<|
 c 69 k (.exit 4))<|
 q (.block 5 (R [M 3 72,A 5 1 73,K 73 74,M 4 75,I true 2 74 75 76,A 1 76 77,K 77 78,M 6 79,I false 1 78 79 80,K 80 81,C je [t 81] 82,B .add 72 82 83,M 83 3]))<|
 R [M 6 70,D .add 70 1 71,M 71 6]))))<|
 R [M 4 36,D .add 36 1 37,M 37 4])))<|
 r [M 3 84,M 84 2]<|
 .ret
def Uc: Of Tryz.prog CP 85 [.tmp 2] Kt:=aZ {} Tryz.func43
def xJ: aI:=r [V e0 2]<|
 r [M 0 7,Z 7 8,A 0 8 9,K 9 10,aD (.call false (.c (.fn (.func lf) [] [])) [(t 10),(.c (i6 1400))]) 11,M 11 6,E 6 0 12,E 6 1 13,E 6 2 14,M 12 3,M 13 4,M 14 5]<|
 r [M 0 15,M 0 16,M 4 17,M 0 18,Z 18 19,A 1 19 20,K 20 21,M 21 22,MF 5 23 22,DF .neq 23 0 24 22,O 22 24 25,Z 15 26,A 0 26 27,W 1 27 17,Z 16 28,A 1 28 29,W 1 29 25]<|
 r [M 3 30,M 30 2]<|
 .ret
def Gc: Of Tryz.prog kq 31 [.tmp 2] xJ:=aZ {} Tryz.func44
def yx: aI:=r [V z0 2]<|
 r [M 0 7,Z 7 8,A 0 8 9,K 9 10,C jv [t 10] 11,M 11 6,E 6 0 12,E 6 1 13,E 6 2 14,M 12 3,M 13 4,M 14 5]<|
 r [M 0 15,M 0 16,M 4 17,M 0 18,Z 18 19,A 1 19 20,K 20 21,M 21 22,MF 5 23 22,DF .neq 23 0 24 22,O 22 24 25,Z 15 26,A 0 26 27,W 1 27 17,Z 16 28,A 1 28 29,W 1 29 25]<|
 r [M 3 30,M 30 2]<|
 .ret
def Hz: Of Tryz.prog iO 31 [.tmp 2] yx:=aZ {} Tryz.func45
def uC: aI:=r [V .ae 4]<|
 r [aD (.iZ ⟨true,3⟩) 5]<|
 q (r [M 0 8,C iO [t 8] 9,M 9 6]<|
 .block 0 (.loop (q (r [M 5 10,N 10 11,M 6 12,B .lss 11 12 13,M 13 14,MT 0 15 14,ZT 15 16 14,AT 1 16 17 14,KT 17 18 14,UT 18 19 14,P 14 19 20]<|
 c 20 k (.exit 0))<|
 .block 1 (r [M 0 21,C kq [t 21] 22,aD (.build [e0,z0,.ae] [(0,1,(t 22))]) 23,J [e0,z0,.ae] 7,W 3 7 23]<|
 r [M 0 24,C iO [t 24] 25,A 1 7 26,W 1 26 25]<|
 r [M 1 27,aD (.call false (t 27) []) 28,A 2 7 29,W 1 29 28]<|
 R [M 5 30,L 3 7 31,aD (.bK false ⟨true,3⟩ (.agg [e0,z0,.ae]) 1 [(0,(t 31))]) 32,aD (.app none ⟨true,3⟩ (t 30) (t 32)) 33,M 33 5]))))<|
 r [M 5 34,M 34 4]<|
 .ret
def Df: Of Tryz.prog kR 35 [.tmp 4] uC:=aZ ⟨[],[],[(5,⟨true,3⟩)],[],[],[]⟩ Tryz.func46
def xK: aI:=r [V .ae 2]<|
 r [V .ae 2]<|
 .ret
def Gd: Of Tryz.prog mO 3 [.tmp 2] xK:=aZ {} Tryz.func47
def yy: aI:=r [V .ae 2]<|
 r [M 0 7,Z 7 8,A 0 8 9,K 9 10,aD (.call false (.c (.fn (.func sr) [] [])) [(t 10),(.c (i6 8))]) 11,M 11 6,E 6 0 12,E 6 1 13,E 6 2 14,M 12 3,M 13 4,M 14 5]<|
 r [M 0 15,M 0 16,M 4 17,M 0 18,Z 18 19,A 1 19 20,K 20 21,M 21 22,MF 5 23 22,DF .neq 23 0 24 22,O 22 24 25,Z 15 26,A 0 26 27,W 1 27 17,Z 16 28,A 1 28 29,W 1 29 25]<|
 r [M 3 30,M 30 2]<|
 .ret
def HD: Of Tryz.prog nK 31 [.tmp 2] yy:=aZ {} Tryz.func48
def wE: aI:=r [V .ae 4]<|
 r [aD (.iZ ⟨false,1⟩) 5]<|
 q (r [M 1 6,V z0 7]<|
 .block 0 (.loop (r [B .lss 7 6 8]<|
 q (c 8 k (.exit 0))<|
 q (.block 1 (R [M 5 9,M 0 10,C kq [t 10] 11,aD (.bK false ⟨false,1⟩ e0 1 [(0,(t 11))]) 12,aD (.app none ⟨false,1⟩ (t 9) (t 12)) 13,M 13 5]))<|
 R [D .add 7 1 14,M 14 7])))<|
 r [M 5 15,M 15 4]<|
 .ret
def Fp: Of Tryz.prog lZ 16 [.tmp 4] wE:=aZ ⟨[],[],[(5,⟨false,1⟩)],[],[],[]⟩ Tryz.func49
def yz: aI:=r [V e0 2]<|
 r [M 0 7,Z 7 8,A 0 8 9,K 9 10,aD (.call false (.c (.fn (.func jQ) [] [])) [(t 10),(.c (i6 1400))]) 11,M 11 6,E 6 0 12,E 6 1 13,E 6 2 14,M 12 3,M 13 4,M 14 5]<|
 r [M 0 15,M 4 16,Z 15 17,A 0 17 18,W 1 18 16]<|
 r [M 0 19,M 0 20,Z 20 21,A 1 21 22,K 22 23,M 23 24,MF 5 25 24,DF .neq 25 0 26 24,O 24 26 27,Z 19 28,A 1 28 29,W 1 29 27]<|
 r [M 3 30,M 30 2]<|
 .ret
def HE: Of Tryz.prog jB 31 [.tmp 2] yz:=aZ {} Tryz.func50
def zU: aI:=r [V z0 2]<|
 r [M 0 7,Z 7 8,A 0 8 9,K 9 10,C fj [t 10] 11,M 11 6,E 6 0 12,E 6 1 13,E 6 2 14,M 12 3,M 13 4,M 14 5]<|
 r [M 0 15,M 4 16,Z 15 17,A 0 17 18,W 1 18 16]<|
 r [M 0 19,M 0 20,Z 20 21,A 1 21 22,K 22 23,M 23 24,MF 5 25 24,DF .neq 25 0 26 24,O 24 26 27,Z 19 28,A 1 28 29,W 1 29 27]<|
 r [M 3 30,M 30 2]<|
 .ret
def JK: Of Tryz.prog jd 31 [.tmp 2] zU:=aZ {} Tryz.func51
def u7: aI:=r [V .ae 4]<|
 r [aD (.iZ ⟨true,3⟩) 5]<|
 r [M 0 12,C jd [t 12] 13,M 13 6]<|
 q (r [V z0 7]<|
 .block 0 (.loop (q (r [M 7 14,M 6 15,B .lss 14 15 16,M 16 17,MT 0 18 17,ZT 18 19 17,AT 1 19 20 17,KT 20 21 17,UT 21 22 17,P 17 22 23]<|
 c 23 k (.exit 0))<|
 q (.block 1 (r [M 0 26,C jB [t 26] 27,M 0 28,C jd [t 28] 29,aD (.build [e0,z0,.ae] [(0,1,(t 27)),(1,1,(t 29))]) 30,J [e0,z0,.ae] 8,W 3 8 30]<|
 q (r [M 1 31]<|
 c 31 (r [M 0 33,Z 33 34,A 0 34 35,K 35 36,aD (.call false (.c (.fn (.func sj) [] [])) [(t 36),(.c (i6 1400))]) 37,M 37 32,E 32 0 38,E 32 1 39,E 32 2 40,M 38 9,M 39 10,M 40 11]<|
 r [M 9 41,A 2 8 42,W 1 42 41]<|
 r [M 0 43,M 10 44,Z 43 45,A 0 45 46,W 1 46 44]<|
 R [M 0 47,M 0 48,Z 48 49,A 1 49 50,K 50 51,M 51 52,MF 11 53 52,DF .neq 53 0 54 52,O 52 54 55,Z 47 56,A 1 56 57,W 1 57 55]) k)<|
 R [M 5 58,L 3 8 59,aD (.bK false ⟨true,3⟩ (.agg [e0,z0,.ae]) 1 [(0,(t 59))]) 60,aD (.app none ⟨true,3⟩ (t 58) (t 60)) 61,M 61 5]))<|
 R [M 7 24,D .add 24 1 25,M 25 7])))<|
 r [M 5 62,M 62 4]<|
 .ret
def D9: Of Tryz.prog lG 63 [.tmp 4] u7:=aZ ⟨[],[],[(5,⟨true,3⟩)],[],[],[]⟩ Tryz.func52
def Bt: aI:=r [V (.bool false) 4]<|
 q (r [M 0 6,N 6 7,M 1 8,N 8 9,B .neq 7 9 10]<|
 c 10 (r [V (.bool false) 4]<|
 .ret) k)<|
 q (r [V z0 5]<|
 .block 0 (.loop (q (r [M 5 11,M 0 12,N 12 13,B .lss 11 13 14]<|
 c 14 k (.exit 0))<|
 q (.block 1 (q (.draw [M 0 17,M 5 18,I false 1 17 18 19,K 19 20,M 1 21,M 5 22,I false 1 21 22 23,K 23 24,B .neq 20 24 25] [])<|
 c 25 (r [V (.bool false) 4]<|
 .ret) k))<|
 R [M 5 15,D .add 15 1 16,M 16 5])))<|
 r [V (.bool true) 4]<|
 .ret
def Ku: Of Tryz.prog pq 26 [.tmp 4] Bt:=aZ {} Tryz.func53
def yA: aI:=r [V (.bool false) 4]<|
 q (r [M 0 6,N 6 7,M 1 8,N 8 9,B .neq 7 9 10]<|
 c 10 (r [V (.bool false) 4]<|
 .ret) k)<|
 q (r [V z0 5]<|
 .block 0 (.loop (q (r [M 5 11,M 0 12,N 12 13,B .lss 11 13 14]<|
 c 14 k (.exit 0))<|
 q (.block 1 (q (.draw [M 0 17,M 5 18,I true 3 17 18 19,A 0 19 20,K 20 21,M 1 22,M 5 23,I true 3 22 23 24,A 0 24 25,K 25 26,B .neq 21 26 27,M 27 28,MF 0 29 28,MF 5 30 28,IF true 3 29 30 31 28,AF 1 31 32 28,KF 32 33 28,MF 1 34 28,MF 5 35 28,IF true 3 34 35 36 28,AF 1 36 37 28,KF 37 38 28,BF .neq 33 38 39 28,O 28 39 40,M 40 41,MF 0 42 41,MF 5 43 41,IF true 3 42 43 44 41,AF 2 44 45 41,KF 45 46 41,MF 1 47 41,MF 5 48 41,IF true 3 47 48 49 41,AF 2 49 50 41,KF 50 51 41,QF sn [t 46,t 51] 52 41,UF 52 53 41,O 41 53 54] [])<|
 c 54 (r [V (.bool false) 4]<|
 .ret) k))<|
 R [M 5 15,D .add 15 1 16,M 16 5])))<|
 r [V (.bool true) 4]<|
 .ret
def HF: Of Tryz.prog nL 55 [.tmp 4] yA:=aZ {} Tryz.func54
def A9: aI:=r [X 0 1,J [e0,.ae,.ae,z0,z0,.ae,.ae] 2,V z0 3,V z0 4,V z0 5]<|
 q (r [L 6 1 13,C yW [t 13] 14,M 14 6]<|
 r [M 6 15,D .neq 15 0 16]<|
 c 16 (r [aD (.build [e0,.ae,.ae,z0,z0,.ae,.ae] []) 17,M 6 18,W 7 2 17,V (i6 (-1)) 3,V z0 4,M 18 5]<|
 .ret) k)<|
 r [L 6 1 19,aD (.build [e0,.ae,.ae,z0,z0,.ae,.ae] [(0,6,(t 19))]) 20,J [e0,.ae,.ae,z0,z0,.ae,.ae] 7,W 7 7 20]<|
 q (r [A 5 1 21,K 21 22,N 22 23,V z0 24]<|
 .block 0 (.loop (r [B .lss 24 23 25]<|
 q (c 25 k (.exit 0))<|
 q (.block 1 (r [M 24 26,I true 2 22 24 27,L 2 27 28,J [.ae,.ae] 9,M 26 8,W 2 9 28]<|
 r [L 6 1 30,L 2 9 31,C AH [t 30,t 31] 32,M 32 29,E 29 0 33,E 29 1 34,E 29 2 35,J [.ae,.ae] 10,W 2 10 33,M 34 11,M 35 12]<|
 q (r [M 12 36,D .neq 36 0 37]<|
 c 37 (r [aD (.build [e0,.ae,.ae,z0,z0,.ae,.ae] []) 38,M 8 39,M 11 40,M 12 41,W 7 2 38,M 39 3,M 40 4,M 41 5]<|
 .ret) k)<|
 R [A 6 7 42,K 42 43,L 2 10 44,aD (.bK false ⟨true,2⟩ (.agg [.ae,.ae]) 1 [(0,(t 44))]) 45,aD (.app none ⟨true,2⟩ (t 43) (t 45)) 46,A 6 7 47,W 1 47 46]))<|
 R [D .add 24 1 48,M 48 24])))<|
 r [L 7 7 49,W 7 2 49,V z0 3,V z0 4,V z0 5]<|
 .ret
def Ge: Of Tryz.prog AB 50 [.cell 2 true 7,.tmp 3,.tmp 4,.tmp 5] A9:=aZ {} Tryz.func55
def nA: aI:=r [V (.bool false) 6]<|
 r [M 0 7,M 0 8,Z 8 9,K 9 10,M 1 11,aD (.bK false ⟨false,1⟩ e0 1 [(0,(t 11))]) 12,aD (.app none ⟨false,1⟩ (t 10) (t 12)) 13,Z 7 14,W 1 14 13]<|
 r [M 2 15,D .eql 15 0 16,M 16 6]<|
 .ret
def pC: Of Tryz.prog ld 17 [.tmp 6] nA:=aZ {} Tryz.func56
def zE: aI:=r [X 0 1,V e0 2,V z0 3]<|
 q (r [L 3 1 11,C sN [t 11] 12,M 12 4]<|
 r [M 4 13,D .neq 13 0 14]<|
 c 14 (r [M 4 15,V e0 2,M 15 3]<|
 .ret) k)<|
 q (r [A 0 1 16,K 16 17]<|
 c 17 (r [V (.str [45]) 2,V z0 3]<|
 .ret) k)<|
 r [aD (.iZ ⟨false,1⟩) 5]<|
 q (r [A 2 1 18,K 18 19,N 19 20,V z0 21]<|
 .block 0 (.loop (r [B .lss 21 20 22]<|
 q (c 22 k (.exit 0))<|
 q (.block 1 (r [I true 15 19 21 23,L 15 23 24,J [z0,z0,z0,z0,e0,e0,.ae,z0,z0,z0,e0,e0,.ae,(.bool false),(.bool false)] 7,W 15 7 24]<|
 r [L 15 7 26,C Fk [t 26] 27,M 27 25,E 25 0 28,E 25 1 29,M 28 8,M 29 9]<|
 q (r [M 9 30,D .neq 30 0 31]<|
 c 31 (r [M 9 32,V e0 2,M 32 3]<|
 .ret) k)<|
 R [M 5 33,M 8 34,aD (.bK false ⟨false,1⟩ e0 1 [(0,(t 34))]) 35,aD (.app none ⟨false,1⟩ (t 33) (t 35)) 36,M 36 5]))<|
 R [D .add 21 1 37,M 37 21])))<|
 r [M 5 38,aD (.call false (.c (.fn (.func F4) [] [])) [(t 38),(.c (.str [44,32]))]) 39,M 39 10]<|
 q (r [A 1 1 40,K 40 41]<|
 c 41 (R [M 10 42,aD (.bin .add (.c (.str [110,111,116,40])) (t 42)) 43,aD (.bin .add (t 43) (.c (.str [41]))) 44,M 44 10]) k)<|
 q (r [M 10 45,S 45 46,D .gtr 46 200 47]<|
 c 47 (r [V e0 2,V (i6 5) 3]<|
 .ret) k)<|
 r [M 10 48,M 48 2,V z0 3]<|
 .ret
def Dg: Of Tryz.prog uX 49 [.tmp 2,.tmp 3] zE:=aZ ⟨[],[],[(5,⟨false,1⟩)],[],[],[]⟩ Tryz.func57
def A_: aI:=r [X 0 1,V e0 2,V z0 3]<|
 q (.block 0 (r [L 6 1 6,C nh [t 6] 7,U 7 8,M 8 5]<|
 c 5 (r [V e0 2,V (i6 2) 3]<|
 .ret) (r [L 6 1 10,C mA [t 10] 11,D .gtr 11 12 12,M 12 9]<|
 c 9 (r [V e0 2,V (i6 12) 3]<|
 .ret) k)))<|
 r [aD (.build [.iN,.ae] []) 13,aD (.Cx 185 (t 13)) 14,M 14 4]<|
 r [M 4 15,L 6 1 16,aD (.call false (.c (.fn (.func gg) [] [])) [(t 15),(t 16),(.c z0)]) 17]<|
 q (r [M 4 18,Z 18 19,A 0 19 20,C pK [t 20] 21,D .gtr 21 200 22]<|
 c 22 (r [V e0 2,V (i6 5) 3]<|
 .ret) k)<|
 r [M 4 23,Z 23 24,A 0 24 25,C kr [t 25] 26,M 26 2,V z0 3]<|
 .ret
def Gf: Of Tryz.prog n_ 27 [.tmp 2,.tmp 3] A_:=aZ ⟨[],[],[],[14],[],[]⟩ Tryz.func58
def Ez: aI:=r [V (.bool false) 2]<|
 q (r [M 0 4,N 4 5,D .gtr 5 12 6]<|
 c 6 (r [V (.bool false) 2]<|
 .ret) k)<|
 q (r [V z0 3]<|
 .block 0 (.loop (q (r [M 3 7,M 0 8,N 8 9,B .lss 7 9 10]<|
 c 10 k (.exit 0))<|
 q (.block 1 (r [M 0 13,M 3 14,I true 3 13 14 15,A 2 15 16,K 16 17,S 17 18,D .gtr 18 300 19]<|
 c 19 (r [V (.bool false) 2]<|
 .ret) k))<|
 R [M 3 11,D .add 11 1 12,M 12 3])))<|
 r [V (.bool true) 2]<|
 .ret
def Og: Of Tryz.prog xj 20 [.tmp 2] Ez:=aZ {} Tryz.func59
def Gg: aI:=r [V z0 2,V (.bool false) 3]<|
 q (r [M 0 4]<|
 .block 0 (r [D .eql 4 1 6,M 6 5]<|
 c 5 (r [V (i6 1) 2,V (.bool true) 3]<|
 .ret) (r [D .eql 4 2 8,M 8 7]<|
 c 7 (r [V (i6 6) 2,V (.bool true) 3]<|
 .ret) (r [D .eql 4 3 10,M 10 9]<|
 c 9 (r [V (i6 2) 2,V (.bool true) 3]<|
 .ret) (r [D .eql 4 5 12,M 12 11]<|
 c 11 (r [V (i6 24) 2,V (.bool true) 3]<|
 .ret) (r [D .eql 4 6 14,M 14 13]<|
 c 13 (r [V (i6 8) 2,V (.bool true) 3]<|
 .ret) k))))))<|
 r [M 0 15,D .geq 15 1 16,M 16 17,MT 0 18 17,DT .leq 18 9 19 17,P 17 19 20,V z0 2,M 20 3]<|
 .ret
def PV: Of Tryz.prog pI 21 [.tmp 2,.tmp 3] Gg:=aZ {} Tryz.func60
def M8: aI:=r [V e0 2,V z0 3]<|
 r [M 0 9,N 9 10,C gw [t 10] 11,M 11 4]<|
 q (r [M 0 12,N 12 13,V z0 14]<|
 .block 0 (.loop (r [B .lss 14 13 15]<|
 q (c 15 k (.exit 0))<|
 q (.block 1 (r [I true 3 12 14 16,L 3 16 17,J [z0,z0,e0] 6,W 3 6 17]<|
 r [L 3 6 19,C AJ [t 19] 20,M 20 18,E 18 0 21,E 18 1 22,M 21 7,M 22 8]<|
 q (r [M 8 23,D .neq 23 0 24]<|
 c 24 (r [M 8 25,V e0 2,M 25 3]<|
 .ret) k)<|
 R [M 4 26,M 7 27,B .add 26 27 28,M 28 4]))<|
 R [D .add 14 1 29,M 29 14])))<|
 r [M 4 30,M 30 2,V z0 3]<|
 .ret
def VI: Of Tryz.prog zA 31 [.tmp 2,.tmp 3] M8:=aZ {} Tryz.func61
def IX: aI:=r [X 0 1,V z0 2]<|
 q (r [A 0 1 6,K 6 7,D .eql 7 1 8]<|
 c 8 (r [A 1 1 10,L 6 10 11,C qU [t 11] 12,M 12 9,E 9 0 13,E 9 1 14,M 13 3,M 14 4]<|
 r [M 4 15,D .neq 15 0 16]<|
 c 16 (r [M 4 17,M 17 2]<|
 .ret) k) k)<|
 r [A 0 1 18,K 18 19,D .eql 19 2 20,M 20 21,AF 0 1 22 21,KF 22 23 21,DF .eql 23 3 24 21,O 21 24 25,M 25 5]<|
 q (q (.draw [A 0 1 26,K 26 27,D .lss 27 1 28,M 28 29,AF 0 1 30 29,KF 30 31 29,DF .gtr 31 9 32 29,O 29 32 33,M 33 34,LF 12 1 35 34,LF 12 1 36 34,QF AK [t 36] 37 34,QF kj [t 35,t 37] 38 34,UF 38 39 34,O 34 39 40,M 40 41,AF 10 1 42 41,KF 42 43 41,QF tY [t 43] 44 41,UF 44 45 41,O 41 45 46,M 46 47,AF 11 1 48 47,KF 48 49 47,QF tY [t 49] 50 47,UF 50 51 47,O 47 51 52,M 52 53,MF 5 54 53,MF 54 55 53,AT 7 1 56 55,KT 56 57 55,QT nw [t 57] 58 55,UT 58 59 55,MT 59 60 55,AF 8 1 61 60,KF 61 62 60,DF .lss 62 0 63 60,OT 60 63 64 55,MT 64 65 55,AF 8 1 66 65,KF 66 67 65,DF .gtr 67 2147483648 68 65,OT 65 68 69 55,PF 55 69 70 53,O 53 70 71,M 71 72,AF 9 1 73 72,KF 73 74 72,NF 74 75 72,DF .gtr 75 6 76 72,O 72 76 77,M 77 78,AF 9 1 79 78,KF 79 80 78,QF v_ [t 80] 81 78,UF 81 82 78,O 78 82 83] [])<|
 c 83 (r [V (i6 2) 2]<|
 .ret) k)<|
 r [V z0 2]<|
 .ret
def RP: Of Tryz.prog AD 84 [.tmp 2] IX:=aZ {} Tryz.func62
def Kv: aI:=r [X 0 1,V e0 2]<|
 r [A 0 1 6,K 6 7,C fy [t 7] 8,M 8 3]<|
 q (r [A 0 1 9,K 9 10]<|
 .block 0 (r [D .eql 10 1 12,M 12 11]<|
 c 11 (r [A 1 1 14,L 6 14 15,C qU [t 15] 16,M 16 13,E 13 0 17,E 13 1 18,M 17 4,M 18 5]<|
 r [M 3 19,M 4 20,C je [t 20] 21,B .add 19 21 22,M 22 2]<|
 .ret) (r [D .eql 10 2 24,M 24 23]<|
 c 23 (q (.draw [M 3 25,A 7 1 26,K 26 27,Q je [t 27] 28,B .add 25 28 29,A 8 1 30,K 30 31,Q fy [t 31] 32,B .add 29 32 33,A 9 1 34,K 34 35,Q zB [t 35] 36,B .add 33 36 37,M 37 2] [])<|
 .ret) (r [D .eql 10 3 39,M 39 38]<|
 c 38 (q (.draw [M 3 40,A 7 1 41,K 41 42,Q je [t 42] 43,B .add 40 43 44,A 8 1 45,K 45 46,Q fy [t 46] 47,B .add 44 47 48,M 48 2] [])<|
 .ret) (r [D .eql 10 5 50,M 50 49]<|
 c 49 (q (.draw [M 3 51,A 10 1 52,K 52 53,Q fy [t 53] 54,B .add 51 54 55,A 11 1 56,K 56 57,Q fy [t 57] 58,B .add 55 58 59,M 59 2] [])<|
 .ret) (r [D .eql 10 6 61,M 61 60]<|
 c 60 (r [M 3 62,A 10 1 63,K 63 64,C fy [t 64] 65,B .add 62 65 66,M 66 2]<|
 .ret) k))))))<|
 r [M 3 67,M 67 2]<|
 .ret
def Ud: Of Tryz.prog CQ 68 [.tmp 2] Kv:=aZ {} Tryz.func63
def xL: aI:=r [V z0 2]<|
 r [M 0 7,Z 7 8,A 0 8 9,K 9 10,C jv [t 10] 11,M 11 6,E 6 0 12,E 6 1 13,E 6 2 14,M 12 3,M 13 4,M 14 5]<|
 r [M 0 15,M 4 16,Z 15 17,A 0 17 18,W 1 18 16]<|
 r [M 3 19,M 19 2]<|
 .ret
def Gh: Of Tryz.prog jl 20 [.tmp 2] xL:=aZ {} Tryz.func64
def qH: aI:=r [J [e0,.ae,.ae,z0,z0,.ae] 6]<|
 r [J [e0,.ae,.ae,z0,z0,.ae] 7]<|
 q (r [M 0 8,M 1 9,B .and 8 9 10,D .eql 10 0 11]<|
 c 11 (r [L 6 7 12,W 6 6 12]<|
 .ret) k)<|
 r [M 2 13,aD (.call false (t 13) []) 14,W 6 6 14]<|
 .ret
def wF: Of Tryz.prog mP 15 [.cell 6 true 6] qH:=aZ {} Tryz.func65
def u_: aI:=r [J [e0,.ae,.ae,z0,z0,.ae] 2]<|
 r [M 0 6,C l9 [t 6] 7,C yT [t 7] 8,M 8 5,E 5 0 9,E 5 1 10,J [e0,.ae,.ae,z0,z0,.ae] 3,W 6 3 9,M 10 4]<|
 r [L 6 3 11,W 6 2 11]<|
 .ret
def D_: Of Tryz.prog oV 12 [.cell 2 true 6] u_:=aZ {} Tryz.func66
def pM: aI:=r [V e0 6]<|
 r [V e0 7]<|
 q (r [M 0 8,M 1 9,B .and 8 9 10,D .eql 10 0 11]<|
 c 11 (r [M 7 12,M 12 6]<|
 .ret) k)<|
 r [M 2 13,aD (.call false (t 13) []) 14,M 14 6]<|
 .ret
def vf: Of Tryz.prog l8 15 [.tmp 6] pM:=aZ {} Tryz.func67
def wG: aI:=r [V e0 2]<|
 r [M 0 7,Z 7 8,A 0 8 9,K 9 10,aD (.call false (.c (.fn (.func lf) [] [])) [(t 10),(.c (i6 4000))]) 11,M 11 6,E 6 0 12,E 6 1 13,E 6 2 14,M 12 3,M 13 4,M 14 5]<|
 r [M 0 15,M 4 16,Z 15 17,A 0 17 18,W 1 18 16]<|
 r [M 3 19,M 19 2]<|
 .ret
def Fq: Of Tryz.prog l9 20 [.tmp 2] wG:=aZ {} Tryz.func68
end Go.Proofs.YtmbgnaoilncbnaaGreatDoor
