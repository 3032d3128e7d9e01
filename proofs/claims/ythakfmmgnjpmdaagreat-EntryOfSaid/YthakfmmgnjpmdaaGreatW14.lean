/- Part. -/
import Derived.Test.YthakfmmgnjpmdaaGreatW13
import Derived.KernelRfl
set_option linter.all false
namespace Go.Proofs.YthakfmmgnjpmdaaGreat
open Go.AM Go.AM.W
set_option maxRecDepth 10000
def rX: cY:=r [J [(.bool false),(.bool false),.ai] 2,V z0 3,V z0 4]<|
 r [M 0 11,C 135 [t 11] 12,M 12 10,E 10 0 13,E 10 1 14,E 10 2 15,M 13 5,M 14 6,M 15 7]<|
 q (r [M 7 16,D .neq 16 0 17]<|
 c 17 (r [bq (.build [(.bool false),(.bool false),.ai] []) 18,M 6 19,M 7 20,W 3 2 18,M 19 3,M 20 4]<|
 .ret) k)<|
 r [M 5 21,bq (.build [.ai,z0,(.bool false)] [(0,1,(t 21))]) 22,X 22 23,M 23 8]<|
 q (r [M 5 24,N 24 25,D .eql 25 1 26,M 26 27,MT 8 28 27,⟨.call false (.c (.fn (.func 136) [] [])) [(t 28),(.c (.str [45]))],(some 29),some (27,true)⟩,P 27 29 30]<|
 c 30 (r [bq (.build [(.bool false),(.bool false),.ai] [(0,1,(.c (.bool true)))]) 31,W 3 2 31,V z0 3,V z0 4]<|
 .ret) k)<|
 r [bq (.build [(.bool false),(.bool false),.ai] []) 32,J [(.bool false),(.bool false),.ai] 9,W 3 9 32]<|
 q (r [M 5 33,N 33 34,D .gtr 34 1 35,M 35 36,MT 5 37 36,⟨.fh ⟨true,4⟩ none (t 37) (.c z0),(some 38),some (36,true)⟩,AT 0 38 39 36,KT 39 40 36,DT .eql 40 1 41 36,P 36 41 42,M 42 43,MT 5 44 43,⟨.fh ⟨true,4⟩ none (t 44) (.c z0),(some 45),some (43,true)⟩,AT 1 45 46 43,KT 46 47 43,⟨.bin .eql (t 47) (.c (.str [110,111,116])),(some 48),some (43,true)⟩,P 43 48 49,M 49 50,MT 5 51 50,⟨.fh ⟨true,4⟩ none (t 51) (.c (i6 1)),(some 52),some (50,true)⟩,AT 0 52 53 50,KT 53 54 50,DT .eql 54 4 55 50,P 50 55 56,M 56 57,MT 5 58 57,⟨.fh ⟨true,4⟩ none (t 58) (.c (i6 1)),(some 59),some (57,true)⟩,AT 1 59 60 57,KT 60 61 57,⟨.bin .eql (t 61) (.c (.str [40])),(some 62),some (57,true)⟩,P 57 62 63]<|
 c 63 (r [A 1 9 64,⟨.store 1 (t 64) (.c (.bool true)),none,none⟩]<|
 R [M 8 65,Z 65 66,A 1 66 67,⟨.store 1 (t 67) (.c (i6 2)),none,none⟩]) k)<|
 q (.draw [A 2 9 68,K 68 69,M 8 70,bq (.n7 (.c (.fn (.func 137) [] [])) [(t 70)]) 71,bq (.j7 false ⟨true,15⟩ (.agg [z0,z0,z0,z0,e0,e0,.ai,z0,z0,z0,e0,e0,.ai,(.bool false),(.bool false)]) 1 [(0,(t 71))]) 72,bq (.app none ⟨true,15⟩ (t 69) (t 72)) 73,A 2 9 74,W 1 74 73] [((t 68),(t 70))])<|
 q (.block 0 (.loop (q (r [M 8 75,bq (.call false (.c (.fn (.func 136) [] [])) [(t 75),(.c (.str [44]))]) 76]<|
 c 76 k (.exit 0))<|
 .block 1 (r [M 8 77,Z 77 78,A 1 78 79,K 79 80,D .add 80 1 81,Z 77 82,A 1 82 83,W 1 83 81]<|
 .draw [A 2 9 84,K 84 85,M 8 86,bq (.n7 (.c (.fn (.func 137) [] [])) [(t 86)]) 87,bq (.j7 false ⟨true,15⟩ (.agg [z0,z0,z0,z0,e0,e0,.ai,z0,z0,z0,e0,e0,.ai,(.bool false),(.bool false)]) 1 [(0,(t 87))]) 88,bq (.app none ⟨true,15⟩ (t 85) (t 88)) 89,A 2 9 90,W 1 90 89] [((t 84),(t 86))]))))<|
 q (r [A 1 9 91,K 91 92,M 92 93,MT 8 94 93,ZT 94 95 93,AT 2 95 96 93,KT 96 97 93,UT 97 98 93,P 93 98 99]<|
 c 99 (R [M 8 100,bq (.call false (.c (.fn (.func 138) [] [])) [(t 100),(.c (.str [41]))]) 101]) k)<|
 q (.block 2 (r [M 8 103,Z 103 104,A 1 104 105,K 105 106,M 5 107,N 107 108,B .lss 106 108 109,M 109 102]<|
 c 102 (q (.draw [bq (.build [(.bool false),(.bool false),.ai] []) 110,M 5 111,M 8 112,Z 112 113,A 1 113 114,K 114 115,I true 4 111 115 116,A 3 116 117,K 117 118,W 3 2 110,M 118 3,V (i6 11) 4] [((t 114),(t 2)),((t 117),(t 2))])<|
 .ret) (r [M 8 120,Z 120 121,A 2 121 122,K 122 123,M 123 119]<|
 c 119 (r [bq (.build [(.bool false),(.bool false),.ai] []) 124,M 0 125,S 125 126,W 3 2 124,M 126 3,V (i6 11) 4]<|
 .ret) (r [A 2 9 128,K 128 129,N 129 130,D .gtr 130 12 131,M 131 127]<|
 c 127 (r [bq (.build [(.bool false),(.bool false),.ai] []) 132,W 3 2 132,V z0 3,V (i6 24) 4]<|
 .ret) (r [L 3 9 134,C 139 [t 134] 135,U 135 136,M 136 133]<|
 c 133 (r [bq (.build [(.bool false),(.bool false),.ai] []) 137,W 3 2 137,V z0 3,V (i6 12) 4]<|
 .ret) k)))))<|
 r [L 3 9 138,W 3 2 138,V z0 3,V z0 4]<|
 .ret
def uy: Of aD 84 139 [.cell 2 true 3,.tmp 3,.tmp 4] rX:=pR ⟨[],[],[],[],[71,87],[]⟩ Tryz.func84
def zV: Of aD 85 64 [.tmp 6] (r [X 0 3,V z0 6]<|
 gR [L 3 3 12,C 139 [t 12] 13,U 13 14] 14 [V (i6 2) 6]<|
 q (r [V z0 7]<|
 gL 0 [M 7 15,A 2 3 16,K 16 17,N 17 18,B .lss 15 18 19] 19 ((
 q (.block 1 (r [A 2 3 22,K 22 23,M 7 24,I true 15 23 24 25,L 15 25 26,J [z0,z0,z0,z0,e0,e0,.ai,z0,z0,z0,e0,e0,.ai,.bool false,.bool false] 8,W 15 8 26]<|
 r [A 1 8 28,L 6 28 29,M 2 30,C 87 [t 29,t 30] 31,M 31 27,E 27 0 32,E 27 1 33,M 32 9,M 33 10]<|
 r [M 9 34,M 34 11]<|
 q (r [M 10 35,D .eql 35 0 36,M 36 37,AT 0 8 38 37,KT 38 39 37,DT .eql 39 6 40 37,P 37 40 41]<|
 c 41 (R [A 7 8 43,L 6 43 44,M 2 45,C 87 [t 44,t 45] 46,M 46 42,E 42 0 47,E 42 1 48,M 47 11,M 48 10]) k)<|
 gR [M 10 49,D .neq 49 0 50] 50 [M 10 51,M 51 6]<|
 r [L 15 8 52,M 1 53,M 9 54,C 140 [t 52,t 53,t 54] 55,U 55 56,M 56 57,LF 15 8 58 57,MF 1 59 57,MF 11 60 57,CF 140 [t 58,t 59,t 60] 61 57,UF 61 62 57,O 57 62 63]<|
 c 63 (r [V (i6 14) 6]<|
 .ret) k))<|
 R [M 7 20,D .add 20 1 21,M 21 7])))<|
 r [V z0 6]<|
 .ret):=bj Tryz.func85
def n_: Of aD 86 51 [.cell 2 true 6,.tmp 3,.tmp 4] (r [J [z0,z0,z0,e0,e0,.ai] 2,V z0 3,V z0 4]<|
 r [M 0 12,C 135 [t 12] 13,M 13 11,E 11 0 14,E 11 1 15,E 11 2 16,M 14 5,M 15 6,M 16 7]<|
 gR [M 7 17,D .neq 17 0 18] 18 [gU [z0,z0,z0,e0,e0,.ai] [] 19,M 6 20,M 7 21,W 6 2 19,M 20 3,M 21 4]<|
 r [M 5 23,C 141 [t 23,.c z0,.c z0] 24,M 24 22,E 22 0 25,E 22 1 26,E 22 2 27,J [z0,z0,z0,e0,e0,.ai] 8,W 6 8 25,M 26 9,M 27 10]<|
 q (.block 0 (r [M 9 29,M 5 30,N 30 31,B .lss 29 31 32,M 32 28]<|
 c 28 (q (.draw [gU [z0,z0,z0,e0,e0,.ai] [] 33,M 5 34,M 9 35,I true 4 34 35 36,A 3 36 37,K 37 38,W 6 2 33,M 38 3,V (i6 11) 4] [(t 37,t 2)])<|
 .ret) (r [M 10 40,D .neq 40 0 41,M 41 39]<|
 c 39 (r [gU [z0,z0,z0,e0,e0,.ai] [] 42,M 0 43,S 43 44,W 6 2 42,M 44 3,V (i6 11) 4]<|
 .ret) (r [L 6 8 46,C 142 [t 46] 47,D .gtr 47 12 48,M 48 45]<|
 c 45 (r [gU [z0,z0,z0,e0,e0,.ai] [] 49,W 6 2 49,V z0 3,V (i6 12) 4]<|
 .ret) k))))<|
 r [L 6 8 50,W 6 2 50,V z0 3,V z0 4]<|
 .ret):=bj Tryz.func86
def Cr: Of aD 87 14 [.tmp 4,.tmp 5] (r [X 0 2,V z0 4,V z0 5]<|
 gR [L 6 2 6,C 143 [t 6] 7,U 7 8] 8 [V z0 4,V (i6 2) 5]<|
 r [L 6 2 9,M 1 10,C 144 [t 9,t 10] 11,E 11 0 12,E 11 1 13,M 12 4,M 13 5]<|
 .ret):=bj Tryz.func87
def Nv: Of aD 88 16 [.tmp 4] (r [gF 4]<|
 r [M 0 5,M 1 6,B .eql 5 6 7,M 7 8,MF 0 9 8,DF .eql 9 0 10 8,O 8 10 11,M 11 12,MF 1 13 12,DF .eql 13 0 14 12,O 12 14 15,M 15 4]<|
 .ret):=bj Tryz.func88
def zW: Of aD 89 41 [.tmp 4] (r [X 0 2,V z0 4]<|
 gR [M 1 6,N 6 7,A 0 2 8,A 1 8 9,K 9 10,N 10 11,B .neq 7 11 12] 12 [V (i6 21) 4]<|
 q (r [V z0 5]<|
 gL 0 [M 5 13,M 1 14,N 14 15,B .lss 13 15 16] 16 ((
 q (.block 1 (q (.draw [M 1 19,M 5 20,I true 3 19 20 21,L 3 21 22,Q 145 [t 22] 23,U 23 24,M 24 25,MF 1 26 25,MF 5 27 25,IF true 3 26 27 28 25,AF 0 28 29 25,KF 29 30 25,AF 0 2 31 25,AF 1 31 32 25,KF 32 33 25,MF 5 34 25,IF true 3 33 34 35 25,AF 1 35 36 25,KF 36 37 25,QF 88 [t 30,t 37] 38 25,UF 38 39 25,O 25 39 40] [])<|
 c 40 (r [V (i6 21) 4]<|
 .ret) k))<|
 R [M 5 17,D .add 17 1 18,M 18 5])))<|
 r [V z0 4]<|
 .ret):=bj Tryz.func89
def Nw: Of aD 90 40 [.tmp 6,.tmp 7] (r [X 0 3,gF 6,V z0 7]<|
 q (r [V z0 8]<|
 gL 0 [M 8 11,A 0 3 12,K 12 13,N 13 14,B .lss 11 14 15] 15 ((
 q (.block 1 (q (.draw [A 0 3 19,K 19 20,M 8 21,I true 3 20 21 22,L 3 22 23,M 2 24,M 8 25,I true 3 24 25 26,L 3 26 27,M 1 28,M 2 29,Q 146 [t 23,t 27,t 28,t 29] 30,M 30 18,E 18 0 31,E 18 1 32,M 31 9,M 32 10] [])<|
 r [M 10 33,D .neq 33 0 34,M 34 35,MF 9 36 35,UF 36 37 35,O 35 37 38]<|
 c 38 (r [M 10 39,gF 6,M 39 7]<|
 .ret) k))<|
 R [M 8 16,D .add 16 1 17,M 17 8])))<|
 r [gT 6,V z0 7]<|
 .ret):=bj Tryz.func90
def vJ: Of aD 91 44 [.cell 6 true 3,.tmp 7] (r [X 0 3,J [z0,z0,e0] 6,V z0 7]<|
 gR [L 6 3 10,C 143 [t 10] 11,U 11 12,M 12 13,MF 2 14 13,CF 147 [t 14] 15 13,UF 15 16 13,O 13 16 17,M 17 18,MF 1 19 18,NF 19 20 18,MF 2 21 18,NF 21 22 18,BF .neq 20 22 23 18,O 18 23 24] 24 [gU [z0,z0,e0] [] 25,W 3 6 25,V (i6 2) 7]<|
 r [M 1 26,M 2 27,gU [.ai,.ai,z0] [(0,1,t 26),(1,1,t 27)] 28,X 28 29,M 29 8]<|
 r [M 8 30,L 6 3 31,C 148 [t 30,t 31] 32,J [z0,z0,e0] 9,W 3 9 32]<|
 q (r [M 8 33,Z 33 34,A 2 34 35,K 35 36,D .neq 36 0 37]<|
 c 37 (q (.draw [gU [z0,z0,e0] [] 38,M 8 39,Z 39 40,A 2 40 41,K 41 42,W 3 6 38,M 42 7] [(t 41,t 6)])<|
 .ret) k)<|
 r [L 3 9 43,W 3 6 43,V z0 7]<|
 .ret):=bj Tryz.func91
def Hg: Of aD 92 43 [.tmp 4] (r [X 0 2,X 1 3,V z0 4]<|
 q (.block 0 (r [A 0 2 6,K 6 7,A 0 3 8,K 8 9,B .lss 7 9 10,M 10 11,AF 0 2 12 11,KF 12 13 11,AF 0 3 14 11,KF 14 15 11,BF .eql 13 15 16 11,MF 16 17 11,AT 1 2 18 17,KT 18 19 17,AT 1 3 20 17,KT 20 21 17,BT .lss 19 21 22 17,MT 22 23 17,AF 1 2 24 23,KF 24 25 23,AF 1 3 26 23,KF 26 27 23,BF .eql 25 27 28 23,MF 28 29 23,AT 2 2 30 29,KT 30 31 29,AT 2 3 32 29,KT 32 33 29,BT .lss 31 33 34 29,PF 29 34 35 23,OT 23 35 36 17,PF 17 36 37 11,O 11 37 38,M 38 5]<|
 c 5 (r [V (i6 (-1)) 4]<|
 .ret) (r [L 3 2 40,L 3 3 41,bq (.jD false true [.i,.i,.s] (t 40) (t 41)) 42,M 42 39]<|
 c 39 (r [V z0 4]<|
 .ret) k)))<|
 r [V (i6 1) 4]<|
 .ret):=bj Tryz.func92
def DG: Of aD 93 27 [.tmp 4,.tmp 5] (r [V z0 4,V z0 5]<|
 gR [M 1 6,D .gtr 6 0 7,M 7 8,MT 0 9 8,MT 1 10 8,⟨.bin .sub (gJ 9223372036854775807) (t 10),(some 11),some (8,true)⟩,BT .gtr 9 11 12 8,P 8 12 13,M 13 14,MF 1 15 14,DF .lss 15 0 16 14,MF 16 17 14,MT 0 18 17,MT 1 19 17,⟨.bin .sub (gJ (-9223372036854775808)) (t 19),(some 20),some (17,true)⟩,BT .lss 18 20 21 17,PF 17 21 22 14,O 14 22 23] 23 [V z0 4,V (i6 15) 5]<|
 r [M 0 24,M 1 25,B .add 24 25 26,M 26 4,V z0 5]<|
 .ret):=bj Tryz.func93
def Nx: Of aD 94 26 [.tmp 4] (r [gF 4]<|
 q (r [V z0 5]<|
 gL 0 [M 5 7,M 0 8,N 8 9,B .lss 7 9 10] 10 ((
 q (.block 1 (q (.draw [M 0 13,M 5 14,I true 3 13 14 15,L 3 15 16,M 1 17,M 5 18,I true 3 17 18 19,L 3 19 20,Q 92 [t 16,t 20] 21,M 21 6] [])<|
 r [M 6 22,D .neq 22 0 23]<|
 c 23 (r [M 6 24,D .lss 24 0 25,M 25 4]<|
 .ret) k))<|
 R [M 5 11,D .add 11 1 12,M 12 5])))<|
 r [gF 4]<|
 .ret):=bj Tryz.func94
def KR: Of aD 95 40 [.tmp 6] (r [gF 6]<|
 q (r [V z0 7]<|
 gL 0 [M 7 10,M 1 11,N 11 12,B .lss 10 12 13] 13 ((
 q (.block 1 (q (.draw [M 0 16,M 7 17,I true 3 16 17 18,L 3 18 19,M 1 20,M 7 21,I true 3 20 21 22,L 3 22 23,Q 149 [t 19,t 23] 24,M 0 25,M 7 26,I true 3 25 26 27,L 3 27 28,M 2 29,M 7 30,I true 3 29 30 31,L 3 31 32,Q 149 [t 28,t 32] 33,M 24 8,M 33 9] [])<|
 r [M 8 34,M 9 35,B .neq 34 35 36]<|
 c 36 (r [M 8 37,M 9 38,B .lss 37 38 39,M 39 6]<|
 .ret) k))<|
 R [M 7 14,D .add 14 1 15,M 15 7])))<|
 r [gF 6]<|
 .ret):=bj Tryz.func95
def Ny: Of aD 96 13 [.tmp 2] (r [V (.int .u64 0) 2]<|
 gR [M 0 3,D .lss 3 0 4] 4 [M 0 5,bq (.bin .sub (gJ (-1)) (t 5)) 6,bq (.jE .u64 (t 6)) 7,bq (.bin .mul (.c (.int .u64 2)) (t 7)) 8,bq (.bin .add (t 8) (.c (.int .u64 1))) 9,M 9 2]<|
 r [M 0 10,bq (.jE .u64 (t 10)) 11,bq (.bin .mul (.c (.int .u64 2)) (t 11)) 12,M 12 2]<|
 .ret):=bj Tryz.func96
def KS: Of aD 97 25 [.tmp 2] (r [X 0 1,V e0 2]<|
 r [A 0 1 4,K 4 5,C 52 [t 5] 6,M 6 3]<|
 q (r [A 0 1 7,K 7 8]<|
 .block 0 (q (r [D .eql 8 1 10,M 10 9]<|
 c 9 k (R [D .eql 8 3 11,M 11 9]))<|
 c 9 (r [M 3 12,A 1 1 13,K 13 14,C 52 [t 14] 15,B .add 12 15 16,M 16 2]<|
 .ret) (r [D .eql 8 2 18,M 18 17]<|
 c 17 (r [M 3 19,A 2 1 20,K 20 21,C 51 [t 21] 22,B .add 19 22 23,M 23 2]<|
 .ret) k)))<|
 r [M 3 24,M 24 2]<|
 .ret):=bj Tryz.func97
def Nz: Of aD 98 10 [.tmp 2] (r [V (.int .u64 0) 2]<|
 r [M 0 3,bq (.jE .u64 (t 3)) 4,bq (.bin .shl (t 4) (.c (.int .u64 1))) 5,M 0 6,bq (.bin .shr (t 6) (.c (.int .u64 63))) 7,bq (.jE .u64 (t 7)) 8,B .xor 5 8 9,M 9 2]<|
 .ret):=bj Tryz.func98
def CU: Of aD 99 6 [.tmp 2] (r [V (.int .u8 0) 2]<|
 r [M 0 3,bq (.jE .u8 (t 3)) 4,bq (.bin .and (t 4) (.c (.int .u8 127))) 5,M 5 2]<|
 .ret):=bj Tryz.func99
def zX: Of aD 100 32 [.tmp 2,.tmp 3] (r [X 0 1,V e0 2,V z0 3]<|
 q (r [L 3 1 6,C 115 [t 6] 7,M 7 4]<|
 r [M 4 8,D .neq 8 0 9]<|
 c 9 (r [M 4 10,V e0 2,M 10 3]<|
 .ret) k)<|
 r [A 0 1 11,K 11 12,C 60 [t 12] 13,M 13 5]<|
 q (r [A 0 1 14,K 14 15]<|
 .block 0 (r [D .eql 15 2 17,M 17 16]<|
 c 16 (R [M 5 18,A 2 1 19,K 19 20,C 59 [t 20] 21,B .add 18 21 22,M 22 5]) (q (r [D .eql 15 1 24,M 24 23]<|
 c 23 k (R [D .eql 15 3 25,M 25 23]))<|
 c 23 (R [M 5 26,A 1 1 27,K 27 28,C 60 [t 28] 29,B .add 26 29 30,M 30 5]) k)))<|
 r [M 5 31,M 31 2,V z0 3]<|
 .ret):=bj Tryz.func100
def Hh: Of aD 101 6 [.tmp 2] (r [V (.int .u8 0) 2]<|
 r [M 0 3,bq (.jE .u8 (t 3)) 4,bq (.bin .and (t 4) (.c (.int .u8 127))) 5,M 5 2]<|
 .ret):=bj Tryz.func101
def IX: Of aD 102 11 [.tmp 2] (r [V z0 2]<|
 r [M 0 3,bq (.bin .shr (t 3) (.c (.int .u64 1))) 4,bq (.jE .i64 (t 4)) 5,M 0 6,bq (.bin .and (t 6) (.c (.int .u64 1))) 7,bq (.jE .i64 (t 7)) 8,bq (.un .neg (t 8)) 9,B .xor 5 9 10,M 10 2]<|
 .ret):=bj Tryz.func102
def NA: Of aD 103 64 [.cell 2 true 3,.tmp 3,.tmp 4] (r [J [z0,z0,e0] 2,V e0 3,V z0 4]<|
 r [M 0 10,C 64 [t 10] 11,M 11 9,E 9 0 12,E 9 1 13,E 9 2 14,M 12 5,M 13 6,M 14 7]<|
 r [M 5 15,gU [z0,z0,e0] [(0,1,t 15)] 16,J [z0,z0,e0] 8,W 3 8 16]<|
 q (.block 0 (r [M 7 18,D .neq 18 0 19,M 19 17]<|
 c 17 k (r [A 0 8 21,K 21 22,D .eql 22 0 23,M 23 20]<|
 c 20 k (r [A 0 8 25,K 25 26,D .eql 26 1 27,M 27 28,AF 0 8 29 28,KF 29 30 28,DF .eql 30 3 31 28,O 28 31 32,M 32 24]<|
 c 24 (R [M 6 34,C 64 [t 34] 35,M 35 33,E 33 0 36,E 33 1 37,E 33 2 38,A 1 8 39,W 1 39 36,M 37 6,M 38 7]) (r [A 0 8 41,K 41 42,D .eql 42 2 43,M 43 40]<|
 c 40 (R [M 6 45,C 33 [t 45,gJ 40] 46,M 46 44,E 44 0 47,E 44 1 48,E 44 2 49,A 2 8 50,W 1 50 47,M 48 6,M 49 7]) (R [V (i6 4) 7]))))))<|
 q (r [M 7 51,D .eql 51 0 52,M 52 53,LT 3 8 54 53,CT 115 [t 54] 55 53,DT .neq 55 0 56 53,P 53 56 57]<|
 c 57 (R [V (i6 4) 7]) k)<|
 gR [M 7 58,D .neq 58 0 59] 59 [gU [z0,z0,e0] [] 60,M 7 61,W 3 2 60,V e0 3,M 61 4]<|
 r [L 3 8 62,M 6 63,W 3 2 62,M 63 3,V z0 4]<|
 .ret):=bj Tryz.func103
def Rv: Of aD 104 13 [.tmp 2] (r [V z0 2]<|
 gR [M 0 3,bq (.bin .eql (t 3) (.c e0)) 4,M 4 5,MF 0 6 5,⟨.jh (t 6) (.c z0),(some 7),some (5,false)⟩,CF 150 [t 7] 8 5,UF 8 9 5,O 5 9 10] 10 [V z0 2]<|
 r [M 0 11,C 151 [t 11,(.c (.fn (.func 152) [] []))] 12,M 12 2]<|
 .ret):=bj Tryz.func104
def IY: Of aD 105 14 [.tmp 2] (r [gF 2]<|
 q (r [M 0 3]<|
 .block 0 (q (r [bq (.bin .eql (t 3) (gS [97,110,100])) 5,M 5 4]<|
 c 4 k (r [bq (.bin .eql (t 3) (gS [111,114])) 6,M 6 4]<|
 c 4 k (r [bq (.bin .eql (t 3) (gS [110,111,116])) 7,M 7 4]<|
 c 4 k (r [bq (.bin .eql (t 3) (gS [105,102])) 8,M 8 4]<|
 c 4 k (r [bq (.bin .eql (t 3) (gS [116,104,101,110])) 9,M 9 4]<|
 c 4 k (r [bq (.bin .eql (t 3) (gS [101,108,115,101])) 10,M 10 4]<|
 c 4 k (r [bq (.bin .eql (t 3) (gS [116,114,117,101])) 11,M 11 4]<|
 c 4 k (r [bq (.bin .eql (t 3) (gS [102,97,108,115,101])) 12,M 12 4]<|
 c 4 k (R [bq (.bin .eql (t 3) (gS [110,117,108,108])) 13,M 13 4])))))))))<|
 c 4 (r [gT 2]<|
 .ret) k))<|
 r [gF 2]<|
 .ret):=bj Tryz.func105
def wc: Of aD 106 41 [.tmp 2] (r [V z0 2]<|
 gR [M 0 5,N 5 6,D .gtr 6 6 7] 7 [V (i6 24) 2]<|
 q (r [M 0 8,N 8 9,V z0 10]<|
 .block 0 (.loop (r [B .lss 10 9 11]<|
 q (c 11 k (.exit 0))<|
 q (.block 1 (r [M 10 12,I true 3 8 10 13,L 3 13 14,J [e0,z0,.ai] 4,M 12 3,W 3 4 14]<|
 gR [A 0 4 15,K 15 16,C 66 [t 16] 17,U 17 18,M 18 19,MF 0 20 19,AF 0 4 21 19,KF 21 22 19,CF 154 [t 20,t 22] 23 19,MF 3 24 19,BF .neq 23 24 25 19,O 19 25 26] 26 [V (i6 13) 2]<|
 r [A 1 4 27,K 27 28,D .neq 28 1 29,M 29 30,AT 1 4 31 30,KT 31 32 30,DT .neq 32 2 33 30,P 30 33 34,M 34 35,AT 1 4 36 35,KT 36 37 35,DT .neq 37 3 38 35,P 35 38 39]<|
 c 39 (r [V (i6 14) 2]<|
 .ret) k))<|
 R [D .add 10 1 40,M 40 10])))<|
 r [V z0 2]<|
 .ret):=bj Tryz.func106
def tY: Of aD 107 9 [.tmp 4] (r [gF 4]<|
 r [M 0 5,M 1 6,C 155 [t 5,t 6] 7,D .geq 7 0 8,M 8 4]<|
 .ret):=bj Tryz.func107
def CV: Of aD 108 8 [.tmp 3] (r [X 0 2,gF 3]<|
 r [L 3 2 4,K 1 5,C 109 [t 4,t 5] 6,U 6 7,M 7 3]<|
 .ret):=bj Tryz.func108
def yF: Of aD 109 50 [.tmp 4] (r [X 0 2,gF 4]<|
 gR [M 1 7,U 7 8] 8 [A 2 2 9,K 9 10,N 10 11,D .eql 11 0 12,M 12 4]<|
 q (r [A 2 2 13,K 13 14,N 14 15,V z0 16]<|
 .block 0 (.loop (r [B .lss 16 15 17]<|
 q (c 17 k (.exit 0))<|
 q (.block 1 (r [M 16 18,I true 3 14 16 19,L 3 19 20,J [z0,z0,e0] 6,M 18 5,W 3 6 20]<|
 r [L 3 6 21,C 115 [t 21] 22,D .neq 22 0 23,M 23 24,AF 0 6 25 24,KF 25 26 24,AF 1 2 27 24,KF 27 28 24,BF .neq 26 28 29 24,O 24 29 30,M 30 31,AF 2 2 32 31,KF 32 33 31,LF 3 6 34 31,CF 156 [t 33,t 34] 35 31,MF 5 36 31,BF .neq 35 36 37 31,O 31 37 38]<|
 c 38 (r [gF 4]<|
 .ret) k))<|
 R [D .add 16 1 39,M 39 16])))<|
 r [A 2 2 40,K 40 41,N 41 42,D .geq 42 1 43,M 43 44,AT 2 2 45 44,KT 45 46 44,NT 46 47 44,DT .leq 47 8 48 44,P 44 48 49,M 49 4]<|
 .ret):=bj Tryz.func109
def lR: Of aD 110 77 [.cell 2 true 3,.tmp 3,.tmp 4] (r [J [.bool false,.bool false,.ai] 2,V z0 3,V z0 4]<|
 r [M 0 11,C 157 [t 11] 12,M 12 10,E 10 0 13,E 10 1 14,E 10 2 15,M 13 5,M 14 6,M 15 7]<|
 gR [M 7 16,D .neq 16 0 17] 17 [gU [.bool false,.bool false,.ai] [] 18,M 6 19,M 7 20,W 3 2 18,M 19 3,M 20 4]<|
 r [M 5 21,gU [.ai,z0] [(0,1,t 21)] 22,gU [.ai,z0,.bool false] [(0,2,t 22)] 23,X 23 24,M 24 8]<|
 gR [M 5 25,N 25 26,D .eql 26 1 27,M 27 28,MT 8 29 28,ZT 29 30 28,AT 0 30 31 28,CT 158 [t 31] 32 28,⟨.bin .eql (t 32) (gS [45]),(some 33),some (28,true)⟩,P 28 33 34] 34 [gU [.bool false,.bool false,.ai] [(0,1,(.c (.bool true)))] 35,W 3 2 35,V z0 3,V z0 4]<|
 r [M 8 36,C 159 [t 36] 37,J [.bool false,.bool false,.ai] 9,W 3 9 37]<|
 q (.block 0 (r [M 8 39,Z 39 40,A 0 40 41,A 1 41 42,K 42 43,M 5 44,N 44 45,B .lss 43 45 46,M 46 38]<|
 c 38 (q (.draw [gU [.bool false,.bool false,.ai] [] 47,M 5 48,M 8 49,Z 49 50,A 0 50 51,A 1 51 52,K 52 53,I true 4 48 53 54,A 3 54 55,K 55 56,W 3 2 47,M 56 3,V (i6 11) 4] [(t 52,t 2),(t 55,t 2)])<|
 .ret) (r [M 8 58,Z 58 59,A 2 59 60,K 60 61,M 61 57]<|
 c 57 (r [gU [.bool false,.bool false,.ai] [] 62,M 0 63,S 63 64,W 3 2 62,M 64 3,V (i6 11) 4]<|
 .ret) (r [A 2 9 66,K 66 67,N 67 68,D .gtr 68 12 69,M 69 65]<|
 c 65 (r [gU [.bool false,.bool false,.ai] [] 70,W 3 2 70,V z0 3,V (i6 24) 4]<|
 .ret) (r [L 3 9 72,C 160 [t 72] 73,D .neq 73 0 74,M 74 71]<|
 c 71 (r [gU [.bool false,.bool false,.ai] [] 75,W 3 2 75,V z0 3,V (i6 12) 4]<|
 .ret) k)))))<|
 r [L 3 9 76,W 3 2 76,V z0 3,V z0 4]<|
 .ret):=bj Tryz.func110
def Ct: Of aD 111 54 [.tmp 6] (r [X 0 3,V z0 6]<|
 q (r [L 3 3 15,C 160 [t 15] 16,M 16 7]<|
 r [M 7 17,D .neq 17 0 18]<|
 c 18 (r [M 7 19,M 19 6]<|
 .ret) k)<|
 q (r [A 2 3 20,K 20 21,N 21 22,V z0 23]<|
 .block 0 (.loop (r [B .lss 23 22 24]<|
 q (c 24 k (.exit 0))<|
 q (.block 1 (r [I true 15 21 23 25,L 15 25 26,J [z0,z0,z0,z0,e0,e0,.ai,z0,z0,z0,e0,e0,.ai,.bool false,.bool false] 9,W 15 9 26]<|
 r [gT 10]<|
 q (r [L 15 9 27,C 161 [t 27] 28,N 28 29,V z0 30]<|
 .block 2 (.loop (r [B .lss 30 29 31]<|
 q (c 31 k (.exit 2))<|
 q (.block 3 (r [I true 6 28 30 32,L 6 32 33,J [z0,z0,z0,e0,e0,.ai] 12,W 6 12 33]<|
 r [L 6 12 35,M 2 36,C 113 [t 35,t 36] 37,M 37 34,E 34 0 38,E 34 1 39,M 38 13,M 39 14]<|
 gR [M 14 40,D .neq 40 0 41] 41 [M 14 42,M 42 6]<|
 R [M 10 43,M 43 44,LT 15 9 45 44,MT 1 46 44,MT 13 47 44,CT 162 [t 45,t 46,t 47] 48 44,P 44 48 49,M 49 10]))<|
 R [D .add 30 1 50,M 50 30])))<|
 r [M 10 51,U 51 52]<|
 c 52 (r [V (i6 14) 6]<|
 .ret) k))<|
 R [D .add 23 1 53,M 53 23])))<|
 r [V z0 6]<|
 .ret):=bj Tryz.func111
def nE: Of aD 112 51 [.cell 2 true 6,.tmp 3,.tmp 4] (r [J [z0,z0,z0,e0,e0,.ai] 2,V z0 3,V z0 4]<|
 r [M 0 11,C 157 [t 11] 12,M 12 10,E 10 0 13,E 10 1 14,E 10 2 15,M 13 5,M 14 6,M 15 7]<|
 gR [M 7 16,D .neq 16 0 17] 17 [gU [z0,z0,z0,e0,e0,.ai] [] 18,M 6 19,M 7 20,W 6 2 18,M 19 3,M 20 4]<|
 r [M 5 22,C 163 [t 22,.c z0,.c z0] 23,M 23 21,E 21 0 24,E 21 1 25,E 21 2 26,J [z0,z0,z0,e0,e0,.ai] 8,W 6 8 24,M 25 9,M 26 7]<|
 q (.block 0 (r [M 9 28,M 5 29,N 29 30,B .lss 28 30 31,M 31 27]<|
 c 27 (q (.draw [gU [z0,z0,z0,e0,e0,.ai] [] 32,M 5 33,M 9 34,I true 4 33 34 35,A 3 35 36,K 36 37,W 6 2 32,M 37 3,V (i6 11) 4] [(t 36,t 2)])<|
 .ret) (r [M 7 39,D .neq 39 0 40,M 40 38]<|
 c 38 (r [gU [z0,z0,z0,e0,e0,.ai] [] 41,M 0 42,S 42 43,M 7 44,W 6 2 41,M 43 3,M 44 4]<|
 .ret) (r [L 6 8 46,C 164 [t 46] 47,D .gtr 47 12 48,M 48 45]<|
 c 45 (r [gU [z0,z0,z0,e0,e0,.ai] [] 49,W 6 2 49,V z0 3,V (i6 12) 4]<|
 .ret) k))))<|
 r [L 6 8 50,W 6 2 50,V z0 3,V z0 4]<|
 .ret):=bj Tryz.func112
def zY: Of aD 113 17 [.tmp 4,.tmp 5] (r [X 0 2,V z0 4,V z0 5]<|
 q (r [L 6 2 7,C 117 [t 7] 8,M 8 6]<|
 r [M 6 9,D .neq 9 0 10]<|
 c 10 (r [M 6 11,V z0 4,M 11 5]<|
 .ret) k)<|
 r [L 6 2 12,M 1 13,C 165 [t 12,t 13] 14,E 14 0 15,E 14 1 16,M 15 4,M 16 5]<|
 .ret):=bj Tryz.func113
def KU: Of aD 114 16 [.tmp 4] (r [gF 4]<|
 r [M 0 5,M 1 6,B .eql 5 6 7,M 7 8,MF 0 9 8,DF .eql 9 0 10 8,O 8 10 11,M 11 12,MF 1 13 12,DF .eql 13 0 14 12,O 12 14 15,M 15 4]<|
 .ret):=bj Tryz.func114
def KV: Of aD 115 39 [.tmp 2] (r [X 0 1,V z0 2]<|
 r [gF 3]<|
 q (r [A 0 1 4,K 4 5]<|
 .block 0 (r [D .eql 5 0 7,M 7 6]<|
 c 6 (R [L 3 1 8,gU [z0,z0,e0] [] 9,bq (.jD false true [.i,.i,.s] (t 8) (t 9)) 10,M 10 3]) (r [D .eql 5 1 12,M 12 11]<|
 c 11 (R [A 2 1 13,K 13 14,bq (.bin .eql (t 14) (.c e0)) 15,M 15 3]) (r [D .eql 5 2 17,M 17 16]<|
 c 16 (R [A 1 1 18,K 18 19,D .eql 19 0 20,M 20 21,AT 2 1 22 21,KT 22 23 21,CT 166 [t 23] 24 21,P 21 24 25,M 25 3]) (r [D .eql 5 3 27,M 27 26]<|
 c 26 (R [A 2 1 28,K 28 29,bq (.bin .eql (t 29) (.c e0)) 30,M 30 31,AT 1 1 32 31,KT 32 33 31,DT .andNot 33 1 34 31,DT .eql 34 0 35 31,P 31 35 36,M 36 3]) k)))))<|
 gR [M 3 37,U 37 38] 38 [V (i6 2) 2]<|
 r [V z0 2]<|
 .ret):=bj Tryz.func115
def Cu: Of aD 116 54 [.tmp 8,.tmp 9] (r [X 0 4,X 1 5,gF 8,V z0 9]<|
 q (r [L 3 4 15,L 3 5 16,M 2 17,M 3 18,C 167 [t 15,t 16,t 17,t 18] 19,M 19 10]<|
 r [M 10 20,D .neq 20 0 21]<|
 c 21 (r [M 10 22,gF 8,M 22 9]<|
 .ret) k)<|
 q (r [A 2 4 23,K 23 24,N 24 25,V z0 26]<|
 .block 0 (.loop (r [B .lss 26 25 27]<|
 q (c 27 k (.exit 0))<|
 q (.block 1 (r [I true 15 24 26 28,L 15 28 29,J [z0,z0,z0,z0,e0,e0,.ai,z0,z0,z0,e0,e0,.ai,.bool false,.bool false] 12,W 15 12 29]<|
 r [L 15 12 31,L 3 5 32,M 2 33,M 3 34,C 168 [t 31,t 32,t 33,t 34] 35,M 35 30,E 30 0 36,E 30 1 37,M 36 13,M 37 14]<|
 .block 2 (r [M 14 39,D .neq 39 0 40,M 40 38]<|
 c 38 (r [M 14 41,gF 8,M 41 9]<|
 .ret) (r [M 13 43,M 43 42]<|
 c 42 (r [A 1 4 44,K 44 45,U 45 46,M 46 8,V z0 9]<|
 .ret) k))))<|
 R [D .add 26 1 47,M 47 26])))<|
 r [A 0 4 48,K 48 49,M 49 50,AF 1 4 51 50,KF 51 52 50,O 50 52 53,M 53 8,V z0 9]<|
 .ret):=bj Tryz.func116
def IZ: Of aD 117 6 [.tmp 2] (r [X 0 1,V z0 2]<|
 gR [L 6 1 3,C 169 [t 3] 4,U 4 5] 5 [V (i6 2) 2]<|
 r [V z0 2]<|
 .ret):=bj Tryz.func117
def eH: Of aD 119 90 [.cell 4 true 3] (r [X 0 2,X 1 3,J [z0,z0,e0] 4]<|
 q (r [A 0 3 7,K 7 8]<|
 .block 0 (r [D .eql 8 1 10,M 10 9]<|
 c 9 (r [A 1 3 11,L 3 11 12,W 3 4 12]<|
 .ret) (r [D .eql 8 2 14,M 14 13]<|
 c 13 (r [L 2 2 15,A 4 3 16,K 16 17,C 170 [t 15,t 17] 18,W 3 4 18]<|
 .ret) k)))<|
 q (.draw [L 2 2 19,A 5 3 20,K 20 21,gI true 6 21 0 22,L 6 22 23,J [z0,z0,e0] 5,bq (.ex (.pc 119) [t 19,t 23]) 24,W 3 5 24] [(.c .j4,.c .j4)])<|
 q (r [A 0 3 25,K 25 26]<|
 .block 1 (r [D .eql 26 3 28,M 28 27]<|
 c 27 (gR [L 3 5 29,gB true 3 (.agg [z0,z0,e0]) 1 [(0,t 29)] 30,C 171 [gJ 1,t 30] 31] 31 [L 3 5 32,W 3 4 32]<|
 r [A 1 5 33,K 33 34,C 173 [.c z0,t 34] 35,E 35 0 36,E 35 1 37,C 172 [t 36,t 37] 38,W 3 4 38]<|
 .ret) (r [D .eql 26 16 40,M 40 39]<|
 c 39 (r [L 3 5 41,gB true 3 (.agg [z0,z0,e0]) 1 [(0,t 41)] 42,C 171 [gJ 3,t 42] 43]<|
 q (q (.draw [L 3 5 44,Q 174 [(.c (.bool true))] 45,bq (.jD false true [.i,.i,.s] (t 44) (t 45)) 46] [])<|
 c 46 (q (.draw [L 2 2 47,A 5 3 48,K 48 49,gI true 6 49 1 50,L 6 50 51,bq (.ex (.pc 119) [t 47,t 51]) 52,W 3 4 52] [(.c .j4,.c .j4)])<|
 .ret) k)<|
 q (.draw [L 2 2 53,A 5 3 54,K 54 55,gI true 6 55 2 56,L 6 56 57,bq (.ex (.pc 119) [t 53,t 57]) 58,W 3 4 58] [(.c .j4,.c .j4)])<|
 .ret) k)))<|
 q (.draw [L 2 2 59,A 5 3 60,K 60 61,gI true 6 61 1 62,L 6 62 63,J [z0,z0,e0] 6,bq (.ex (.pc 119) [t 59,t 63]) 64,W 3 6 64] [(.c .j4,.c .j4)])<|
 q (r [A 0 3 65,K 65 66]<|
 .block 2 (q (r [D .eql 66 4 68,M 68 67]<|
 c 67 k (r [D .eql 66 5 69,M 69 67]<|
 c 67 k (r [D .eql 66 6 70,M 70 67]<|
 c 67 k (R [D .eql 66 7 71,M 71 67]))))<|
 c 67 (r [A 0 3 72,K 72 73,L 3 5 74,L 3 6 75,C 175 [t 73,t 74,t 75] 76,W 3 4 76]<|
 .ret) (q (r [D .eql 66 14 78,M 78 77]<|
 c 77 k (R [D .eql 66 15 79,M 79 77]))<|
 c 77 (r [A 0 3 80,K 80 81,L 3 5 82,L 3 6 83,C 176 [t 81,t 82,t 83] 84,W 3 4 84]<|
 .ret) k)))<|
 r [A 0 3 85,K 85 86,L 3 5 87,L 3 6 88,C 177 [t 86,t 87,t 88] 89,W 3 4 89]<|
 .ret):=pR ⟨[],[],[],[],[100024,100064,200024,200052,200058,200064],[]⟩ Tryz.func119
def sW: Of aD 120 9 [] (R [M 0 4,M 0 5,N 5 6,M 1 7,C 178 [t 4,t 6,t 7] 8]):=bj Tryz.func120
def Hi: Of aD 121 8 [.tmp 4] (r [V z0 4]<|
 r [M 0 5,M 1 6,C 122 [t 5,t 6,(.c (.fn (.func 123) [] []))] 7,M 7 4]<|
 .ret):=bj Tryz.func121
def vm: Of aD 122 39 [.tmp 6] (r [V z0 6]<|
 q (r [M 0 11,N 11 12,V z0 13]<|
 .block 0 (.loop (r [B .lss 13 12 14]<|
 q (c 14 k (.exit 0))<|
 q (.block 1 (r [M 13 15,I true 3 11 13 16,L 3 16 17,J [z0,z0,e0] 8,M 15 7,W 3 8 17]<|
 gR [M 7 18,M 1 19,N 19 20,B .geq 18 20 21] 21 [V (i6 1) 6]<|
 r [M 1 22,M 7 23,I true 3 22 23 24,L 3 24 25,J [z0,z0,e0] 9,W 3 9 25]<|
 r [M 2 26,L 3 8 27,L 3 9 28,bq (.call false (t 26) [t 27,t 28]) 29,M 29 10]<|
 r [M 10 30,D .neq 30 0 31]<|
 c 31 (r [M 10 32,M 32 6]<|
 .ret) k))<|
 R [D .add 13 1 33,M 33 13])))<|
 gR [M 0 34,N 34 35,M 1 36,N 36 37,B .lss 35 37 38] 38 [V (i6 (-1)) 6]<|
 r [V z0 6]<|
 .ret):=bj Tryz.func122
def Hj: Of aD 123 22 [.tmp 4] (r [X 0 2,X 1 3,V z0 4]<|
 q (.draw [A 0 2 5,K 5 6,A 0 3 7,K 7 8,Q 180 [t 6,t 8] 9,A 1 2 10,K 10 11,A 1 3 12,K 12 13,Q 126 [t 11,t 13] 14,A 2 2 15,K 15 16,A 2 3 17,K 17 18,Q 181 [t 16,t 18] 19,gB false 1 z0 3 [(0,t 9),(1,t 14),(2,t 19)] 20,Q 179 [t 20] 21,M 21 4] [])<|
 .ret):=bj Tryz.func123
def Rw: Of aD 124 52 [.cell 4 true 3,.tmp 5] (r [J [z0,z0,e0] 4,V z0 5]<|
 r [bq (.ji ⟨true,3⟩) 6]<|
 q (r [M 1 9,N 9 10,V z0 11]<|
 .block 0 (.loop (r [B .lss 11 10 12]<|
 q (c 12 k (.exit 0))<|
 q (.block 1 (r [I false 1 9 11 13,K 13 14,M 14 8]<|
 r [M 8 15,gI true 3 15 0 16,A 0 16 17,K 17 18,D .neq 18 0 19]<|
 c 19 (R [M 6 20,M 8 21,gI true 3 21 0 22,L 3 22 23,gB true 3 (.agg [z0,z0,e0]) 1 [(0,t 23)] 24,gA true 3 20 24 25,M 25 6]) k))<|
 R [D .add 11 1 26,M 26 11])))<|
 q (.block 2 (r [M 0 28,D .eql 28 4 29,M 29 27]<|
 c 27 (r [M 1 30,N 30 31,gU [z0,z0,e0] [(0,1,gJ 1),(1,1,t 31)] 32,W 3 4 32,V z0 5]<|
 .ret) (r [M 0 34,D .eql 34 1 35,M 35 33]<|
 c 33 (r [M 6 36,C 182 [t 36] 37,E 37 0 38,E 37 1 39,W 3 4 38,M 39 5]<|
 .ret) (r [M 6 41,N 41 42,D .eql 42 0 43,M 43 40]<|
 c 40 (r [gU [z0,z0,e0] [] 44,W 3 4 44,V z0 5]<|
 .ret) (r [M 0 46,D .eql 46 2 47,M 47 45]<|
 c 45 (r [M 6 48,C 183 [t 48,(.c (.fn (.func 123) [] []))] 49,W 3 4 49,V z0 5]<|
 .ret) k)))))<|
 r [M 6 50,C 184 [t 50,(.c (.fn (.func 123) [] []))] 51,W 3 4 51,V z0 5]<|
 .ret):=pR ⟨[],[],[(6,⟨true,3⟩)],[],[],[]⟩ Tryz.func124
def I0: Of aD 125 10 [.tmp 3] (r [gF 3]<|
 r [M 0 4,K 1 5,gI false 1 5 0 6,K 6 7,C 29 [t 4,t 7] 8,U 8 9,M 9 3]<|
 .ret):=bj Tryz.func125
def DH: Of aD 126 20 [.tmp 4] (r [V z0 4]<|
 r [M 0 7,C 185 [t 7] 8,M 8 5]<|
 r [M 1 9,C 185 [t 9] 10,M 10 6]<|
 q (r [M 5 11]<|
 c 11 (gR [M 6 12] 12 [V z0 4]<|
 r [V (i6 (-1)) 4]<|
 .ret) k)<|
 gR [M 6 13] 13 [V (i6 1) 4]<|
 gR [M 0 14,M 1 15,B .lss 14 15 16] 16 [V (i6 (-1)) 4]<|
 gR [M 0 17,M 1 18,B .gtr 17 18 19] 19 [V (i6 1) 4]<|
 r [V z0 4]<|
 .ret):=bj Tryz.func126
def Pn: Of aD 127 16 [.tmp 4] (r [X 0 2,X 1 3,V z0 4]<|
 q (r [A 2 2 6,K 6 7,L 3 3 8,C 156 [t 7,t 8] 9,M 9 5]<|
 r [M 5 10,D .geq 10 0 11]<|
 c 11 (r [M 5 12,M 12 4]<|
 .ret) k)<|
 r [A 2 2 13,K 13 14,N 14 15,M 15 4]<|
 .ret):=bj Tryz.func127
def uz: Of aD 128 9 [.tmp 4] (r [gF 4]<|
 r [M 0 5,M 1 6,C 186 [t 5,t 6] 7,D .geq 7 0 8,M 8 4]<|
 .ret):=bj Tryz.func128
def Hl: Of aD 129 6 [.tmp 2] (r [X 0 1,gF 2]<|
 r [L 3 1 3,C 115 [t 3] 4,D .neq 4 0 5,M 5 2]<|
 .ret):=bj Tryz.func129
def vK: Of aD 130 19 [.tmp 4] (r [V z0 4]<|
 q (r [M 0 6,N 6 7,V z0 8]<|
 .block 0 (.loop (r [B .lss 8 7 9]<|
 q (c 9 k (.exit 0))<|
 q (.block 1 (r [M 8 10,M 10 5]<|
 r [M 1 11,M 0 12,M 5 13,I false 1 12 13 14,K 14 15,bq (.call false (t 11) [t 15]) 16]<|
 c 16 (r [M 5 17,M 17 4]<|
 .ret) k))<|
 R [D .add 8 1 18,M 18 8])))<|
 r [V (i6 (-1)) 4]<|
 .ret):=bj Tryz.func130
def NB: Of aD 131 27 [.tmp 2] (r [V z0 2]<|
 r [V z0 3]<|
 q (gL 0 [M 3 4,M 0 5,S 5 6,B .lss 4 6 7,M 7 8,MT 0 9 8,MT 3 10 8,⟨.jh (t 9) (t 10),(some 11),some (8,true)⟩,CT 187 [t 11] 12 8,MT 12 13 8,MF 3 14 13,DF .gtr 14 0 15 13,MF 15 16 13,MT 0 17 16,MT 3 18 16,⟨.jh (t 17) (t 18),(some 19),some (16,true)⟩,CT 188 [t 19] 20 16,PF 16 20 21 13,OT 13 21 22 8,P 8 22 23] 23 ((
 .block 1 (R [M 3 24,D .add 24 1 25,M 25 3]))))<|
 r [M 3 26,M 26 2]<|
 .ret):=bj Tryz.func131
def FJ: Of aD 132 18 [.tmp 2] (r [gF 2]<|
 r [gB false 1 e0 9 [(0,gS [97,110,100]),(1,gS [111,114]),(2,gS [110,111,116]),(3,gS [105,102]),(4,gS [116,104,101,110]),(5,gS [101,108,115,101]),(6,gS [116,114,117,101]),(7,gS [102,97,108,115,101]),(8,gS [110,117,108,108])] 5,M 5 3]<|
 q (r [V z0 4]<|
 gL 0 [M 4 6,M 3 7,N 7 8,B .lss 6 8 9] 9 ((
 q (.block 1 (r [M 3 12,M 4 13,I false 1 12 13 14,K 14 15,M 0 16,B .eql 15 16 17]<|
 c 17 (r [gT 2]<|
 .ret) k))<|
 R [M 4 10,D .add 10 1 11,M 11 4])))<|
 r [gF 2]<|
 .ret):=bj Tryz.func132
def xq: Of aD 133 47 [.tmp 2] (r [V z0 2]<|
 gR [M 0 4,N 4 5,D .gtr 5 6 6] 6 [V (i6 24) 2]<|
 q (r [V z0 3]<|
 gL 0 [M 3 7,M 0 8,N 8 9,B .lss 7 9 10] 10 ((
 q (.block 1 (.block 2 (r [M 0 14,M 3 15,I true 3 14 15 16,A 0 16 17,K 17 18,C 81 [t 18] 19,U 19 20,M 20 21,MF 0 22 21,MF 0 23 21,MF 3 24 21,IF true 3 23 24 25 21,AF 0 25 26 21,KF 26 27 21,CF 189 [t 22,t 27] 28 21,MF 3 29 21,BF .lss 28 29 30 21,O 21 30 31,M 31 13]<|
 c 13 (r [V (i6 13) 2]<|
 .ret) (r [M 0 33,M 3 34,I true 3 33 34 35,A 1 35 36,K 36 37,D .lss 37 1 38,M 38 39,MF 0 40 39,MF 3 41 39,IF true 3 40 41 42 39,AF 1 42 43 39,KF 43 44 39,DF .gtr 44 3 45 39,O 39 45 46,M 46 32]<|
 c 32 (r [V (i6 14) 2]<|
 .ret) k))))<|
 R [M 3 11,D .add 11 1 12,M 12 3])))<|
 r [V z0 2]<|
 .ret):=bj Tryz.func133
def zZ: Of aD 134 64 [.tmp 4] (r [X 0 2,gF 4]<|
 gR [M 1 7,U 7 8] 8 [A 2 2 9,K 9 10,N 10 11,D .eql 11 0 12,M 12 4]<|
 q (r [V z0 5]<|
 gL 0 [M 5 13,A 2 2 14,K 14 15,N 15 16,B .lss 13 16 17] 17 ((
 q (.block 1 (q (q (.draw [A 2 2 20,K 20 21,M 5 22,I true 3 21 22 23,L 3 23 24,Q 145 [t 24] 25,U 25 26,M 26 27,AF 2 2 28 27,KF 28 29 27,MF 5 30 27,IF true 3 29 30 31 27,AF 0 31 32 27,KF 32 33 27,AF 1 2 34 27,KF 34 35 27,BF .neq 33 35 36 27,O 27 36 37] [])<|
 c 37 (r [gF 4]<|
 .ret) k)<|
 r [V z0 6]<|
 gL 2 [M 6 38,M 5 39,B .lss 38 39 40] 40 ((
 q (.block 3 (q (.draw [A 2 2 43,K 43 44,M 6 45,I true 3 44 45 46,L 3 46 47,A 2 2 48,K 48 49,M 5 50,I true 3 49 50 51,L 3 51 52,bq (.jD false true [.i,.i,.s] (t 47) (t 52)) 53] [])<|
 c 53 (r [gF 4]<|
 .ret) k))<|
 R [M 6 41,D .add 41 1 42,M 42 6]))))<|
 R [M 5 18,D .add 18 1 19,M 19 5])))<|
 r [A 2 2 54,K 54 55,N 55 56,D .geq 56 1 57,M 57 58,AT 2 2 59 58,KT 59 60 58,NT 60 61 58,DT .leq 61 8 62 58,P 58 62 63,M 63 4]<|
 .ret):=bj Tryz.func134
def DI: Of aD 135 45 [.tmp 2,.tmp 3,.tmp 4] (r [V .ai 2,V z0 3,V z0 4]<|
 gR [M 0 10,S 10 11,D .gtr 11 200 12] 12 [V .ai 2,V z0 3,V (i6 5) 4]<|
 r [bq (.ji ⟨true,4⟩) 5]<|
 q (r [V z0 6]<|
 gL 0 [M 6 13,M 0 14,S 14 15,B .lss 13 15 16] 16 ((
 .block 1 (q (r [M 0 17,M 6 18,bq (.jh (t 17) (t 18)) 19,bq (.bin .eql (t 19) (.c (.int .u8 32))) 20]<|
 c 20 (r [M 6 21,D .add 21 1 22,M 22 6]<|
 .exit 1) k)<|
 r [M 0 24,M 6 25,bq (.p8 (t 24) (some (t 25)) none) 26,C 190 [t 26] 27,M 27 23,E 23 0 28,E 23 1 29,E 23 2 30,J [z0,e0,z0,z0] 7,W 4 7 28,M 29 8,M 30 9]<|
 gR [M 9 31,D .neq 31 0 32] 32 [M 6 33,M 9 34,V .ai 2,M 33 3,M 34 4]<|
 r [M 6 35,A 3 7 36,W 1 36 35]<|
 r [M 5 37,L 4 7 38,gB true 4 (.agg [z0,e0,z0,z0]) 1 [(0,t 38)] 39,gA true 4 37 39 40,M 40 5]<|
 R [M 6 41,M 8 42,B .add 41 42 43,M 43 6]))))<|
 r [M 5 44,M 44 2,V z0 3,V z0 4]<|
 .ret):=pR ⟨[],[],[(5,⟨true,4⟩)],[],[],[]⟩ Tryz.func135
def DJ: Of aD 136 51 [.tmp 4] (r [gF 4]<|
 q (.draw [M 0 5,Z 5 6,A 2 6 7,K 7 8,U 8 9,M 9 10,MT 0 11 10,ZT 11 12 10,AT 1 12 13 10,KT 13 14 10,MT 0 15 10,ZT 15 16 10,AT 0 16 17 10,KT 17 18 10,NT 18 19 10,BT .lss 14 19 20 10,P 10 20 21,M 21 22,MT 0 23 22,ZT 23 24 22,AT 0 24 25 22,KT 25 26 22,MT 0 27 22,ZT 27 28 22,AT 1 28 29 22,KT 29 30 22,IT true 4 26 30 31 22,AT 0 31 32 22,KT 32 33 22,DT .eql 33 4 34 22,P 22 34 35,M 35 36,MT 0 37 36,ZT 37 38 36,AT 0 38 39 36,KT 39 40 36,MT 0 41 36,ZT 41 42 36,AT 1 42 43 36,KT 43 44 36,IT true 4 40 44 45 36,AT 1 45 46 36,KT 46 47 36,MT 1 48 36,BT .eql 47 48 49 36,P 36 49 50,M 50 4] [])<|
 .ret):=bj Tryz.func136
def Bj: Of aD 137 78 [.cell 2 true 15] (r [J [z0,z0,z0,z0,e0,e0,.ai,z0,z0,z0,e0,e0,.ai,.bool false,.bool false] 2]<|
 q (r [V (i6 2) 3]<|
 gL 0 [M 3 5,D .leq 5 5 6] 6 ((
 q (.block 1 (r [M 0 9,M 3 10,C 191 [t 10] 11,C 136 [t 9,t 11] 12]<|
 c 12 (r [M 0 13,Z 13 14,A 1 14 15,K 15 16,D .add 16 1 17,Z 13 18,A 1 18 19,W 1 19 17]<|
 r [M 3 20,M 0 21,C 192 [t 21] 22,gU [z0,z0,z0,z0,e0,e0,.ai,z0,z0,z0,e0,e0,.ai,.bool false,.bool false] [(0,1,t 20),(1,6,t 22)] 23,W 15 2 23]<|
 .ret) k))<|
 R [M 3 7,D .add 7 1 8,M 8 3])))<|
 gR [M 0 24,C 136 [t 24,gS [91]] 25,U 25 26,M 26 27,MT 0 28 27,CT 136 [t 28,gS [93]] 29 27,UT 29 30 27,P 27 30 31] 31 [M 0 32,C 192 [t 32] 33,gU [z0,z0,z0,z0,e0,e0,.ai,z0,z0,z0,e0,e0,.ai,.bool false,.bool false] [(0,1,gJ 1),(1,6,t 33)] 34,W 15 2 34]<|
 r [M 0 35,C 136 [t 35,gS [93]] 36,gU [z0,z0,z0,z0,e0,e0,.ai,z0,z0,z0,e0,e0,.ai,.bool false,.bool false] [(0,1,gJ 6),(13,1,t 36)] 37,J [z0,z0,z0,z0,e0,e0,.ai,z0,z0,z0,e0,e0,.ai,.bool false,.bool false] 4,W 15 4 37]<|
 r [M 0 38,Z 38 39,A 1 39 40,K 40 41,D .add 41 1 42,Z 38 43,A 1 43 44,W 1 44 42]<|
 r [M 0 45,C 192 [t 45] 46,A 1 4 47,W 6 47 46]<|
 q (r [M 0 48,Z 48 49,A 2 49 50,K 50 51,U 51 52]<|
 c 52 (R [M 0 53,C 138 [t 53,gS [46,46]] 54]) k)<|
 r [M 0 55,C 192 [t 55] 56,A 7 4 57,W 6 57 56]<|
 r [M 0 58,C 136 [t 58,gS [91]] 59,A 14 4 60,W 1 60 59]<|
 q (r [A 14 4 61,K 61 62]<|
 c 62 (R [M 0 63,Z 63 64,A 1 64 65,K 65 66,D .add 66 1 67,Z 63 68,A 1 68 69,W 1 69 67]) (r [M 0 70,Z 70 71,A 2 71 72,K 72 73,U 73 74]<|
 c 74 (R [M 0 75,C 138 [t 75,gS [93]] 76]) k))<|
 r [L 15 4 77,W 15 2 77]<|
 .ret):=bj Tryz.func137
def Bl: Of aD 138 17 [] (r [M 0 4,M 1 5,C 136 [t 4,t 5] 6]<|
 c 6 (R [M 0 7,Z 7 8,A 1 8 9,K 9 10,D .add 10 1 11,Z 7 12,A 1 12 13,W 1 13 11]) (R [M 0 14,Z 14 15,A 2 15 16,⟨.store 1 (t 16) (.c (.bool true)),none,none⟩])):=bj Tryz.func138
def KW: Of aD 139 39 [.tmp 2] (r [X 0 1,gF 2]<|
 gR [A 0 1 4,K 4 5] 5 [A 1 1 6,K 6 7,U 7 8,M 8 9,AT 2 1 10 9,KT 10 11 9,NT 11 12 9,DT .eql 12 0 13 9,P 9 13 14,M 14 2]<|
 q (r [V z0 3]<|
 gL 0 [M 3 15,A 2 1 16,K 16 17,N 17 18,B .lss 15 18 19] 19 ((
 q (.block 1 (r [A 2 1 22,K 22 23,M 3 24,I true 15 23 24 25,L 15 25 26,C 193 [t 26] 27,U 27 28]<|
 c 28 (r [gF 2]<|
 .ret) k))<|
 R [M 3 20,D .add 20 1 21,M 21 3])))<|
 r [A 2 1 29,K 29 30,N 30 31,D .geq 31 1 32,M 32 33,AT 2 1 34 33,KT 34 35 33,NT 35 36 33,DT .leq 36 12 37 33,P 33 37 38,M 38 2]<|
 .ret):=bj Tryz.func139
def NC: Of aD 140 23 [.tmp 6] (r [X 0 3,gF 6]<|
 r [M 1 7,M 2 8,C 88 [t 7,t 8] 9,M 9 10,AT 0 3 11 10,KT 11 12 10,DT .eql 12 1 13 10,MT 13 14 10,MF 1 15 14,DF .neq 15 3 16 14,MF 16 17 14,MT 2 18 17,DT .neq 18 3 19 17,PF 17 19 20 14,OT 14 20 21 10,P 10 21 22,M 22 6]<|
 .ret):=bj Tryz.func140
def vL: Of aD 141 49 [.cell 6 true 6,.tmp 7,.tmp 8] (r [J [z0,z0,z0,e0,e0,.ai] 6,V z0 7,V z0 8]<|
 gR [M 1 11,D .lss 11 0 12,M 12 13,MF 1 14 13,MF 0 15 13,NF 15 16 13,BF .gtr 14 16 17 13,O 13 17 18,M 18 19,MF 2 20 19,DF .lss 20 0 21 19,O 19 21 22,M 22 23,MF 2 24 23,DF .gtr 24 7 25 23,O 23 25 26] 26 [gU [z0,z0,z0,e0,e0,.ai] [] 27,W 6 6 27,V z0 7,V (i6 2) 8]<|
 r [M 0 28,M 1 29,gU [.ai,z0,.bool false] [(0,1,t 28),(1,1,t 29)] 30,X 30 31,M 31 9]<|
 r [M 9 32,M 2 33,C 194 [t 32,t 33] 34,J [z0,z0,z0,e0,e0,.ai] 10,W 6 10 34]<|
 q (r [M 9 35,Z 35 36,A 2 36 37,K 37 38]<|
 c 38 (q (.draw [gU [z0,z0,z0,e0,e0,.ai] [] 39,M 9 40,Z 40 41,A 1 41 42,K 42 43,W 6 6 39,M 43 7,V (i6 11) 8] [(t 42,t 6)])<|
 .ret) k)<|
 q (.draw [L 6 10 44,M 9 45,Z 45 46,A 1 46 47,K 47 48,W 6 6 44,M 48 7,V z0 8] [(t 47,t 6)])<|
 .ret):=bj Tryz.func141
def ND: Of aD 142 25 [.tmp 2] (r [X 0 1,V z0 2]<|
 r [V z0 3]<|
 q (r [V z0 4]<|
 gL 0 [M 4 6,A 5 1 7,K 7 8,N 8 9,B .lss 6 9 10] 10 ((
 q (.block 1 (r [A 5 1 13,K 13 14,M 4 15,I true 6 14 15 16,L 6 16 17,C 142 [t 17] 18,M 18 5]<|
 r [M 5 19,M 3 20,B .gtr 19 20 21]<|
 c 21 (R [M 5 22,M 22 3]) k))<|
 R [M 4 11,D .add 11 1 12,M 12 4])))<|
 r [M 3 23,D .add 23 1 24,M 24 2]<|
 .ret):=bj Tryz.func142
def KX: Of aD 143 69 [.tmp 2] (r [X 0 1,gF 2]<|
 q (q (.draw [A 5 1 4,K 4 5,N 5 6,A 0 1 7,K 7 8,Q 195 [t 8] 9,B .neq 6 9 10] [])<|
 c 10 (r [gF 2]<|
 .ret) k)<|
 q (r [A 0 1 11,K 11 12]<|
 .block 0 (r [D .eql 12 1 14,M 14 13]<|
 c 13 (r [A 4 1 15,K 15 16,bq (.bin .eql (t 16) (.c e0)) 17,M 17 18,AT 1 1 19 18,LT 3 19 20 18,CT 145 [t 20] 21 18,P 18 21 22,M 22 23,AT 1 1 24 23,AT 0 24 25 23,KT 25 26 23,DT .neq 26 1 27 23,MT 27 28 23,AF 1 1 29 28,AF 1 29 30 28,KF 30 31 28,DF .geq 31 0 32 28,OT 28 32 33 23,P 23 33 34,M 34 2]<|
 .ret) (r [D .eql 12 2 36,M 36 35]<|
 c 35 (r [A 1 1 37,L 3 37 38,gU [z0,z0,e0] [] 39,bq (.jD false true [.i,.i,.s] (t 38) (t 39)) 40,M 40 41,AT 4 1 42 41,KT 42 43 41,CT 81 [t 43] 44 41,P 41 44 45,M 45 2]<|
 .ret) k)))<|
 q (r [V z0 3]<|
 gL 1 [M 3 46,A 5 1 47,K 47 48,N 48 49,B .lss 46 49 50] 50 ((
 q (.block 2 (r [A 5 1 53,K 53 54,M 3 55,I true 6 54 55 56,L 6 56 57,C 143 [t 57] 58,U 58 59]<|
 c 59 (r [gF 2]<|
 .ret) k))<|
 R [M 3 51,D .add 51 1 52,M 52 3])))<|
 r [A 1 1 60,L 3 60 61,gU [z0,z0,e0] [] 62,bq (.jD false true [.i,.i,.s] (t 61) (t 62)) 63,M 63 64,AT 4 1 65 64,KT 65 66 64,⟨.bin .eql (t 66) (.c e0),(some 67),some (64,true)⟩,P 64 67 68,M 68 2]<|
 .ret):=bj Tryz.func143
def rY: Of aD 144 61 [.tmp 4,.tmp 5] (r [X 0 2,V z0 4,V z0 5]<|
 q (r [A 0 2 11,K 11 12]<|
 .block 0 (r [D .eql 12 1 14,M 14 13]<|
 c 13 (r [A 1 2 15,A 0 15 16,K 16 17,M 17 4,V z0 5]<|
 .ret) (r [D .eql 12 2 19,M 19 18]<|
 c 18 (r [M 1 20,A 4 2 21,K 21 22,C 189 [t 20,t 22] 23,M 23 6]<|
 gR [M 6 24,D .lss 24 0 25] 25 [V z0 4,V (i6 13) 5]<|
 r [M 1 26,M 6 27,I true 3 26 27 28,A 1 28 29,K 29 30,M 30 4,V z0 5]<|
 .ret) k)))<|
 r [bq (.ji ⟨false,1⟩) 7]<|
 q (r [V z0 8]<|
 gL 1 [M 8 31,A 5 2 32,K 32 33,N 33 34,B .lss 31 34 35] 35 ((
 q (.block 2 (r [A 5 2 39,K 39 40,M 8 41,I true 6 40 41 42,L 6 42 43,M 1 44,C 144 [t 43,t 44] 45,M 45 38,E 38 0 46,E 38 1 47,M 46 9,M 47 10]<|
 gR [M 10 48,D .neq 48 0 49] 49 [M 10 50,V z0 4,M 50 5]<|
 R [M 7 51,M 9 52,gB false 1 z0 1 [(0,t 52)] 53,gA false 1 51 53 54,M 54 7]))<|
 R [M 8 36,D .add 36 1 37,M 37 8])))<|
 r [A 0 2 55,K 55 56,M 7 57,C 196 [t 56,t 57] 58,E 58 0 59,E 58 1 60,M 59 4,M 60 5]<|
 .ret):=pR ⟨[],[],[(7,⟨false,1⟩)],[],[],[]⟩ Tryz.func144
def KY: Of aD 145 45 [.tmp 2] (r [X 0 1,gF 2]<|
 q (r [A 0 1 3,K 3 4]<|
 .block 0 (r [D .eql 4 0 6,M 6 5]<|
 c 5 (r [A 1 1 7,K 7 8,D .eql 8 0 9,M 9 10,AT 2 1 11 10,KT 11 12 10,⟨.bin .eql (t 12) (.c e0),(some 13),some (10,true)⟩,P 10 13 14,M 14 2]<|
 .ret) (r [D .eql 4 1 16,M 16 15]<|
 c 15 (r [A 2 1 17,K 17 18,bq (.bin .eql (t 18) (.c e0)) 19,M 19 2]<|
 .ret) (r [D .eql 4 2 21,M 21 20]<|
 c 20 (r [A 1 1 22,K 22 23,D .eql 23 0 24,M 24 25,AT 2 1 26 25,KT 26 27 25,CT 197 [t 27] 28 25,P 25 28 29,M 29 2]<|
 .ret) (r [D .eql 4 3 31,M 31 30]<|
 c 30 (r [A 2 1 32,K 32 33,bq (.bin .eql (t 33) (.c e0)) 34,M 34 35,AT 1 1 36 35,KT 36 37 35,DT .eql 37 0 38 35,MT 38 39 35,AF 1 1 40 39,KF 40 41 39,DF .eql 41 1 42 39,OT 39 42 43 35,P 35 43 44,M 44 2]<|
 .ret) k)))))<|
 r [gF 2]<|
 .ret):=bj Tryz.func145
def z8: Of aD 146 107 [.tmp 8,.tmp 9] (r [X 0 4,X 1 5,gF 8,V z0 9]<|
 gR [L 3 4 15,C 139 [t 15] 16,U 16 17,M 17 18,LF 3 5 19 18,CF 145 [t 19] 20 18,UF 20 21 18,O 18 21 22,M 22 23,MF 2 24 23,NF 24 25 23,MF 3 26 23,NF 26 27 23,BF .neq 25 27 28 23,O 23 28 29,M 29 30,MF 3 31 30,CF 147 [t 31] 32 30,UF 32 33 30,O 30 33 34] 34 [gF 8,V (i6 2) 9]<|
 q (r [V z0 10]<|
 gL 0 [M 10 35,A 2 4 36,K 36 37,N 37 38,B .lss 35 38 39] 39 ((
 q (.block 1 (r [A 2 4 42,K 42 43,M 10 44,I true 15 43 44 45,L 15 45 46,J [z0,z0,z0,z0,e0,e0,.ai,z0,z0,z0,e0,e0,.ai,.bool false,.bool false] 11,W 15 11 46]<|
 r [A 1 11 48,L 6 48 49,M 2 50,M 3 51,C 91 [t 49,t 50,t 51] 52,M 52 47,E 47 0 53,E 47 1 54,J [z0,z0,e0] 12,W 3 12 53,M 54 13]<|
 r [L 3 12 55,J [z0,z0,e0] 14,W 3 14 55]<|
 q (r [M 13 56,D .eql 56 0 57,M 57 58,AT 0 11 59 58,KT 59 60 58,DT .eql 60 6 61 58,P 58 61 62]<|
 c 62 (R [A 7 11 64,L 6 64 65,M 2 66,M 3 67,C 91 [t 65,t 66,t 67] 68,M 68 63,E 63 0 69,E 63 1 70,W 3 14 69,M 70 13]) k)<|
 .block 2 (r [M 13 72,D .neq 72 0 73,M 73 71]<|
 c 71 (r [M 13 74,gF 8,M 74 9]<|
 .ret) (r [L 15 11 76,A 0 5 77,K 77 78,A 0 12 79,K 79 80,C 140 [t 76,t 78,t 80] 81,U 81 82,M 82 83,LF 15 11 84 83,AF 0 5 85 83,KF 85 86 83,AF 0 14 87 83,KF 87 88 83,CF 140 [t 84,t 86,t 88] 89 83,UF 89 90 83,O 83 90 91,M 91 75]<|
 c 75 (r [gF 8,V (i6 14) 9]<|
 .ret) (r [L 15 11 93,L 3 5 94,L 3 12 95,L 3 14 96,C 198 [t 93,t 94,t 95,t 96] 97,M 97 92]<|
 c 92 (r [A 1 4 98,K 98 99,U 99 100,M 100 8,V z0 9]<|
 .ret) k)))))<|
 R [M 10 40,D .add 40 1 41,M 41 10])))<|
 r [A 0 4 101,K 101 102,M 102 103,AF 1 4 104 103,KF 104 105 103,O 103 105 106,M 106 8,V z0 9]<|
 .ret):=bj Tryz.func146
def wg: Of aD 147 16 [.tmp 2] (r [gF 2]<|
 q (r [V z0 3]<|
 gL 0 [M 3 4,M 0 5,N 5 6,B .lss 4 6 7] 7 ((
 q (.block 1 (r [M 0 10,M 3 11,I true 3 10 11 12,L 3 12 13,C 145 [t 13] 14,U 14 15]<|
 c 15 (r [gF 2]<|
 .ret) k))<|
 R [M 3 8,D .add 8 1 9,M 9 3])))<|
 r [gT 2]<|
 .ret):=bj Tryz.func147
def dU: Of aD 148 125 [.cell 4 true 3] (r [X 1 3,J [z0,z0,e0] 4]<|
 q (r [A 0 3 8,K 8 9]<|
 .block 0 (r [D .eql 9 1 11,M 11 10]<|
 c 10 (r [A 1 3 12,L 3 12 13,W 3 4 13]<|
 .ret) (r [D .eql 9 2 15,M 15 14]<|
 c 14 (q (.draw [M 0 16,Z 16 17,A 0 17 18,K 18 19,A 4 3 20,K 20 21,Q 189 [t 19,t 21] 22,M 22 5] [])<|
 gR [M 5 23,D .lss 23 0 24] 24 [M 0 25,C 199 [t 25,gJ 13] 26,W 3 4 26]<|
 r [M 0 27,Z 27 28,A 1 28 29,K 29 30,M 5 31,I true 3 30 31 32,L 3 32 33,W 3 4 33]<|
 .ret) k)))<|
 r [M 0 34,A 5 3 35,K 35 36,gI true 6 36 0 37,L 6 37 38,C 148 [t 34,t 38] 39,J [z0,z0,e0] 6,W 3 6 39]<|
 gR [M 0 40,Z 40 41,A 2 41 42,K 42 43,D .neq 43 0 44] 44 [gU [z0,z0,e0] [] 45,W 3 4 45]<|
 q (r [A 0 3 46,K 46 47]<|
 .block 1 (r [D .eql 47 3 49,M 49 48]<|
 c 48 (gR [A 0 6 50,K 50 51,D .eql 51 0 52] 52 [L 3 6 53,W 3 4 53]<|
 gR [A 0 6 54,K 54 55,D .neq 55 1 56] 56 [M 0 57,C 199 [t 57,gJ 14] 58,W 3 4 58]<|
 r [M 0 59,A 1 6 60,K 60 61,C 200 [t 59,gJ 5,.c z0,t 61] 62,W 3 4 62]<|
 .ret) (r [D .eql 47 16 64,M 64 63]<|
 c 63 (gR [A 0 6 65,K 65 66,C 88 [t 66,gJ 3] 67,U 67 68] 68 [M 0 69,C 199 [t 69,gJ 14] 70,W 3 4 70]<|
 q (q (.draw [L 3 6 71,Q 201 [(.c (.bool true))] 72,bq (.jD false true [.i,.i,.s] (t 71) (t 72)) 73] [])<|
 c 73 (r [M 0 74,A 5 3 75,K 75 76,gI true 6 76 1 77,L 6 77 78,C 148 [t 74,t 78] 79,W 3 4 79]<|
 .ret) k)<|
 r [M 0 80,A 5 3 81,K 81 82,gI true 6 82 2 83,L 6 83 84,C 148 [t 80,t 84] 85,W 3 4 85]<|
 .ret) k)))<|
 r [M 0 86,A 5 3 87,K 87 88,gI true 6 88 1 89,L 6 89 90,C 148 [t 86,t 90] 91,J [z0,z0,e0] 7,W 3 7 91]<|
 q (.block 2 (r [M 0 93,Z 93 94,A 2 94 95,K 95 96,D .neq 96 0 97,M 97 92]<|
 c 92 (r [gU [z0,z0,e0] [] 98,W 3 4 98]<|
 .ret) (r [A 0 3 100,K 100 101,D .leq 101 7 102,M 102 99]<|
 c 99 (r [M 0 103,A 0 3 104,K 104 105,L 3 6 106,L 3 7 107,C 202 [t 103,t 105,t 106,t 107] 108,W 3 4 108]<|
 .ret) (r [A 0 3 110,K 110 111,D .leq 111 13 112,M 112 109]<|
 c 109 (r [M 0 113,A 0 3 114,K 114 115,L 3 6 116,L 3 7 117,C 203 [t 113,t 115,t 116,t 117] 118,W 3 4 118]<|
 .ret) k))))<|
 r [M 0 119,A 0 3 120,K 120 121,L 3 6 122,L 3 7 123,C 204 [t 119,t 121,t 122,t 123] 124,W 3 4 124]<|
 .ret):=bj Tryz.func148
def KZ: Of aD 149 24 [.tmp 4] (r [X 0 2,X 1 3,V z0 4]<|
 q (r [V z0 5]<|
 gL 0 [M 5 6,A 2 2 7,K 7 8,N 8 9,B .lss 6 9 10] 10 ((
 q (.block 1 (q (.draw [A 2 2 13,K 13 14,M 5 15,I true 3 14 15 16,L 3 16 17,L 3 3 18,bq (.jD false true [.i,.i,.s] (t 17) (t 18)) 19] [])<|
 c 19 (r [M 5 20,M 20 4]<|
 .ret) k))<|
 R [M 5 11,D .add 11 1 12,M 12 5])))<|
 r [A 2 2 21,K 21 22,N 22 23,M 23 4]<|
 .ret):=bj Tryz.func149
def NG: Of aD 150 15 [.tmp 2] (r [gF 2]<|
 r [M 0 3,bq (.bin .or (t 3) (.c (.int .u8 32))) 4,bq (.bin .geq (t 4) (.c (.int .u8 97))) 5,M 5 6,MT 0 7 6,⟨.bin .or (t 7) (.c (.int .u8 32)),(some 8),some (6,true)⟩,⟨.bin .leq (t 8) (.c (.int .u8 122)),(some 9),some (6,true)⟩,P 6 9 10,M 10 11,MF 0 12 11,⟨.bin .eql (t 12) (.c (.int .u8 95)),(some 13),some (11,false)⟩,O 11 13 14,M 14 2]<|
 .ret):=bj Tryz.func150
def UC: Of aD 151 21 [.tmp 4] (r [V z0 4]<|
 q (r [M 0 6,S 6 7,V z0 8]<|
 .block 0 (.loop (r [B .lss 8 7 9]<|
 q (c 9 k (.exit 0))<|
 q (.block 1 (r [M 8 10,M 10 5]<|
 r [M 1 11,M 0 12,M 5 13,bq (.jh (t 12) (t 13)) 14,bq (.call false (t 11) [t 14]) 15,U 15 16]<|
 c 16 (r [M 5 17,M 17 4]<|
 .ret) k))<|
 R [D .add 8 1 18,M 18 8])))<|
 r [M 0 19,S 19 20,M 20 4]<|
 .ret):=bj Tryz.func151
def NH: Of aD 152 9 [.tmp 2] (r [gF 2]<|
 r [M 0 3,C 150 [t 3] 4,M 4 5,MF 0 6 5,CF 153 [t 6] 7 5,O 5 7 8,M 8 2]<|
 .ret):=bj Tryz.func152
def Po: Of aD 153 9 [.tmp 2] (r [gF 2]<|
 r [M 0 3,bq (.bin .geq (t 3) (.c (.int .u8 48))) 4,M 4 5,MT 0 6 5,⟨.bin .leq (t 6) (.c (.int .u8 57)),(some 7),some (5,true)⟩,P 5 7 8,M 8 2]<|
 .ret):=bj Tryz.func153
def Pp: Of aD 154 8 [.tmp 4] (r [X 1 3,V z0 4]<|
 r [M 0 5,bq (.q_ (.func 205) [] [t 3]) 6,C 155 [t 5,t 6] 7,M 7 4]<|
 .ret):=bj Tryz.func154
def vM: Of aD 155 19 [.tmp 4] (r [V z0 4]<|
 q (r [M 0 6,N 6 7,V z0 8]<|
 .block 0 (.loop (r [B .lss 8 7 9]<|
 q (c 9 k (.exit 0))<|
 q (.block 1 (r [M 8 10,M 10 5]<|
 r [M 1 11,M 0 12,M 5 13,I true 3 12 13 14,L 3 14 15,bq (.call false (t 11) [t 15]) 16]<|
 c 16 (r [M 5 17,M 17 4]<|
 .ret) k))<|
 R [D .add 8 1 18,M 18 8])))<|
 r [V (i6 (-1)) 4]<|
 .ret):=bj Tryz.func155
def z_: Of aD 156 19 [.tmp 4] (r [X 1 3,V z0 4]<|
 q (r [M 0 6,N 6 7,V z0 8]<|
 .block 0 (.loop (r [B .lss 8 7 9]<|
 q (c 9 k (.exit 0))<|
 q (.block 1 (r [M 8 10,M 10 5]<|
 q (.draw [L 3 3 11,M 0 12,M 5 13,I true 3 12 13 14,L 3 14 15,bq (.jD false true [.i,.i,.s] (t 11) (t 15)) 16] [])<|
 c 16 (r [M 5 17,M 17 4]<|
 .ret) k))<|
 R [D .add 8 1 18,M 18 8])))<|
 r [V (i6 (-1)) 4]<|
 .ret):=bj Tryz.func156
def I1: Of aD 157 52 [.tmp 2,.tmp 3,.tmp 4] (r [V .ai 2,V z0 3,V z0 4]<|
 .scope 0 (gR [M 0 9,S 9 10,D .gtr 10 200 11] 11 [V .ai 2,V z0 3,V (i6 5) 4]<|
 r [bq (.ji ⟨true,4⟩) 5]<|
 r [V z0 6]<|
 q (.label 0)<|
 q (.block 0 (.loop (.block 1 (q (gL 2 [M 6 12,M 0 13,S 13 14,B .lss 12 14 15,M 15 16,MT 0 17 16,MT 6 18 16,⟨.jh (t 17) (t 18),(some 19),some (16,true)⟩,⟨.bin .eql (t 19) (.c (.int .u8 32)),(some 20),some (16,true)⟩,P 16 20 21] 21 ((
 .block 3 (R [M 6 22,D .add 22 1 23,M 23 6]))))<|
 q (r [M 6 24,M 0 25,S 25 26,B .eql 24 26 27]<|
 c 27 (.exit 0) k)<|
 r [M 0 29,M 6 30,bq (.p8 (t 29) (some (t 30)) none) 31,C 206 [t 31] 32,M 32 28,E 28 0 33,E 28 1 34,J [z0,e0,z0,z0,z0] 7,W 5 7 33,M 34 8]<|
 gR [M 8 35,D .neq 35 0 36] 36 [M 6 37,M 8 38,V .ai 2,M 37 3,M 38 4]<|
 r [M 6 39,A 0 7 40,A 3 40 41,W 1 41 39]<|
 r [M 5 42,A 0 7 43,L 4 43 44,gB true 4 (.agg [z0,e0,z0,z0]) 1 [(0,t 44)] 45,gA true 4 42 45 46,M 46 5]<|
 R [M 6 47,A 4 7 48,K 48 49,B .add 47 49 50,M 50 6]))))<|
 r [M 5 51,M 51 2,V z0 3,V z0 4]<|
 .ret) (.seq k <|
 q (.block 0 (.loop (.block 1 (q (gL 2 [M 6 12,M 0 13,S 13 14,B .lss 12 14 15,M 15 16,MT 0 17 16,MT 6 18 16,⟨.jh (t 17) (t 18),(some 19),some (16,true)⟩,⟨.bin .eql (t 19) (.c (.int .u8 32)),(some 20),some (16,true)⟩,P 16 20 21] 21 ((
 .block 3 (R [M 6 22,D .add 22 1 23,M 23 6]))))<|
 q (r [M 6 24,M 0 25,S 25 26,B .eql 24 26 27]<|
 c 27 (.exit 0) k)<|
 r [M 0 29,M 6 30,bq (.p8 (t 29) (some (t 30)) none) 31,C 206 [t 31] 32,M 32 28,E 28 0 33,E 28 1 34,J [z0,e0,z0,z0,z0] 7,W 5 7 33,M 34 8]<|
 gR [M 8 35,D .neq 35 0 36] 36 [M 6 37,M 8 38,V .ai 2,M 37 3,M 38 4]<|
 r [M 6 39,A 0 7 40,A 3 40 41,W 1 41 39]<|
 r [M 5 42,A 0 7 43,L 4 43 44,gB true 4 (.agg [z0,e0,z0,z0]) 1 [(0,t 44)] 45,gA true 4 42 45 46,M 46 5]<|
 R [M 6 47,A 4 7 48,K 48 49,B .add 47 49 50,M 50 6]))))<|
 r [M 5 51,M 51 2,V z0 3,V z0 4]<|
 .ret)):=pR ⟨[],[],[(5,⟨true,4⟩)],[],[],[]⟩ Tryz.func157
def uc: Of aD 158 38 [.tmp 2] (r [V e0 2]<|
 q (q (.draw [M 0 3,Z 3 4,A 1 4 5,K 5 6,M 0 7,Z 7 8,A 0 8 9,K 9 10,N 10 11,B .lss 6 11 12,M 12 13,MT 0 14 13,ZT 14 15 13,AT 0 15 16 13,KT 16 17 13,MT 0 18 13,ZT 18 19 13,AT 1 19 20 13,KT 20 21 13,IT true 4 17 21 22 13,AT 0 22 23 13,KT 23 24 13,DT .eql 24 4 25 13,P 13 25 26] [])<|
 c 26 (q (.draw [M 0 27,Z 27 28,A 0 28 29,K 29 30,M 0 31,Z 31 32,A 1 32 33,K 33 34,I true 4 30 34 35,A 1 35 36,K 36 37,M 37 2] [])<|
 .ret) k)<|
 r [V e0 2]<|
 .ret):=bj Tryz.func158
def CW: Of aD 159 32 [.cell 2 true 3] (r [J [.bool false,.bool false,.ai] 2]<|
 r [J [.bool false,.bool false,.ai] 3]<|
 q (r [M 0 4,Z 4 5,A 0 5 6,A 0 6 7,K 7 8,C 207 [t 8] 9,A 1 3 10,W 1 10 9]<|
 r [A 1 3 11,K 11 12]<|
 c 12 (R [M 0 13,Z 13 14,A 0 14 15,A 1 15 16,⟨.store 1 (t 16) (gJ 2),none,none⟩]) k)<|
 q (.block 0 (.loop (.block 1 (q (.draw [A 2 3 17,K 17 18,M 0 19,bq (.n7 (.c (.fn (.func 208) [] [])) [t 19]) 20,gB true 15 (.agg [z0,z0,z0,z0,e0,e0,.ai,z0,z0,z0,e0,e0,.ai,.bool false,.bool false]) 1 [(0,t 20)] 21,gA true 15 18 21 22,A 2 3 23,W 1 23 22] [(t 17,t 19)])<|
 r [M 0 24,C 209 [t 24,gS [44]] 25,U 25 26]<|
 c 26 (.exit 0) k))))<|
 q (r [A 1 3 27,K 27 28]<|
 c 28 (R [M 0 29,C 210 [t 29,gS [41]] 30]) k)<|
 r [L 3 3 31,W 3 2 31]<|
 .ret):=pR ⟨[],[],[],[],[20],[]⟩ Tryz.func159
def NI: Of aD 160 36 [.tmp 2] (r [X 0 1,V z0 2]<|
 q (.block 0 (r [A 0 1 4,K 4 5,M 5 6,AT 1 1 7 6,KT 7 8 6,UT 8 9 6,P 6 9 10,M 10 11,AT 2 1 12 11,KT 12 13 11,NT 13 14 11,DT .eql 14 0 15 11,P 11 15 16,M 16 3]<|
 c 3 (r [V z0 2]<|
 .ret) (r [A 0 1 18,K 18 19,M 19 20,AF 2 1 21 20,KF 21 22 20,NF 22 23 20,DF .eql 23 0 24 20,O 20 24 25,M 25 26,AF 2 1 27 26,KF 27 28 26,NF 28 29 26,DF .gtr 29 12 30 26,O 26 30 31,M 31 17]<|
 c 17 (r [V (i6 2) 2]<|
 .ret) (r [A 2 1 33,K 33 34,C 211 [t 34,(.c (.fn (.func 212) [] []))] 35,M 35 32]<|
 c 32 (r [V (i6 2) 2]<|
 .ret) k))))<|
 r [V z0 2]<|
 .ret):=bj Tryz.func160
def Cv: Of aD 161 14 [.tmp 2] (r [X 0 1,V .ai 2]<|
 gR [A 0 1 3,K 3 4,D .eql 4 6 5] 5 [A 1 1 6,L 6 6 7,A 7 1 8,L 6 8 9,gB true 6 (.agg [z0,z0,z0,e0,e0,.ai]) 2 [(0,t 7),(1,t 9)] 10,M 10 2]<|
 r [A 1 1 11,L 6 11 12,gB true 6 (.agg [z0,z0,z0,e0,e0,.ai]) 1 [(0,t 12)] 13,M 13 2]<|
 .ret):=bj Tryz.func161
def Pq: Of aD 162 23 [.tmp 6] (r [X 0 3,gF 6]<|
 r [M 1 7,M 2 8,C 114 [t 7,t 8] 9,M 9 10,AT 0 3 11 10,KT 11 12 10,DT .eql 12 1 13 10,MT 13 14 10,MF 1 15 14,DF .neq 15 3 16 14,MF 16 17 14,MT 2 18 17,DT .neq 18 3 19 17,PF 17 19 20 14,OT 14 20 21 10,P 10 21 22,M 22 6]<|
 .ret):=bj Tryz.func162
def uA: Of aD 163 49 [.cell 6 true 6,.tmp 7,.tmp 8] (r [J [z0,z0,z0,e0,e0,.ai] 6,V z0 7,V z0 8]<|
 gR [M 1 11,D .lss 11 0 12,M 12 13,MF 1 14 13,MF 0 15 13,NF 15 16 13,BF .gtr 14 16 17 13,O 13 17 18,M 18 19,MF 2 20 19,DF .lss 20 0 21 19,O 19 21 22,M 22 23,MF 2 24 23,DF .gtr 24 7 25 23,O 23 25 26] 26 [gU [z0,z0,z0,e0,e0,.ai] [] 27,W 6 6 27,V z0 7,V (i6 2) 8]<|
 r [M 0 28,M 1 29,gU [.ai,z0,.bool false] [(0,1,t 28),(1,1,t 29)] 30,X 30 31,M 31 9]<|
 r [M 9 32,M 2 33,C 214 [t 32,t 33] 34,J [z0,z0,z0,e0,e0,.ai] 10,W 6 10 34]<|
 q (r [M 9 35,Z 35 36,A 2 36 37,K 37 38]<|
 c 38 (q (.draw [gU [z0,z0,z0,e0,e0,.ai] [] 39,M 9 40,Z 40 41,A 1 41 42,K 42 43,W 6 6 39,M 43 7,V (i6 11) 8] [(t 42,t 6)])<|
 .ret) k)<|
 q (.draw [L 6 10 44,M 9 45,Z 45 46,A 1 46 47,K 47 48,W 6 6 44,M 48 7,V z0 8] [(t 47,t 6)])<|
 .ret):=bj Tryz.func163
def K0: Of aD 164 20 [.tmp 2] (r [X 0 1,V z0 2]<|
 r [V z0 3]<|
 q (r [A 5 1 6,K 6 7,N 7 8,V z0 9]<|
 .block 0 (.loop (r [B .lss 9 8 10]<|
 q (c 10 k (.exit 0))<|
 q (.block 1 (r [I true 6 7 9 11,L 6 11 12,J [z0,z0,z0,e0,e0,.ai] 5,W 6 5 12]<|
 R [M 3 13,L 6 5 14,C 164 [t 14] 15,bq (.max (t 13) [t 15]) 16,M 16 3]))<|
 R [D .add 9 1 17,M 17 9])))<|
 r [M 3 18,D .add 18 1 19,M 19 2]<|
 .ret):=bj Tryz.func164
def qK: Of aD 165 65 [.tmp 4,.tmp 5] (r [X 0 2,V z0 4,V z0 5]<|
 q (r [A 0 2 14,K 14 15]<|
 .block 0 (r [D .eql 15 1 17,M 17 16]<|
 c 16 (r [A 1 2 18,A 0 18 19,K 19 20,M 20 4,V z0 5]<|
 .ret) (r [D .eql 15 2 22,M 22 21]<|
 c 21 (r [M 1 23,A 4 2 24,K 24 25,C 154 [t 23,t 25] 26,M 26 6]<|
 gR [M 6 27,D .lss 27 0 28] 28 [V z0 4,V (i6 13) 5]<|
 r [M 1 29,M 6 30,I true 3 29 30 31,A 1 31 32,K 32 33,M 33 4,V z0 5]<|
 .ret) k)))<|
 r [bq (.ji ⟨false,1⟩) 7]<|
 q (r [A 5 2 34,K 34 35,N 35 36,V z0 37]<|
 .block 1 (.loop (r [B .lss 37 36 38]<|
 q (c 38 k (.exit 1))<|
 q (.block 2 (r [I true 6 35 37 39,L 6 39 40,J [z0,z0,z0,e0,e0,.ai] 9,W 6 9 40]<|
 r [L 6 9 42,M 1 43,C 165 [t 42,t 43] 44,M 44 41,E 41 0 45,E 41 1 46,M 45 10,M 46 11]<|
 gR [M 11 47,D .neq 47 0 48] 48 [M 11 49,V z0 4,M 49 5]<|
 R [M 7 50,M 10 51,gB false 1 z0 1 [(0,t 51)] 52,gA false 1 50 52 53,M 53 7]))<|
 R [D .add 37 1 54,M 54 37])))<|
 r [A 0 2 56,K 56 57,M 7 58,C 215 [t 57,t 58] 59,M 59 55,E 55 0 60,E 55 1 61,M 60 12,M 61 13]<|
 gR [M 13 62,U 62 63] 63 [V z0 4,V (i6 14) 5]<|
 r [M 12 64,M 64 4,V z0 5]<|
 .ret):=pR ⟨[],[],[(7,⟨false,1⟩)],[],[],[]⟩ Tryz.func165
def K3: Of aD 166 19 [.tmp 2] (r [gF 2]<|
 gR [M 0 5,S 5 6,D .gtr 6 40 7] 7 [gF 2]<|
 q (r [M 0 8,bq (.Kl (t 8)) 9]<|
 .block 0 (.loop (r [bq (.Km (t 9)) 10,E 10 0 11]<|
 q (c 11 k (.exit 0))<|
 .block 1 (r [E 10 2 12,M 12 4]<|
 r [M 4 13,bq (.bin .lss (t 13) (.c (.int .i32 32))) 14,M 14 15,MF 4 16 15,⟨.bin .gtr (t 16) (.c (.int .i32 126)),(some 17),some (15,false)⟩,O 15 17 18]<|
 c 18 (r [gF 2]<|
 .ret) k))))<|
 r [gT 2]<|
 .ret):=bj Tryz.func166
def FX: Of aD 167 36 [.tmp 8] (r [X 0 4,X 1 5,V z0 8]<|
 gR [L 3 4 11,C 160 [t 11] 12,D .neq 12 0 13,M 13 14,LF 3 5 15 14,CF 115 [t 15] 16 14,DF .neq 16 0 17 14,O 14 17 18,M 18 19,MF 2 20 19,NF 20 21 19,MF 3 22 19,NF 22 23 19,BF .neq 21 23 24 19,O 19 24 25] 25 [V (i6 2) 8]<|
 q (r [M 3 26,N 26 27,V z0 28]<|
 .block 0 (.loop (r [B .lss 28 27 29]<|
 q (c 29 k (.exit 0))<|
 q (.block 1 (r [I true 3 26 28 30,L 3 30 31,J [z0,z0,e0] 10,W 3 10 31]<|
 r [L 3 10 32,C 115 [t 32] 33,D .neq 33 0 34]<|
 c 34 (r [V (i6 2) 8]<|
 .ret) k))<|
 R [D .add 28 1 35,M 35 28])))<|
 r [V z0 8]<|
 .ret):=bj Tryz.func167
def Rx: Of aD 168 57 [.tmp 8,.tmp 9] (r [X 0 4,X 1 5,gF 8,V z0 9]<|
 r [bq (.ji ⟨true,3⟩) 10]<|
 q (r [L 15 4 17,C 161 [t 17] 18,N 18 19,V z0 20]<|
 .block 0 (.loop (r [B .lss 20 19 21]<|
 q (c 21 k (.exit 0))<|
 q (.block 1 (r [I true 6 18 20 22,L 6 22 23,J [z0,z0,z0,e0,e0,.ai] 12,W 6 12 23]<|
 r [L 6 12 25,M 2 26,M 3 27,C 73 [t 25,t 26,t 27] 28,M 28 24,E 24 0 29,E 24 1 30,J [z0,z0,e0] 13,W 3 13 29,M 30 14]<|
 gR [M 14 31,D .neq 31 0 32] 32 [M 14 33,gF 8,M 33 9]<|
 R [M 10 34,L 3 13 35,gB true 3 (.agg [z0,z0,e0]) 1 [(0,t 35)] 36,gA true 3 34 36 37,M 37 10]))<|
 R [D .add 20 1 38,M 38 20])))<|
 q (r [M 10 39,N 39 40,V z0 41]<|
 .block 2 (.loop (r [B .lss 41 40 42]<|
 q (c 42 k (.exit 2))<|
 q (.block 3 (r [I true 3 39 41 43,L 3 43 44,J [z0,z0,e0] 16,W 3 16 44]<|
 r [L 15 4 45,A 0 5 46,K 46 47,A 0 16 48,K 48 49,C 162 [t 45,t 47,t 49] 50,U 50 51]<|
 c 51 (r [gF 8,V (i6 14) 9]<|
 .ret) k))<|
 R [D .add 41 1 52,M 52 41])))<|
 r [L 15 4 53,L 3 5 54,M 10 55,C 216 [t 53,t 54,t 55] 56,M 56 8,V z0 9]<|
 .ret):=pR ⟨[],[],[(10,⟨true,3⟩)],[],[],[]⟩ Tryz.func168
