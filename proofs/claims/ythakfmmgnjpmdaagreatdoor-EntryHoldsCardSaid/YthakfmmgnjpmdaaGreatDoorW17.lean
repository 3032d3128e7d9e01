/- Part. -/
import Derived.Test.YthakfmmgnjpmdaaGreatDoorW16
import Derived.KernelRfl
set_option linter.all false
namespace Go.Proofs.YthakfmmgnjpmdaaGreatDoor
open Go.AM Go.AM.W
set_option maxRecDepth 10000
def IQ: Of aH 95 16 [.tmp 2] (r [X 0 1,V z0 2]<|
 q (r [A 0 1 3,K 3 4]<|
 .block 0 (r [D .eql 4 16 6,M 6 5]<|
 c 5 (r [V z0 2]<|
 .ret) (r [D .eql 4 3 8,M 8 7]<|
 c 7 (r [V (i6 6) 2]<|
 .ret) (q (r [D .eql 4 1 10,M 10 9]<|
 c 9 k (R [D .eql 4 2 11,M 11 9]))<|
 c 9 (r [V (i6 7) 2]<|
 .ret) k))))<|
 r [A 0 1 12,K 12 13,C 98 [t 13] 14,bA (.field false 2 1 (t 14)) 15,M 15 2]<|
 .ret):=bG Tryz.func95
def u7: Of aH 96 17 [.tmp 4] (r [V .kj 4]<|
 r [M 0 5,C 133 [t 5] 6]<|
 r [M 0 7,M 0 8,Z 8 9,A 1 9 10,K 10 11,M 1 12,gB false 1 (.int .u8 0) 1 [(0,t 12)] 13,bA (.app (some 5) ⟨false,1⟩ (t 11) (t 13)) 14,Z 7 15,A 1 15 16,W 1 16 14]<|
 r [V .kj 4]<|
 .ret):=rE ⟨[],[],[],[14],[],[]⟩ Tryz.func96
def CH: Of aH 97 28 [.tmp 2,.tmp 3] (r [X 0 1,V e0 2,V z0 3]<|
 q (r [L 3 1 5,C 83 [t 5] 6,M 6 4]<|
 r [M 4 7,D .neq 7 0 8]<|
 c 8 (r [M 4 9,V e0 2,M 9 3]<|
 .ret) k)<|
 q (r [A 0 1 10,K 10 11]<|
 .block 0 (r [D .eql 11 1 13,M 13 12]<|
 c 12 (r [A 1 1 14,K 14 15,C 136 [t 15] 16,M 16 2,V z0 3]<|
 .ret) (r [D .eql 11 2 18,M 18 17]<|
 c 17 (r [A 2 1 19,K 19 20,C 137 [t 20] 21,M 21 2,V z0 3]<|
 .ret) (r [D .eql 11 3 23,M 23 22]<|
 c 22 (r [A 1 1 24,K 24 25,D .eql 25 1 26,C 138 [t 26] 27,M 27 2,V z0 3]<|
 .ret) k))))<|
 r [V (.str [110,117,108,108]) 2,V z0 3]<|
 .ret):=bG Tryz.func97
def Kt: Of aH 98 18 [.cell 2 true 3] (r [J [z0,e0,z0] 2]<|
 q (r [C 139 [] 5,N 5 6,V z0 7]<|
 .block 0 (.loop (r [B .lss 7 6 8]<|
 q (c 8 k (.exit 0))<|
 q (.block 1 (r [I true 3 5 7 9,L 3 9 10,J [z0,e0,z0] 4,W 3 4 10]<|
 r [A 0 4 11,K 11 12,M 0 13,B .eql 12 13 14]<|
 c 14 (r [L 3 4 15,W 3 2 15]<|
 .ret) k))<|
 R [D .add 7 1 16,M 16 7])))<|
 r [gU [z0,e0,z0] [] 17,W 3 2 17]<|
 .ret):=bG Tryz.func98
def Hg: Of aH 99 6 [.tmp 2] (r [V (.int .u8 0) 2]<|
 r [M 0 3,bA (.ko .u8 (t 3)) 4,bA (.bin .and (t 4) (.c (.int .u8 127))) 5,M 5 2]<|
 .ret):=bG Tryz.func99
def IU: Of aH 100 11 [.tmp 2] (r [V z0 2]<|
 r [M 0 3,bA (.bin .shr (t 3) (.c (.int .u64 1))) 4,bA (.ko .i64 (t 4)) 5,M 0 6,bA (.bin .and (t 6) (.c (.int .u64 1))) 7,bA (.ko .i64 (t 7)) 8,bA (.un .neg (t 8)) 9,B .xor 5 9 10,M 10 2]<|
 .ret):=bG Tryz.func100
def Nv: Of aH 101 64 [.cell 2 true 3,.tmp 3,.tmp 4] (r [J [z0,z0,e0] 2,V e0 3,V z0 4]<|
 r [M 0 10,C 64 [t 10] 11,M 11 9,E 9 0 12,E 9 1 13,E 9 2 14,M 12 5,M 13 6,M 14 7]<|
 r [M 5 15,gU [z0,z0,e0] [(0,1,t 15)] 16,J [z0,z0,e0] 8,W 3 8 16]<|
 q (.block 0 (r [M 7 18,D .neq 18 0 19,M 19 17]<|
 c 17 k (r [A 0 8 21,K 21 22,D .eql 22 0 23,M 23 20]<|
 c 20 k (r [A 0 8 25,K 25 26,D .eql 26 1 27,M 27 28,AF 0 8 29 28,KF 29 30 28,DF .eql 30 3 31 28,O 28 31 32,M 32 24]<|
 c 24 (R [M 6 34,C 64 [t 34] 35,M 35 33,E 33 0 36,E 33 1 37,E 33 2 38,A 1 8 39,W 1 39 36,M 37 6,M 38 7]) (r [A 0 8 41,K 41 42,D .eql 42 2 43,M 43 40]<|
 c 40 (R [M 6 45,C 31 [t 45,gJ 40] 46,M 46 44,E 44 0 47,E 44 1 48,E 44 2 49,A 2 8 50,W 1 50 47,M 48 6,M 49 7]) (R [V (i6 4) 7]))))))<|
 q (r [M 7 51,D .eql 51 0 52,M 52 53,LT 3 8 54 53,CT 83 [t 54] 55 53,DT .neq 55 0 56 53,P 53 56 57]<|
 c 57 (R [V (i6 4) 7]) k)<|
 gR [M 7 58,D .neq 58 0 59] 59 [gU [z0,z0,e0] [] 60,M 7 61,W 3 2 60,V e0 3,M 61 4]<|
 r [L 3 8 62,M 6 63,W 3 2 62,M 63 3,V z0 4]<|
 .ret):=bG Tryz.func101
def wR: Of aH 102 41 [.tmp 2] (r [V z0 2]<|
 gR [M 0 5,N 5 6,D .gtr 6 6 7] 7 [V (i6 24) 2]<|
 q (r [M 0 8,N 8 9,V z0 10]<|
 .block 0 (.loop (r [B .lss 10 9 11]<|
 q (c 11 k (.exit 0))<|
 q (.block 1 (r [M 10 12,I true 3 8 10 13,L 3 13 14,J [e0,z0,.aA] 4,M 12 3,W 3 4 14]<|
 gR [A 0 4 15,K 15 16,C 47 [t 16] 17,U 17 18,M 18 19,MF 0 20 19,AF 0 4 21 19,KF 21 22 19,CF 140 [t 20,t 22] 23 19,MF 3 24 19,BF .neq 23 24 25 19,O 19 25 26] 26 [V (i6 13) 2]<|
 r [A 1 4 27,K 27 28,D .neq 28 1 29,M 29 30,AT 1 4 31 30,KT 31 32 30,DT .neq 32 2 33 30,P 30 33 34,M 34 35,AT 1 4 36 35,KT 36 37 35,DT .neq 37 3 38 35,P 35 38 39]<|
 c 39 (r [V (i6 14) 2]<|
 .ret) k))<|
 R [D .add 10 1 40,M 40 10])))<|
 r [V z0 2]<|
 .ret):=bG Tryz.func102
def uI: Of aH 103 9 [.tmp 4] (r [gF 4]<|
 r [M 0 5,M 1 6,C 141 [t 5,t 6] 7,D .geq 7 0 8,M 8 4]<|
 .ret):=bG Tryz.func103
def C1: Of aH 104 8 [.tmp 3] (r [X 0 2,gF 3]<|
 r [L 3 2 4,K 1 5,C 105 [t 4,t 5] 6,U 6 7,M 7 3]<|
 .ret):=bG Tryz.func104
def zc: Of aH 105 50 [.tmp 4] (r [X 0 2,gF 4]<|
 gR [M 1 7,U 7 8] 8 [A 2 2 9,K 9 10,N 10 11,D .eql 11 0 12,M 12 4]<|
 q (r [A 2 2 13,K 13 14,N 14 15,V z0 16]<|
 .block 0 (.loop (r [B .lss 16 15 17]<|
 q (c 17 k (.exit 0))<|
 q (.block 1 (r [M 16 18,I true 3 14 16 19,L 3 19 20,J [z0,z0,e0] 6,M 18 5,W 3 6 20]<|
 r [L 3 6 21,C 83 [t 21] 22,D .neq 22 0 23,M 23 24,AF 0 6 25 24,KF 25 26 24,AF 1 2 27 24,KF 27 28 24,BF .neq 26 28 29 24,O 24 29 30,M 30 31,AF 2 2 32 31,KF 32 33 31,LF 3 6 34 31,CF 142 [t 33,t 34] 35 31,MF 5 36 31,BF .neq 35 36 37 31,O 31 37 38]<|
 c 38 (r [gF 4]<|
 .ret) k))<|
 R [D .add 16 1 39,M 39 16])))<|
 r [A 2 2 40,K 40 41,N 41 42,D .geq 42 1 43,M 43 44,AT 2 2 45 44,KT 45 46 44,NT 46 47 44,DT .leq 47 8 48 44,P 44 48 49,M 49 4]<|
 .ret):=bG Tryz.func105
def mb: Of aH 106 77 [.cell 2 true 3,.tmp 3,.tmp 4] (r [J [.bool false,.bool false,.aA] 2,V z0 3,V z0 4]<|
 r [M 0 11,C 143 [t 11] 12,M 12 10,E 10 0 13,E 10 1 14,E 10 2 15,M 13 5,M 14 6,M 15 7]<|
 gR [M 7 16,D .neq 16 0 17] 17 [gU [.bool false,.bool false,.aA] [] 18,M 6 19,M 7 20,W 3 2 18,M 19 3,M 20 4]<|
 r [M 5 21,gU [.aA,z0] [(0,1,t 21)] 22,gU [.aA,z0,.bool false] [(0,2,t 22)] 23,X 23 24,M 24 8]<|
 gR [M 5 25,N 25 26,D .eql 26 1 27,M 27 28,MT 8 29 28,ZT 29 30 28,AT 0 30 31 28,CT 144 [t 31] 32 28,⟨.bin .eql (t 32) (gS [45]),(some 33),some (28,true)⟩,P 28 33 34] 34 [gU [.bool false,.bool false,.aA] [(0,1,(.c (.bool true)))] 35,W 3 2 35,V z0 3,V z0 4]<|
 r [M 8 36,C 145 [t 36] 37,J [.bool false,.bool false,.aA] 9,W 3 9 37]<|
 q (.block 0 (r [M 8 39,Z 39 40,A 0 40 41,A 1 41 42,K 42 43,M 5 44,N 44 45,B .lss 43 45 46,M 46 38]<|
 c 38 (q (.draw [gU [.bool false,.bool false,.aA] [] 47,M 5 48,M 8 49,Z 49 50,A 0 50 51,A 1 51 52,K 52 53,I true 4 48 53 54,A 3 54 55,K 55 56,W 3 2 47,M 56 3,V (i6 11) 4] [(t 52,t 2),(t 55,t 2)])<|
 .ret) (r [M 8 58,Z 58 59,A 2 59 60,K 60 61,M 61 57]<|
 c 57 (r [gU [.bool false,.bool false,.aA] [] 62,M 0 63,S 63 64,W 3 2 62,M 64 3,V (i6 11) 4]<|
 .ret) (r [A 2 9 66,K 66 67,N 67 68,D .gtr 68 12 69,M 69 65]<|
 c 65 (r [gU [.bool false,.bool false,.aA] [] 70,W 3 2 70,V z0 3,V (i6 24) 4]<|
 .ret) (r [L 3 9 72,C 52 [t 72] 73,D .neq 73 0 74,M 74 71]<|
 c 71 (r [gU [.bool false,.bool false,.aA] [] 75,W 3 2 75,V z0 3,V (i6 12) 4]<|
 .ret) k)))))<|
 r [L 3 9 76,W 3 2 76,V z0 3,V z0 4]<|
 .ret):=bG Tryz.func106
def CJ: Of aH 107 54 [.tmp 6] (r [X 0 3,V z0 6]<|
 q (r [L 3 3 15,C 52 [t 15] 16,M 16 7]<|
 r [M 7 17,D .neq 17 0 18]<|
 c 18 (r [M 7 19,M 19 6]<|
 .ret) k)<|
 q (r [A 2 3 20,K 20 21,N 21 22,V z0 23]<|
 .block 0 (.loop (r [B .lss 23 22 24]<|
 q (c 24 k (.exit 0))<|
 q (.block 1 (r [I true 15 21 23 25,L 15 25 26,J [z0,z0,z0,z0,e0,e0,.aA,z0,z0,z0,e0,e0,.aA,.bool false,.bool false] 9,W 15 9 26]<|
 r [gT 10]<|
 q (r [L 15 9 27,C 146 [t 27] 28,N 28 29,V z0 30]<|
 .block 2 (.loop (r [B .lss 30 29 31]<|
 q (c 31 k (.exit 2))<|
 q (.block 3 (r [I true 6 28 30 32,L 6 32 33,J [z0,z0,z0,e0,e0,.aA] 12,W 6 12 33]<|
 r [L 6 12 35,M 2 36,C 109 [t 35,t 36] 37,M 37 34,E 34 0 38,E 34 1 39,M 38 13,M 39 14]<|
 gR [M 14 40,D .neq 40 0 41] 41 [M 14 42,M 42 6]<|
 R [M 10 43,M 43 44,LT 15 9 45 44,MT 1 46 44,MT 13 47 44,CT 147 [t 45,t 46,t 47] 48 44,P 44 48 49,M 49 10]))<|
 R [D .add 30 1 50,M 50 30])))<|
 r [M 10 51,U 51 52]<|
 c 52 (r [V (i6 14) 6]<|
 .ret) k))<|
 R [D .add 23 1 53,M 53 23])))<|
 r [V z0 6]<|
 .ret):=bG Tryz.func107
def nC: Of aH 108 51 [.cell 2 true 6,.tmp 3,.tmp 4] (r [J [z0,z0,z0,e0,e0,.aA] 2,V z0 3,V z0 4]<|
 r [M 0 11,C 143 [t 11] 12,M 12 10,E 10 0 13,E 10 1 14,E 10 2 15,M 13 5,M 14 6,M 15 7]<|
 gR [M 7 16,D .neq 16 0 17] 17 [gU [z0,z0,z0,e0,e0,.aA] [] 18,M 6 19,M 7 20,W 6 2 18,M 19 3,M 20 4]<|
 r [M 5 22,C 148 [t 22,.c z0,.c z0] 23,M 23 21,E 21 0 24,E 21 1 25,E 21 2 26,J [z0,z0,z0,e0,e0,.aA] 8,W 6 8 24,M 25 9,M 26 7]<|
 q (.block 0 (r [M 9 28,M 5 29,N 29 30,B .lss 28 30 31,M 31 27]<|
 c 27 (q (.draw [gU [z0,z0,z0,e0,e0,.aA] [] 32,M 5 33,M 9 34,I true 4 33 34 35,A 3 35 36,K 36 37,W 6 2 32,M 37 3,V (i6 11) 4] [(t 36,t 2)])<|
 .ret) (r [M 7 39,D .neq 39 0 40,M 40 38]<|
 c 38 (r [gU [z0,z0,z0,e0,e0,.aA] [] 41,M 0 42,S 42 43,M 7 44,W 6 2 41,M 43 3,M 44 4]<|
 .ret) (r [L 6 8 46,C 56 [t 46] 47,D .gtr 47 12 48,M 48 45]<|
 c 45 (r [gU [z0,z0,z0,e0,e0,.aA] [] 49,W 6 2 49,V z0 3,V (i6 12) 4]<|
 .ret) k))))<|
 r [L 6 8 50,W 6 2 50,V z0 3,V z0 4]<|
 .ret):=bG Tryz.func108
def Aw: Of aH 109 17 [.tmp 4,.tmp 5] (r [X 0 2,V z0 4,V z0 5]<|
 q (r [L 6 2 7,C 112 [t 7] 8,M 8 6]<|
 r [M 6 9,D .neq 9 0 10]<|
 c 10 (r [M 6 11,V z0 4,M 11 5]<|
 .ret) k)<|
 r [L 6 2 12,M 1 13,C 149 [t 12,t 13] 14,E 14 0 15,E 14 1 16,M 15 4,M 16 5]<|
 .ret):=bG Tryz.func109
def Ku: Of aH 110 16 [.tmp 4] (r [gF 4]<|
 r [M 0 5,M 1 6,B .eql 5 6 7,M 7 8,MF 0 9 8,DF .eql 9 0 10 8,O 8 10 11,M 11 12,MF 1 13 12,DF .eql 13 0 14 12,O 12 14 15,M 15 4]<|
 .ret):=bG Tryz.func110
def CK: Of aH 111 54 [.tmp 8,.tmp 9] (r [X 0 4,X 1 5,gF 8,V z0 9]<|
 q (r [L 3 4 15,L 3 5 16,M 2 17,M 3 18,C 150 [t 15,t 16,t 17,t 18] 19,M 19 10]<|
 r [M 10 20,D .neq 20 0 21]<|
 c 21 (r [M 10 22,gF 8,M 22 9]<|
 .ret) k)<|
 q (r [A 2 4 23,K 23 24,N 24 25,V z0 26]<|
 .block 0 (.loop (r [B .lss 26 25 27]<|
 q (c 27 k (.exit 0))<|
 q (.block 1 (r [I true 15 24 26 28,L 15 28 29,J [z0,z0,z0,z0,e0,e0,.aA,z0,z0,z0,e0,e0,.aA,.bool false,.bool false] 12,W 15 12 29]<|
 r [L 15 12 31,L 3 5 32,M 2 33,M 3 34,C 151 [t 31,t 32,t 33,t 34] 35,M 35 30,E 30 0 36,E 30 1 37,M 36 13,M 37 14]<|
 .block 2 (r [M 14 39,D .neq 39 0 40,M 40 38]<|
 c 38 (r [M 14 41,gF 8,M 41 9]<|
 .ret) (r [M 13 43,M 43 42]<|
 c 42 (r [A 1 4 44,K 44 45,U 45 46,M 46 8,V z0 9]<|
 .ret) k))))<|
 R [D .add 26 1 47,M 47 26])))<|
 r [A 0 4 48,K 48 49,M 49 50,AF 1 4 51 50,KF 51 52 50,O 50 52 53,M 53 8,V z0 9]<|
 .ret):=bG Tryz.func111
def IV: Of aH 112 6 [.tmp 2] (r [X 0 1,V z0 2]<|
 gR [L 6 1 3,C 55 [t 3] 4,U 4 5] 5 [V (i6 2) 2]<|
 r [V z0 2]<|
 .ret):=bG Tryz.func112
def fx: Of aH 114 90 [.cell 4 true 3] (r [X 0 2,X 1 3,J [z0,z0,e0] 4]<|
 q (r [A 0 3 7,K 7 8]<|
 .block 0 (r [D .eql 8 1 10,M 10 9]<|
 c 9 (r [A 1 3 11,L 3 11 12,W 3 4 12]<|
 .ret) (r [D .eql 8 2 14,M 14 13]<|
 c 13 (r [L 2 2 15,A 4 3 16,K 16 17,C 152 [t 15,t 17] 18,W 3 4 18]<|
 .ret) k)))<|
 q (.draw [L 2 2 19,A 5 3 20,K 20 21,gI true 6 21 0 22,L 6 22 23,J [z0,z0,e0] 5,bA (.ex (.pc 114) [t 19,t 23]) 24,W 3 5 24] [(.c .jB,.c .jB)])<|
 q (r [A 0 3 25,K 25 26]<|
 .block 1 (r [D .eql 26 3 28,M 28 27]<|
 c 27 (gR [L 3 5 29,gB true 3 (.agg [z0,z0,e0]) 1 [(0,t 29)] 30,C 153 [gJ 1,t 30] 31] 31 [L 3 5 32,W 3 4 32]<|
 r [A 1 5 33,K 33 34,C 155 [.c z0,t 34] 35,E 35 0 36,E 35 1 37,C 154 [t 36,t 37] 38,W 3 4 38]<|
 .ret) (r [D .eql 26 16 40,M 40 39]<|
 c 39 (r [L 3 5 41,gB true 3 (.agg [z0,z0,e0]) 1 [(0,t 41)] 42,C 153 [gJ 3,t 42] 43]<|
 q (q (.draw [L 3 5 44,Q 156 [(.c (.bool true))] 45,bA (.mN false true [.i,.i,.s] (t 44) (t 45)) 46] [])<|
 c 46 (q (.draw [L 2 2 47,A 5 3 48,K 48 49,gI true 6 49 1 50,L 6 50 51,bA (.ex (.pc 114) [t 47,t 51]) 52,W 3 4 52] [(.c .jB,.c .jB)])<|
 .ret) k)<|
 q (.draw [L 2 2 53,A 5 3 54,K 54 55,gI true 6 55 2 56,L 6 56 57,bA (.ex (.pc 114) [t 53,t 57]) 58,W 3 4 58] [(.c .jB,.c .jB)])<|
 .ret) k)))<|
 q (.draw [L 2 2 59,A 5 3 60,K 60 61,gI true 6 61 1 62,L 6 62 63,J [z0,z0,e0] 6,bA (.ex (.pc 114) [t 59,t 63]) 64,W 3 6 64] [(.c .jB,.c .jB)])<|
 q (r [A 0 3 65,K 65 66]<|
 .block 2 (q (r [D .eql 66 4 68,M 68 67]<|
 c 67 k (r [D .eql 66 5 69,M 69 67]<|
 c 67 k (r [D .eql 66 6 70,M 70 67]<|
 c 67 k (R [D .eql 66 7 71,M 71 67]))))<|
 c 67 (r [A 0 3 72,K 72 73,L 3 5 74,L 3 6 75,C 157 [t 73,t 74,t 75] 76,W 3 4 76]<|
 .ret) (q (r [D .eql 66 14 78,M 78 77]<|
 c 77 k (R [D .eql 66 15 79,M 79 77]))<|
 c 77 (r [A 0 3 80,K 80 81,L 3 5 82,L 3 6 83,C 158 [t 81,t 82,t 83] 84,W 3 4 84]<|
 .ret) k)))<|
 r [A 0 3 85,K 85 86,L 3 5 87,L 3 6 88,C 159 [t 86,t 87,t 88] 89,W 3 4 89]<|
 .ret):=rE ⟨[],[],[],[],[100024,100064,200024,200052,200058,200064],[]⟩ Tryz.func114
def tF: Of aH 115 9 [] (R [M 0 4,M 0 5,N 5 6,M 1 7,C 160 [t 4,t 6,t 7] 8]):=bG Tryz.func115
def Hh: Of aH 116 8 [.tmp 4] (r [V z0 4]<|
 r [M 0 5,M 1 6,C 117 [t 5,t 6,(.c (.fn (.func 118) [] []))] 7,M 7 4]<|
 .ret):=bG Tryz.func116
def vY: Of aH 117 39 [.tmp 6] (r [V z0 6]<|
 q (r [M 0 11,N 11 12,V z0 13]<|
 .block 0 (.loop (r [B .lss 13 12 14]<|
 q (c 14 k (.exit 0))<|
 q (.block 1 (r [M 13 15,I true 3 11 13 16,L 3 16 17,J [z0,z0,e0] 8,M 15 7,W 3 8 17]<|
 gR [M 7 18,M 1 19,N 19 20,B .geq 18 20 21] 21 [V (i6 1) 6]<|
 r [M 1 22,M 7 23,I true 3 22 23 24,L 3 24 25,J [z0,z0,e0] 9,W 3 9 25]<|
 r [M 2 26,L 3 8 27,L 3 9 28,bA (.call false (t 26) [t 27,t 28]) 29,M 29 10]<|
 r [M 10 30,D .neq 30 0 31]<|
 c 31 (r [M 10 32,M 32 6]<|
 .ret) k))<|
 R [D .add 13 1 33,M 33 13])))<|
 gR [M 0 34,N 34 35,M 1 36,N 36 37,B .lss 35 37 38] 38 [V (i6 (-1)) 6]<|
 r [V z0 6]<|
 .ret):=bG Tryz.func117
def Hi: Of aH 118 22 [.tmp 4] (r [X 0 2,X 1 3,V z0 4]<|
 q (.draw [A 0 2 5,K 5 6,A 0 3 7,K 7 8,Q 162 [t 6,t 8] 9,A 1 2 10,K 10 11,A 1 3 12,K 12 13,Q 121 [t 11,t 13] 14,A 2 2 15,K 15 16,A 2 3 17,K 17 18,Q 163 [t 16,t 18] 19,gB false 1 z0 3 [(0,t 9),(1,t 14),(2,t 19)] 20,Q 161 [t 20] 21,M 21 4] [])<|
 .ret):=bG Tryz.func118
def Ru: Of aH 119 52 [.cell 4 true 3,.tmp 5] (r [J [z0,z0,e0] 4,V z0 5]<|
 r [bA (.kK ⟨true,3⟩) 6]<|
 q (r [M 1 9,N 9 10,V z0 11]<|
 .block 0 (.loop (r [B .lss 11 10 12]<|
 q (c 12 k (.exit 0))<|
 q (.block 1 (r [I false 1 9 11 13,K 13 14,M 14 8]<|
 r [M 8 15,gI true 3 15 0 16,A 0 16 17,K 17 18,D .neq 18 0 19]<|
 c 19 (R [M 6 20,M 8 21,gI true 3 21 0 22,L 3 22 23,gB true 3 (.agg [z0,z0,e0]) 1 [(0,t 23)] 24,gA true 3 20 24 25,M 25 6]) k))<|
 R [D .add 11 1 26,M 26 11])))<|
 q (.block 2 (r [M 0 28,D .eql 28 4 29,M 29 27]<|
 c 27 (r [M 1 30,N 30 31,gU [z0,z0,e0] [(0,1,gJ 1),(1,1,t 31)] 32,W 3 4 32,V z0 5]<|
 .ret) (r [M 0 34,D .eql 34 1 35,M 35 33]<|
 c 33 (r [M 6 36,C 164 [t 36] 37,E 37 0 38,E 37 1 39,W 3 4 38,M 39 5]<|
 .ret) (r [M 6 41,N 41 42,D .eql 42 0 43,M 43 40]<|
 c 40 (r [gU [z0,z0,e0] [] 44,W 3 4 44,V z0 5]<|
 .ret) (r [M 0 46,D .eql 46 2 47,M 47 45]<|
 c 45 (r [M 6 48,C 165 [t 48,(.c (.fn (.func 118) [] []))] 49,W 3 4 49,V z0 5]<|
 .ret) k)))))<|
 r [M 6 50,C 166 [t 50,(.c (.fn (.func 118) [] []))] 51,W 3 4 51,V z0 5]<|
 .ret):=rE ⟨[],[],[(6,⟨true,3⟩)],[],[],[]⟩ Tryz.func119
def IW: Of aH 120 10 [.tmp 3] (r [gF 3]<|
 r [M 0 4,K 1 5,gI false 1 5 0 6,K 6 7,C 28 [t 4,t 7] 8,U 8 9,M 9 3]<|
 .ret):=bG Tryz.func120
def DL: Of aH 121 20 [.tmp 4] (r [V z0 4]<|
 r [M 0 7,C 167 [t 7] 8,M 8 5]<|
 r [M 1 9,C 167 [t 9] 10,M 10 6]<|
 q (r [M 5 11]<|
 c 11 (gR [M 6 12] 12 [V z0 4]<|
 r [V (i6 (-1)) 4]<|
 .ret) k)<|
 gR [M 6 13] 13 [V (i6 1) 4]<|
 gR [M 0 14,M 1 15,B .lss 14 15 16] 16 [V (i6 (-1)) 4]<|
 gR [M 0 17,M 1 18,B .gtr 17 18 19] 19 [V (i6 1) 4]<|
 r [V z0 4]<|
 .ret):=bG Tryz.func121
def O6: Of aH 122 16 [.tmp 4] (r [X 0 2,X 1 3,V z0 4]<|
 q (r [A 2 2 6,K 6 7,L 3 3 8,C 142 [t 7,t 8] 9,M 9 5]<|
 r [M 5 10,D .geq 10 0 11]<|
 c 11 (r [M 5 12,M 12 4]<|
 .ret) k)<|
 r [A 2 2 13,K 13 14,N 14 15,M 15 4]<|
 .ret):=bG Tryz.func122
def Nw: Of aH 123 15 [.tmp 2] (r [gF 2]<|
 r [M 0 3,bA (.bin .or (t 3) (.c (.int .u8 32))) 4,bA (.bin .geq (t 4) (.c (.int .u8 97))) 5,M 5 6,MT 0 7 6,⟨.bin .or (t 7) (.c (.int .u8 32)),(some 8),some (6,true)⟩,⟨.bin .leq (t 8) (.c (.int .u8 122)),(some 9),some (6,true)⟩,P 6 9 10,M 10 11,MF 0 12 11,⟨.bin .eql (t 12) (.c (.int .u8 95)),(some 13),some (11,false)⟩,O 11 13 14,M 14 2]<|
 .ret):=bG Tryz.func123
def UQ: Of aH 124 21 [.tmp 4] (r [V z0 4]<|
 q (r [M 0 6,S 6 7,V z0 8]<|
 .block 0 (.loop (r [B .lss 8 7 9]<|
 q (c 9 k (.exit 0))<|
 q (.block 1 (r [M 8 10,M 10 5]<|
 r [M 1 11,M 0 12,M 5 13,bA (.nR (t 12) (t 13)) 14,bA (.call false (t 11) [t 14]) 15,U 15 16]<|
 c 16 (r [M 5 17,M 17 4]<|
 .ret) k))<|
 R [D .add 8 1 18,M 18 8])))<|
 r [M 0 19,S 19 20,M 20 4]<|
 .ret):=bG Tryz.func124
def Nx: Of aH 125 9 [.tmp 2] (r [gF 2]<|
 r [M 0 3,C 123 [t 3] 4,M 4 5,MF 0 6 5,CF 126 [t 6] 7 5,O 5 7 8,M 8 2]<|
 .ret):=bG Tryz.func125
def O7: Of aH 126 9 [.tmp 2] (r [gF 2]<|
 r [M 0 3,bA (.bin .geq (t 3) (.c (.int .u8 48))) 4,M 4 5,MT 0 6 5,⟨.bin .leq (t 6) (.c (.int .u8 57)),(some 7),some (5,true)⟩,P 5 7 8,M 8 2]<|
 .ret):=bG Tryz.func126
def xm: Of aH 127 19 [.tmp 4] (r [V z0 4]<|
 q (r [M 0 6,N 6 7,V z0 8]<|
 .block 0 (.loop (r [B .lss 8 7 9]<|
 q (c 9 k (.exit 0))<|
 q (.block 1 (r [M 8 10,M 10 5]<|
 r [M 1 11,M 0 12,M 5 13,I true 3 12 13 14,L 3 14 15,bA (.call false (t 11) [t 15]) 16]<|
 c 16 (r [M 5 17,M 17 4]<|
 .ret) k))<|
 R [D .add 8 1 18,M 18 8])))<|
 r [V (i6 (-1)) 4]<|
 .ret):=bG Tryz.func127
def Kv: Of aH 128 19 [.tmp 2] (r [gF 2]<|
 gR [M 0 5,S 5 6,D .gtr 6 40 7] 7 [gF 2]<|
 q (r [M 0 8,bA (.GD (t 8)) 9]<|
 .block 0 (.loop (r [bA (.GF (t 9)) 10,E 10 0 11]<|
 q (c 11 k (.exit 0))<|
 .block 1 (r [E 10 2 12,M 12 4]<|
 r [M 4 13,bA (.bin .lss (t 13) (.c (.int .i32 32))) 14,M 14 15,MF 4 16 15,⟨.bin .gtr (t 16) (.c (.int .i32 126)),(some 17),some (15,false)⟩,O 15 17 18]<|
 c 18 (r [gF 2]<|
 .ret) k))))<|
 r [gT 2]<|
 .ret):=bG Tryz.func128
def ye: Of aH 129 19 [.tmp 4] (r [V z0 4]<|
 q (r [M 0 6,N 6 7,V z0 8]<|
 .block 0 (.loop (r [B .lss 8 7 9]<|
 q (c 9 k (.exit 0))<|
 q (.block 1 (r [M 8 10,M 10 5]<|
 r [M 1 11,M 0 12,M 5 13,I true 15 12 13 14,L 15 14 15,bA (.call false (t 11) [t 15]) 16]<|
 c 16 (r [M 5 17,M 17 4]<|
 .ret) k))<|
 R [D .add 8 1 18,M 18 8])))<|
 r [V (i6 (-1)) 4]<|
 .ret):=bG Tryz.func129
def O8: Of aH 130 11 [.tmp 2] (r [X 0 1,gF 2]<|
 r [L 6 1 3,C 112 [t 3] 4,D .eql 4 0 5,M 5 6,LT 6 1 7 6,CT 56 [t 7] 8 6,DT .leq 8 12 9 6,P 6 9 10,M 10 2]<|
 .ret):=bG Tryz.func130
def Kw: Of aH 131 31 [.tmp 4] (r [X 0 2,X 1 3,gF 4]<|
 r [A 0 2 5,K 5 6,A 0 3 7,K 7 8,B .eql 6 8 9,M 9 10,AT 1 2 11 10,LT 3 11 12 10,AT 1 3 13 10,LT 3 13 14 10,⟨.mN false true [.i,.i,.s] (t 12) (t 14),(some 15),some (10,true)⟩,P 10 15 16,M 16 17,AT 4 2 18 17,KT 18 19 17,AT 4 3 20 17,KT 20 21 17,BT .eql 19 21 22 17,P 17 22 23,M 23 24,AT 5 2 25 24,KT 25 26 24,AT 5 3 27 24,KT 27 28 24,CT 168 [t 26,t 28,(.c (.fn (.func 131) [] []))] 29 24,P 24 29 30,M 30 4]<|
 .ret):=bG Tryz.func131
def UR: Of aH 132 8 [.cell 2 true 2] (r [X 0 1,J [.bool false,.bool false] 2]<|
 r [A 13 1 3,K 3 4,A 14 1 5,K 5 6,gU [.bool false,.bool false] [(0,1,t 4),(1,1,t 6)] 7,W 2 2 7]<|
 .ret):=bG Tryz.func132
def u9: Of aH 133 20 [] (r [M 0 2,Z 2 3,A 0 3 4,K 4 5,bA (.qV false .p (t 5) (.c .jA)) 6]<|
 c 6 (R [M 0 7,M 0 8,bA (.HX (t 8)) 9,bA (.Fb 169 (t 9)) 10,bA (.HY 127 (t 10)) 11,Z 7 12,A 0 12 13,W 1 13 11]) (r [M 0 14,Z 14 15,A 0 15 16,K 16 17,M 0 18,bA (.FW true (t 17) (t 18)) 19]<|
 c 19 (.stop) k)):=bG Tryz.func133
def yf: Of aH 135 19 [.tmp 4] (r [V z0 4]<|
 q (r [M 0 6,N 6 7,V z0 8]<|
 .block 0 (.loop (r [B .lss 8 7 9]<|
 q (c 9 k (.exit 0))<|
 q (.block 1 (r [M 8 10,M 10 5]<|
 r [M 1 11,M 0 12,M 5 13,I true 6 12 13 14,L 6 14 15,bA (.call false (t 11) [t 15]) 16]<|
 c 16 (r [M 5 17,M 17 4]<|
 .ret) k))<|
 R [D .add 8 1 18,M 18 8])))<|
 r [V (i6 (-1)) 4]<|
 .ret):=bG Tryz.func135
def Kx: Of aH 137 22 [.tmp 2] (r [V e0 2]<|
 r [bA (.alloc (some 127) [.jA,.aA]) 3]<|
 r [C 96 [t 3,(.c (.int .u8 34))] 6]<|
 q (r [M 0 7,bA (.GD (t 7)) 8]<|
 .block 0 (.loop (r [bA (.GF (t 8)) 9,E 9 0 10]<|
 q (c 10 k (.exit 0))<|
 .block 1 (r [E 9 2 11,M 11 5]<|
 q (r [M 5 12]<|
 .block 2 (q (.block 4 (.block 3 (q (q (r [bA (.bin .eql (t 12) (.c (.int .i32 34))) 14,M 14 13]<|
 c 13 (.exit 3) k)<|
 r [bA (.bin .eql (t 12) (.c (.int .i32 92))) 16,M 16 15]<|
 c 15 (.exit 4) k)<|
 .exit 2)))<|
 r [C 96 [t 3,(.c (.int .u8 92))] 17]<|
 .exit 2))<|
 R [M 5 18,C 172 [t 3,t 18] 19]))))<|
 r [C 96 [t 3,(.c (.int .u8 34))] 20]<|
 r [C 59 [t 3] 21,M 21 2]<|
 .ret):=rE ⟨[],[],[],[3],[],[]⟩ Tryz.func137
def DM: Of aH 139 14 [.tmp 0] (r [V .aA 0]<|
 r [gU [z0,e0,z0] [(0,1,gJ 4),(1,1,gS [43]),(2,1,gJ 4)] 1,gU [z0,e0,z0] [(0,1,gJ 5),(1,1,gS [45]),(2,1,gJ 4)] 2,gU [z0,e0,z0] [(0,1,gJ 6),(1,1,gS [42]),(2,1,gJ 5)] 3,gU [z0,e0,z0] [(0,1,gJ 7),(1,1,gS [47]),(2,1,gJ 5)] 4,gU [z0,e0,z0] [(0,1,gJ 8),(1,1,gS [61]),(2,1,gJ 3)] 5,gU [z0,e0,z0] [(0,1,gJ 9),(1,1,gS [33,61]),(2,1,gJ 3)] 6,gU [z0,e0,z0] [(0,1,gJ 10),(1,1,gS [60]),(2,1,gJ 3)] 7,gU [z0,e0,z0] [(0,1,gJ 11),(1,1,gS [60,61]),(2,1,gJ 3)] 8,gU [z0,e0,z0] [(0,1,gJ 12),(1,1,gS [62]),(2,1,gJ 3)] 9,gU [z0,e0,z0] [(0,1,gJ 13),(1,1,gS [62,61]),(2,1,gJ 3)] 10,gU [z0,e0,z0] [(0,1,gJ 14),(1,1,gS [97,110,100]),(2,1,gJ 2)] 11,gU [z0,e0,z0] [(0,1,gJ 15),(1,1,gS [111,114]),(2,1,gJ 1)] 12,gB true 3 (.agg [z0,e0,z0]) 12 [(0,t 1),(1,t 2),(2,t 3),(3,t 4),(4,t 5),(5,t 6),(6,t 7),(7,t 8),(8,t 9),(9,t 10),(10,t 11),(11,t 12)] 13,M 13 0]<|
 .ret):=bG Tryz.func139
def O9: Of aH 140 8 [.tmp 4] (r [X 1 3,V z0 4]<|
 r [M 0 5,bA (.rH (.func 174) [] [t 3]) 6,C 141 [t 5,t 6] 7,M 7 4]<|
 .ret):=bG Tryz.func140
def wG: Of aH 141 19 [.tmp 4] (r [V z0 4]<|
 q (r [M 0 6,N 6 7,V z0 8]<|
 .block 0 (.loop (r [B .lss 8 7 9]<|
 q (c 9 k (.exit 0))<|
 q (.block 1 (r [M 8 10,M 10 5]<|
 r [M 1 11,M 0 12,M 5 13,I true 3 12 13 14,L 3 14 15,bA (.call false (t 11) [t 15]) 16]<|
 c 16 (r [M 5 17,M 17 4]<|
 .ret) k))<|
 R [D .add 8 1 18,M 18 8])))<|
 r [V (i6 (-1)) 4]<|
 .ret):=bG Tryz.func141
def Ax: Of aH 142 19 [.tmp 4] (r [X 1 3,V z0 4]<|
 q (r [M 0 6,N 6 7,V z0 8]<|
 .block 0 (.loop (r [B .lss 8 7 9]<|
 q (c 9 k (.exit 0))<|
 q (.block 1 (r [M 8 10,M 10 5]<|
 q (.draw [L 3 3 11,M 0 12,M 5 13,I true 3 12 13 14,L 3 14 15,bA (.mN false true [.i,.i,.s] (t 11) (t 15)) 16] [])<|
 c 16 (r [M 5 17,M 17 4]<|
 .ret) k))<|
 R [D .add 8 1 18,M 18 8])))<|
 r [V (i6 (-1)) 4]<|
 .ret):=bG Tryz.func142
def IX: Of aH 143 52 [.tmp 2,.tmp 3,.tmp 4] (r [V .aA 2,V z0 3,V z0 4]<|
 .scope 0 (gR [M 0 9,S 9 10,D .gtr 10 200 11] 11 [V .aA 2,V z0 3,V (i6 5) 4]<|
 r [bA (.kK ⟨true,4⟩) 5]<|
 r [V z0 6]<|
 q (.label 0)<|
 q (.block 0 (.loop (.block 1 (q (gL 2 [M 6 12,M 0 13,S 13 14,B .lss 12 14 15,M 15 16,MT 0 17 16,MT 6 18 16,⟨.nR (t 17) (t 18),(some 19),some (16,true)⟩,⟨.bin .eql (t 19) (.c (.int .u8 32)),(some 20),some (16,true)⟩,P 16 20 21] 21 ((
 .block 3 (R [M 6 22,D .add 22 1 23,M 23 6]))))<|
 q (r [M 6 24,M 0 25,S 25 26,B .eql 24 26 27]<|
 c 27 (.exit 0) k)<|
 r [M 0 29,M 6 30,bA (.uK (t 29) (some (t 30)) none) 31,C 175 [t 31] 32,M 32 28,E 28 0 33,E 28 1 34,J [z0,e0,z0,z0,z0] 7,W 5 7 33,M 34 8]<|
 gR [M 8 35,D .neq 35 0 36] 36 [M 6 37,M 8 38,V .aA 2,M 37 3,M 38 4]<|
 r [M 6 39,A 0 7 40,A 3 40 41,W 1 41 39]<|
 r [M 5 42,A 0 7 43,L 4 43 44,gB true 4 (.agg [z0,e0,z0,z0]) 1 [(0,t 44)] 45,gA true 4 42 45 46,M 46 5]<|
 R [M 6 47,A 4 7 48,K 48 49,B .add 47 49 50,M 50 6]))))<|
 r [M 5 51,M 51 2,V z0 3,V z0 4]<|
 .ret) (.seq k <|
 q (.block 0 (.loop (.block 1 (q (gL 2 [M 6 12,M 0 13,S 13 14,B .lss 12 14 15,M 15 16,MT 0 17 16,MT 6 18 16,⟨.nR (t 17) (t 18),(some 19),some (16,true)⟩,⟨.bin .eql (t 19) (.c (.int .u8 32)),(some 20),some (16,true)⟩,P 16 20 21] 21 ((
 .block 3 (R [M 6 22,D .add 22 1 23,M 23 6]))))<|
 q (r [M 6 24,M 0 25,S 25 26,B .eql 24 26 27]<|
 c 27 (.exit 0) k)<|
 r [M 0 29,M 6 30,bA (.uK (t 29) (some (t 30)) none) 31,C 175 [t 31] 32,M 32 28,E 28 0 33,E 28 1 34,J [z0,e0,z0,z0,z0] 7,W 5 7 33,M 34 8]<|
 gR [M 8 35,D .neq 35 0 36] 36 [M 6 37,M 8 38,V .aA 2,M 37 3,M 38 4]<|
 r [M 6 39,A 0 7 40,A 3 40 41,W 1 41 39]<|
 r [M 5 42,A 0 7 43,L 4 43 44,gB true 4 (.agg [z0,e0,z0,z0]) 1 [(0,t 44)] 45,gA true 4 42 45 46,M 46 5]<|
 R [M 6 47,A 4 7 48,K 48 49,B .add 47 49 50,M 50 6]))))<|
 r [M 5 51,M 51 2,V z0 3,V z0 4]<|
 .ret)):=rE ⟨[],[],[(5,⟨true,4⟩)],[],[],[]⟩ Tryz.func143
def uP: Of aH 144 38 [.tmp 2] (r [V e0 2]<|
 q (q (.draw [M 0 3,Z 3 4,A 1 4 5,K 5 6,M 0 7,Z 7 8,A 0 8 9,K 9 10,N 10 11,B .lss 6 11 12,M 12 13,MT 0 14 13,ZT 14 15 13,AT 0 15 16 13,KT 16 17 13,MT 0 18 13,ZT 18 19 13,AT 1 19 20 13,KT 20 21 13,IT true 4 17 21 22 13,AT 0 22 23 13,KT 23 24 13,DT .eql 24 4 25 13,P 13 25 26] [])<|
 c 26 (q (.draw [M 0 27,Z 27 28,A 0 28 29,K 29 30,M 0 31,Z 31 32,A 1 32 33,K 33 34,I true 4 30 34 35,A 1 35 36,K 36 37,M 37 2] [])<|
 .ret) k)<|
 r [V e0 2]<|
 .ret):=bG Tryz.func144
def C2: Of aH 145 32 [.cell 2 true 3] (r [J [.bool false,.bool false,.aA] 2]<|
 r [J [.bool false,.bool false,.aA] 3]<|
 q (r [M 0 4,Z 4 5,A 0 5 6,A 0 6 7,K 7 8,C 176 [t 8] 9,A 1 3 10,W 1 10 9]<|
 r [A 1 3 11,K 11 12]<|
 c 12 (R [M 0 13,Z 13 14,A 0 14 15,A 1 15 16,⟨.store 1 (t 16) (gJ 2),none,none⟩]) k)<|
 q (.block 0 (.loop (.block 1 (q (.draw [A 2 3 17,K 17 18,M 0 19,bA (.sD (.c (.fn (.func 177) [] [])) [t 19]) 20,gB true 15 (.agg [z0,z0,z0,z0,e0,e0,.aA,z0,z0,z0,e0,e0,.aA,.bool false,.bool false]) 1 [(0,t 20)] 21,gA true 15 18 21 22,A 2 3 23,W 1 23 22] [(t 17,t 19)])<|
 r [M 0 24,C 178 [t 24,gS [44]] 25,U 25 26]<|
 c 26 (.exit 0) k))))<|
 q (r [A 1 3 27,K 27 28]<|
 c 28 (R [M 0 29,C 179 [t 29,gS [41]] 30]) k)<|
 r [L 3 3 31,W 3 2 31]<|
 .ret):=rE ⟨[],[],[],[],[20],[]⟩ Tryz.func145
def CL: Of aH 146 14 [.tmp 2] (r [X 0 1,V .aA 2]<|
 gR [A 0 1 3,K 3 4,D .eql 4 6 5] 5 [A 1 1 6,L 6 6 7,A 7 1 8,L 6 8 9,gB true 6 (.agg [z0,z0,z0,e0,e0,.aA]) 2 [(0,t 7),(1,t 9)] 10,M 10 2]<|
 r [A 1 1 11,L 6 11 12,gB true 6 (.agg [z0,z0,z0,e0,e0,.aA]) 1 [(0,t 12)] 13,M 13 2]<|
 .ret):=bG Tryz.func146
def O_: Of aH 147 23 [.tmp 6] (r [X 0 3,gF 6]<|
 r [M 1 7,M 2 8,C 110 [t 7,t 8] 9,M 9 10,AT 0 3 11 10,KT 11 12 10,DT .eql 12 1 13 10,MT 13 14 10,MF 1 15 14,DF .neq 15 3 16 14,MF 16 17 14,MT 2 18 17,DT .neq 18 3 19 17,PF 17 19 20 14,OT 14 20 21 10,P 10 21 22,M 22 6]<|
 .ret):=bG Tryz.func147
def u_: Of aH 148 49 [.cell 6 true 6,.tmp 7,.tmp 8] (r [J [z0,z0,z0,e0,e0,.aA] 6,V z0 7,V z0 8]<|
 gR [M 1 11,D .lss 11 0 12,M 12 13,MF 1 14 13,MF 0 15 13,NF 15 16 13,BF .gtr 14 16 17 13,O 13 17 18,M 18 19,MF 2 20 19,DF .lss 20 0 21 19,O 19 21 22,M 22 23,MF 2 24 23,DF .gtr 24 7 25 23,O 23 25 26] 26 [gU [z0,z0,z0,e0,e0,.aA] [] 27,W 6 6 27,V z0 7,V (i6 2) 8]<|
 r [M 0 28,M 1 29,gU [.aA,z0,.bool false] [(0,1,t 28),(1,1,t 29)] 30,X 30 31,M 31 9]<|
 r [M 9 32,M 2 33,C 180 [t 32,t 33] 34,J [z0,z0,z0,e0,e0,.aA] 10,W 6 10 34]<|
 q (r [M 9 35,Z 35 36,A 2 36 37,K 37 38]<|
 c 38 (q (.draw [gU [z0,z0,z0,e0,e0,.aA] [] 39,M 9 40,Z 40 41,A 1 41 42,K 42 43,W 6 6 39,M 43 7,V (i6 11) 8] [(t 42,t 6)])<|
 .ret) k)<|
 q (.draw [L 6 10 44,M 9 45,Z 45 46,A 1 46 47,K 47 48,W 6 6 44,M 48 7,V z0 8] [(t 47,t 6)])<|
 .ret):=bG Tryz.func148
def q8: Of aH 149 65 [.tmp 4,.tmp 5] (r [X 0 2,V z0 4,V z0 5]<|
 q (r [A 0 2 14,K 14 15]<|
 .block 0 (r [D .eql 15 1 17,M 17 16]<|
 c 16 (r [A 1 2 18,A 0 18 19,K 19 20,M 20 4,V z0 5]<|
 .ret) (r [D .eql 15 2 22,M 22 21]<|
 c 21 (r [M 1 23,A 4 2 24,K 24 25,C 140 [t 23,t 25] 26,M 26 6]<|
 gR [M 6 27,D .lss 27 0 28] 28 [V z0 4,V (i6 13) 5]<|
 r [M 1 29,M 6 30,I true 3 29 30 31,A 1 31 32,K 32 33,M 33 4,V z0 5]<|
 .ret) k)))<|
 r [bA (.kK ⟨false,1⟩) 7]<|
 q (r [A 5 2 34,K 34 35,N 35 36,V z0 37]<|
 .block 1 (.loop (r [B .lss 37 36 38]<|
 q (c 38 k (.exit 1))<|
 q (.block 2 (r [I true 6 35 37 39,L 6 39 40,J [z0,z0,z0,e0,e0,.aA] 9,W 6 9 40]<|
 r [L 6 9 42,M 1 43,C 149 [t 42,t 43] 44,M 44 41,E 41 0 45,E 41 1 46,M 45 10,M 46 11]<|
 gR [M 11 47,D .neq 47 0 48] 48 [M 11 49,V z0 4,M 49 5]<|
 R [M 7 50,M 10 51,gB false 1 z0 1 [(0,t 51)] 52,gA false 1 50 52 53,M 53 7]))<|
 R [D .add 37 1 54,M 54 37])))<|
 r [A 0 2 56,K 56 57,M 7 58,C 181 [t 57,t 58] 59,M 59 55,E 55 0 60,E 55 1 61,M 60 12,M 61 13]<|
 gR [M 13 62,U 62 63] 63 [V z0 4,V (i6 14) 5]<|
 r [M 12 64,M 64 4,V z0 5]<|
 .ret):=rE ⟨[],[],[(7,⟨false,1⟩)],[],[],[]⟩ Tryz.func149
def F7: Of aH 150 36 [.tmp 8] (r [X 0 4,X 1 5,V z0 8]<|
 gR [L 3 4 11,C 52 [t 11] 12,D .neq 12 0 13,M 13 14,LF 3 5 15 14,CF 83 [t 15] 16 14,DF .neq 16 0 17 14,O 14 17 18,M 18 19,MF 2 20 19,NF 20 21 19,MF 3 22 19,NF 22 23 19,BF .neq 21 23 24 19,O 19 24 25] 25 [V (i6 2) 8]<|
 q (r [M 3 26,N 26 27,V z0 28]<|
 .block 0 (.loop (r [B .lss 28 27 29]<|
 q (c 29 k (.exit 0))<|
 q (.block 1 (r [I true 3 26 28 30,L 3 30 31,J [z0,z0,e0] 10,W 3 10 31]<|
 r [L 3 10 32,C 83 [t 32] 33,D .neq 33 0 34]<|
 c 34 (r [V (i6 2) 8]<|
 .ret) k))<|
 R [D .add 28 1 35,M 35 28])))<|
 r [V z0 8]<|
 .ret):=bG Tryz.func150
def Rv: Of aH 151 57 [.tmp 8,.tmp 9] (r [X 0 4,X 1 5,gF 8,V z0 9]<|
 r [bA (.kK ⟨true,3⟩) 10]<|
 q (r [L 15 4 17,C 146 [t 17] 18,N 18 19,V z0 20]<|
 .block 0 (.loop (r [B .lss 20 19 21]<|
 q (c 21 k (.exit 0))<|
 q (.block 1 (r [I true 6 18 20 22,L 6 22 23,J [z0,z0,z0,e0,e0,.aA] 12,W 6 12 23]<|
 r [L 6 12 25,M 2 26,M 3 27,C 72 [t 25,t 26,t 27] 28,M 28 24,E 24 0 29,E 24 1 30,J [z0,z0,e0] 13,W 3 13 29,M 30 14]<|
 gR [M 14 31,D .neq 31 0 32] 32 [M 14 33,gF 8,M 33 9]<|
 R [M 10 34,L 3 13 35,gB true 3 (.agg [z0,z0,e0]) 1 [(0,t 35)] 36,gA true 3 34 36 37,M 37 10]))<|
 R [D .add 20 1 38,M 38 20])))<|
 q (r [M 10 39,N 39 40,V z0 41]<|
 .block 2 (.loop (r [B .lss 41 40 42]<|
 q (c 42 k (.exit 2))<|
 q (.block 3 (r [I true 3 39 41 43,L 3 43 44,J [z0,z0,e0] 16,W 3 16 44]<|
 r [L 15 4 45,A 0 5 46,K 46 47,A 0 16 48,K 48 49,C 147 [t 45,t 47,t 49] 50,U 50 51]<|
 c 51 (r [gF 8,V (i6 14) 9]<|
 .ret) k))<|
 R [D .add 41 1 52,M 52 41])))<|
 r [L 15 4 53,L 3 5 54,M 10 55,C 182 [t 53,t 54,t 55] 56,M 56 8,V z0 9]<|
 .ret):=rE ⟨[],[],[(10,⟨true,3⟩)],[],[],[]⟩ Tryz.func151
def DN: Of aH 152 27 [.cell 4 true 3] (r [X 0 2,J [z0,z0,e0] 4]<|
 q (r [A 0 2 7,K 7 8,N 8 9,V z0 10]<|
 .block 0 (.loop (r [B .lss 10 9 11]<|
 q (c 11 k (.exit 0))<|
 q (.block 1 (r [M 10 12,I true 3 8 10 13,L 3 13 14,J [e0,z0,.aA] 6,M 12 5,W 3 6 14]<|
 r [A 0 6 15,K 15 16,M 1 17,B .eql 16 17 18]<|
 c 18 (r [A 1 2 19,K 19 20,M 5 21,I true 3 20 21 22,L 3 22 23,W 3 4 23]<|
 .ret) k))<|
 R [D .add 10 1 24,M 24 10])))<|
 r [C 183 [gJ 13] 25]<|
 r [gU [z0,z0,e0] [] 26,W 3 4 26]<|
 .ret):=bG Tryz.func152
def IY: Of aH 153 23 [.tmp 4] (r [gF 4]<|
 q (r [M 1 7,N 7 8,V z0 9]<|
 .block 0 (.loop (r [B .lss 9 8 10]<|
 q (c 10 k (.exit 0))<|
 q (.block 1 (r [I true 3 7 9 11,L 3 11 12,J [z0,z0,e0] 6,W 3 6 12]<|
 r [A 0 6 13,K 13 14]<|
 .block 2 (r [M 0 17,B .eql 14 17 18,M 18 16]<|
 c 16 k (r [D .eql 14 0 20,M 20 19]<|
 c 19 (R [gT 4]) (R [C 183 [gJ 14] 15])))))<|
 R [D .add 9 1 21,M 21 9])))<|
 r [M 4 22,M 22 4]<|
 .ret):=bG Tryz.func153
def Ay: Of aH 154 9 [.cell 4 true 3] (r [J [z0,z0,e0] 4]<|
 r [M 1 5,C 183 [t 5] 6]<|
 r [M 0 7,gU [z0,z0,e0] [(0,1,gJ 1),(1,1,t 7)] 8,W 3 4 8]<|
 .ret):=bG Tryz.func154
def zJ: Of aH 155 21 [.tmp 4,.tmp 5] (r [V z0 4,V z0 5]<|
 r [M 0 7,M 1 8,B .sub 7 8 9,M 9 6]<|
 gR [M 6 10,M 0 11,B .lss 10 11 12,M 1 13,D .gtr 13 0 14,bA (.mN true false [.b] (t 12) (t 14)) 15,M 15 16,MT 1 17 16,DT .neq 17 0 18 16,P 16 18 19] 19 [V z0 4,V (i6 15) 5]<|
 r [M 6 20,M 20 4,V z0 5]<|
 .ret):=bG Tryz.func155
def Ny: Of aH 156 8 [.cell 2 true 3] (r [J [z0,z0,e0] 2]<|
 r [gU [z0,z0,e0] [(0,1,gJ 3)] 4,J [z0,z0,e0] 3,W 3 3 4]<|
 q (r [M 0 5]<|
 c 5 (R [A 1 3 6,⟨.store 1 (t 6) (gJ 1),none,none⟩]) k)<|
 r [L 3 3 7,W 3 2 7]<|
 .ret):=bG Tryz.func156
def tV: Of aH 157 42 [.cell 6 true 3] (r [X 1 4,X 2 5,J [z0,z0,e0] 6]<|
 r [M 0 9,D .eql 9 4 10,M 10 11,AT 0 4 12 11,KT 12 13 11,DT .eql 13 2 14 11,MT 14 15 11,AF 0 5 16 15,KF 16 17 15,DF .eql 17 2 18 15,OT 15 18 19 11,P 11 19 20,M 20 7]<|
 r [V (i6 1) 8]<|
 q (r [M 7 21]<|
 c 21 (R [V (i6 2) 8]) k)<|
 q (.block 0 (r [M 8 23,L 3 4 24,L 3 5 25,gB true 3 (.agg [z0,z0,e0]) 2 [(0,t 24),(1,t 25)] 26,C 153 [t 23,t 26] 27,M 27 22]<|
 c 22 (r [gU [z0,z0,e0] [] 28,W 3 6 28]<|
 .ret) (r [M 7 30,M 30 29]<|
 c 29 (r [A 2 4 31,K 31 32,A 2 5 33,K 33 34,C 184 [t 32,t 34] 35,W 3 6 35]<|
 .ret) k)))<|
 r [M 0 36,A 1 4 37,K 37 38,A 1 5 39,K 39 40,C 185 [t 36,t 38,t 40] 41,W 3 6 41]<|
 .ret):=bG Tryz.func157
def q9: Of aH 158 32 [.cell 6 true 3] (r [X 1 4,X 2 5,J [z0,z0,e0] 6]<|
 r [L 3 4 9,L 3 5 10,gB true 3 (.agg [z0,z0,e0]) 2 [(0,t 9),(1,t 10)] 11,C 153 [gJ 3,t 11] 12,M 12 7]<|
 r [M 0 13,D .eql 13 15 14,C 156 [t 14] 15,J [z0,z0,e0] 8,W 3 8 15]<|
 q (.block 0 (r [L 3 4 17,L 3 8 18,bA (.mN false true [.i,.i,.s] (t 17) (t 18)) 19,M 19 20,LF 3 5 21 20,LF 3 8 22 20,⟨.mN false true [.i,.i,.s] (t 21) (t 22),(some 23),some (20,false)⟩,O 20 23 24,M 24 16]<|
 c 16 (r [L 3 8 25,W 3 6 25]<|
 .ret) (r [M 7 27,M 27 26]<|
 c 26 (r [gU [z0,z0,e0] [] 28,W 3 6 28]<|
 .ret) k)))<|
 r [M 0 29,D .eql 29 14 30,C 156 [t 30] 31,W 3 6 31]<|
 .ret):=bG Tryz.func158
def lj: Of aH 159 59 [.cell 6 true 3] (r [X 1 4,X 2 5,J [z0,z0,e0] 6]<|
 r [L 3 4 9,L 3 5 10,C 186 [t 9,t 10] 11,M 11 7]<|
 q (r [M 0 12]<|
 .block 0 (r [D .eql 12 8 14,M 14 13]<|
 c 13 (r [L 3 4 15,L 3 5 16,bA (.mN false true [.i,.i,.s] (t 15) (t 16)) 17,C 156 [t 17] 18,W 3 6 18]<|
 .ret) (r [D .eql 12 9 20,M 20 19]<|
 c 19 (r [L 3 4 21,L 3 5 22,bA (.mN true true [.i,.i,.s] (t 21) (t 22)) 23,C 156 [t 23] 24,W 3 6 24]<|
 .ret) k)))<|
 q (r [M 7 25,D .eql 25 3 26]<|
 c 26 (R [C 183 [gJ 14] 27]) k)<|
 gR [A 0 4 28,K 28 29,D .eql 29 0 30,M 30 31,AF 0 5 32 31,KF 32 33 31,DF .eql 33 0 34 31,O 31 34 35] 35 [gU [z0,z0,e0] [] 36,W 3 6 36]<|
 r [L 3 4 37,L 3 5 38,C 118 [t 37,t 38] 39,M 39 8]<|
 q (r [M 0 40]<|
 .block 1 (r [D .eql 40 10 42,M 42 41]<|
 c 41 (r [M 8 43,D .lss 43 0 44,C 156 [t 44] 45,W 3 6 45]<|
 .ret) (r [D .eql 40 11 47,M 47 46]<|
 c 46 (r [M 8 48,D .leq 48 0 49,C 156 [t 49] 50,W 3 6 50]<|
 .ret) (r [D .eql 40 12 52,M 52 51]<|
 c 51 (r [M 8 53,D .gtr 53 0 54,C 156 [t 54] 55,W 3 6 55]<|
 .ret) k))))<|
 r [M 8 56,D .geq 56 0 57,C 156 [t 57] 58,W 3 6 58]<|
 .ret):=bG Tryz.func159
def nD: Of aH 160 63 [] (r [V (i6 20) 6]<|
 r [M 6 10,V z0 7,M 10 8]<|
 q (gL 0 [M 8 11,M 1 12,B .leq 11 12 13] 13 ((
 .block 1 (r [M 0 14,M 7 15,M 8 16,M 2 17,C 187 [t 14,t 15,t 16,t 17] 18]<|
 r [M 8 19,M 19 7]<|
 R [M 8 20,M 6 21,B .add 20 21 22,M 22 8]))))<|
 r [M 0 23,M 7 24,M 1 25,M 2 26,C 187 [t 23,t 24,t 25,t 26] 27]<|
 gL 2 [M 6 28,M 1 29,B .lss 28 29 30] 30 ((
 .block 3 (r [M 6 31,bA (.bin .mul (gJ 2) (t 31)) 32,V z0 7,M 32 8]<|
 q (gL 4 [M 8 33,M 1 34,B .leq 33 34 35] 35 ((
 .block 5 (r [M 0 36,M 7 37,M 7 38,M 6 39,B .add 38 39 40,M 8 41,M 2 42,C 188 [t 36,t 37,t 40,t 41,t 42] 43]<|
 r [M 8 44,M 44 7]<|
 R [M 8 45,M 6 46,bA (.bin .mul (gJ 2) (t 46)) 47,B .add 45 47 48,M 48 8]))))<|
 q (r [M 7 49,M 6 50,B .add 49 50 51,M 51 9]<|
 r [M 9 52,M 1 53,B .lss 52 53 54]<|
 c 54 (R [M 0 55,M 7 56,M 9 57,M 1 58,M 2 59,C 188 [t 55,t 56,t 57,t 58,t 59] 60]) k)<|
 R [M 6 61,D .mul 61 2 62,M 62 6])))):=bG Tryz.func160
def Nz: Of aH 161 18 [.tmp 2] (r [V z0 2]<|
 r [V z0 3]<|
 q (r [M 0 6,N 6 7,V z0 8]<|
 .block 0 (.loop (r [B .lss 8 7 9]<|
 q (c 9 k (.exit 0))<|
 q (.block 1 (r [I false 1 6 8 10,K 10 11,M 11 5]<|
 r [M 5 12,M 3 13,B .neq 12 13 14]<|
 c 14 (r [M 5 15,M 15 2]<|
 .ret) k))<|
 R [D .add 8 1 16,M 16 8])))<|
 r [M 3 17,M 17 2]<|
 .ret):=bG Tryz.func161
def C4: Of aH 162 20 [.tmp 4] (r [V z0 4]<|
 r [M 0 7,C 189 [t 7] 8,M 8 5]<|
 r [M 1 9,C 189 [t 9] 10,M 10 6]<|
 q (r [M 5 11]<|
 c 11 (gR [M 6 12] 12 [V z0 4]<|
 r [V (i6 (-1)) 4]<|
 .ret) k)<|
 gR [M 6 13] 13 [V (i6 1) 4]<|
 gR [M 0 14,M 1 15,B .lss 14 15 16] 16 [V (i6 (-1)) 4]<|
 gR [M 0 17,M 1 18,B .gtr 17 18 19] 19 [V (i6 1) 4]<|
 r [V z0 4]<|
 .ret):=bG Tryz.func162
def IZ: Of aH 164 32 [.cell 2 true 3,.tmp 3] (r [J [z0,z0,e0] 2,V z0 3]<|
 gR [M 0 8,N 8 9,D .eql 9 0 10] 10 [gU [z0,z0,e0] [] 11,W 3 2 11,V z0 3]<|
 r [V z0 4]<|
 q (r [M 0 12,N 12 13,V z0 14]<|
 .block 0 (.loop (r [B .lss 14 13 15]<|
 q (c 15 k (.exit 0))<|
 q (.block 1 (r [I true 3 12 14 16,L 3 16 17,J [z0,z0,e0] 6,W 3 6 17]<|
 r [V z0 7]<|
 r [M 4 19,A 1 6 20,K 20 21,C 191 [t 19,t 21] 22,M 22 18,E 18 0 23,E 18 1 24,M 23 4,M 24 7]<|
 r [M 7 25,D .neq 25 0 26]<|
 c 26 (r [gU [z0,z0,e0] [] 27,M 7 28,W 3 2 27,M 28 3]<|
 .ret) k))<|
 R [D .add 14 1 29,M 29 14])))<|
 r [M 4 30,gU [z0,z0,e0] [(0,1,gJ 1),(1,1,t 30)] 31,W 3 2 31,V z0 3]<|
 .ret):=bG Tryz.func164
def yN: Of aH 165 33 [.cell 4 true 3] (r [J [z0,z0,e0] 4]<|
 q (r [M 0 7,N 7 8,D .lss 8 1 9]<|
 c 9 (R [bA (.vy 9 (gS [115,108,105,99,101,115,46,77,105,110,70,117,110,99,58,32,101,109,112,116,121,32,108,105,115,116])) 10,⟨.panic (t 10),none,none⟩]) k)<|
 r [M 0 11,gI true 3 11 0 12,L 3 12 13,J [z0,z0,e0] 5,W 3 5 13]<|
 q (r [V (i6 1) 6]<|
 gL 0 [M 6 14,M 0 15,N 15 16,B .lss 14 16 17] 17 ((
 q (.block 1 (q (.draw [M 1 20,M 0 21,M 6 22,I true 3 21 22 23,L 3 23 24,L 3 5 25,bA (.call true (t 20) [t 24,t 25]) 26,D .lss 26 0 27] [])<|
 c 27 (R [M 0 28,M 6 29,I true 3 28 29 30,L 3 30 31,W 3 5 31]) k))<|
 R [M 6 18,D .add 18 1 19,M 19 6])))<|
 r [L 3 5 32,W 3 4 32]<|
 .ret):=bG Tryz.func165
def yO: Of aH 166 33 [.cell 4 true 3] (r [J [z0,z0,e0] 4]<|
 q (r [M 0 7,N 7 8,D .lss 8 1 9]<|
 c 9 (R [bA (.vy 9 (gS [115,108,105,99,101,115,46,77,97,120,70,117,110,99,58,32,101,109,112,116,121,32,108,105,115,116])) 10,⟨.panic (t 10),none,none⟩]) k)<|
 r [M 0 11,gI true 3 11 0 12,L 3 12 13,J [z0,z0,e0] 5,W 3 5 13]<|
 q (r [V (i6 1) 6]<|
 gL 0 [M 6 14,M 0 15,N 15 16,B .lss 14 16 17] 17 ((
 q (.block 1 (q (.draw [M 1 20,M 0 21,M 6 22,I true 3 21 22 23,L 3 23 24,L 3 5 25,bA (.call true (t 20) [t 24,t 25]) 26,D .gtr 26 0 27] [])<|
 c 27 (R [M 0 28,M 6 29,I true 3 28 29 30,L 3 30 31,W 3 5 31]) k))<|
 R [M 6 18,D .add 18 1 19,M 19 6])))<|
 r [L 3 5 32,W 3 4 32]<|
 .ret):=bG Tryz.func166
def Hj: Of aH 167 6 [.tmp 2] (r [gF 2]<|
 r [M 0 3,M 0 4,B .neq 3 4 5,M 5 2]<|
 .ret):=bG Tryz.func167
def yg: Of aH 168 32 [.tmp 6] (r [gF 6]<|
 gR [M 0 10,N 10 11,M 1 12,N 12 13,B .neq 11 13 14] 14 [gF 6]<|
 q (r [M 0 15,N 15 16,V z0 17]<|
 .block 0 (.loop (r [B .lss 17 16 18]<|
 q (c 18 k (.exit 0))<|
 q (.block 1 (r [M 17 19,I true 6 15 17 20,L 6 20 21,J [z0,z0,z0,e0,e0,.aA] 8,M 19 7,W 6 8 21]<|
 r [M 1 22,M 7 23,I true 6 22 23 24,L 6 24 25,J [z0,z0,z0,e0,e0,.aA] 9,W 6 9 25]<|
 r [M 2 26,L 6 8 27,L 6 9 28,bA (.call false (t 26) [t 27,t 28]) 29,U 29 30]<|
 c 30 (r [gF 6]<|
 .ret) k))<|
 R [D .add 17 1 31,M 31 17])))<|
 r [gT 6]<|
 .ret):=bG Tryz.func168
def ve: Of aH 172 30 [.tmp 4,.tmp 5] (r [V z0 4,V .kj 5]<|
 r [M 0 7,C 133 [t 7] 8]<|
 r [M 0 9,Z 9 10,A 1 10 11,K 11 12,N 12 13,M 13 6]<|
 r [M 0 14,M 0 15,Z 15 16,A 1 16 17,K 17 18,M 1 19,C 193 [t 18,t 19] 20,Z 14 21,A 1 21 22,W 1 22 20]<|
 r [M 0 23,Z 23 24,A 1 24 25,K 25 26,N 26 27,M 6 28,B .sub 27 28 29,M 29 4,V .kj 5]<|
 .ret):=bG Tryz.func172
def Ky: Of aH 174 8 [.tmp 3] (r [X 0 2,gF 3]<|
 r [A 0 2 4,K 4 5,K 1 6,B .eql 5 6 7,M 7 3]<|
 .ret):=bG Tryz.func174
def Rw: Of aH 175 32 [.cell 2 true 5,.tmp 3] (r [J [z0,e0,z0,z0,z0] 2,V z0 3]<|
 q (r [M 0 5,bA (.nR (t 5) (.c z0)) 6,M 6 4]<|
 .block 0 (r [M 4 8,C 123 [t 8] 9,M 9 7]<|
 c 7 (r [M 0 10,C 194 [t 10] 11,E 11 0 12,E 11 1 13,W 5 2 12,M 13 3]<|
 .ret) (r [M 4 15,C 126 [t 15] 16,M 16 14]<|
 c 14 (r [M 0 17,C 195 [t 17] 18,E 18 0 19,E 18 1 20,W 5 2 19,M 20 3]<|
 .ret) (r [M 4 22,bA (.bin .eql (t 22) (.c (.int .u8 34))) 23,M 23 21]<|
 c 21 (r [M 0 24,C 196 [t 24] 25,E 25 0 26,E 25 1 27,W 5 2 26,M 27 3]<|
 .ret) k))))<|
 r [M 0 28,C 197 [t 28] 29,E 29 0 30,E 29 1 31,W 5 2 30,M 31 3]<|
 .ret):=bG Tryz.func175
def Rx: Of aH 176 34 [.tmp 2] (r [gF 2]<|
 r [M 0 3,N 3 4,D .gtr 4 1 5,M 5 6,MT 0 7 6,⟨.jT ⟨true,4⟩ none (t 7) (.c z0),(some 8),some (6,true)⟩,AT 0 8 9 6,KT 9 10 6,DT .eql 10 1 11 6,P 6 11 12,M 12 13,MT 0 14 13,⟨.jT ⟨true,4⟩ none (t 14) (.c z0),(some 15),some (13,true)⟩,AT 1 15 16 13,KT 16 17 13,⟨.bin .eql (t 17) (gS [110,111,116]),(some 18),some (13,true)⟩,P 13 18 19,M 19 20,MT 0 21 20,⟨.jT ⟨true,4⟩ none (t 21) (gJ 1),(some 22),some (20,true)⟩,AT 0 22 23 20,KT 23 24 20,DT .eql 24 4 25 20,P 20 25 26,M 26 27,MT 0 28 27,⟨.jT ⟨true,4⟩ none (t 28) (gJ 1),(some 29),some (27,true)⟩,AT 1 29 30 27,KT 30 31 27,⟨.bin .eql (t 31) (gS [40]),(some 32),some (27,true)⟩,P 27 32 33,M 33 2]<|
 .ret):=bG Tryz.func176
def C5: Of aH 177 51 [.cell 2 true 15] (r [J [z0,z0,z0,z0,e0,e0,.aA,z0,z0,z0,e0,e0,.aA,.bool false,.bool false] 2]<|
 q (r [V (i6 2) 3]<|
 gL 0 [M 3 5,D .leq 5 5 6] 6 ((
 q (.block 1 (r [M 0 9,M 3 10,C 89 [t 10] 11,C 178 [t 9,t 11] 12]<|
 c 12 (r [M 3 13,M 0 14,C 198 [t 14] 15,gU [z0,z0,z0,z0,e0,e0,.aA,z0,z0,z0,e0,e0,.aA,.bool false,.bool false] [(0,1,t 13),(1,6,t 15)] 16,W 15 2 16]<|
 .ret) k))<|
 R [M 3 7,D .add 7 1 8,M 8 3])))<|
 r [M 0 17,Z 17 18,A 0 18 19,C 144 [t 19] 20,bA (.bin .eql (t 20) (gS [93])) 21,gU [z0,z0,z0,z0,e0,e0,.aA,z0,z0,z0,e0,e0,.aA,.bool false,.bool false] [(0,1,gJ 6),(13,1,t 21)] 22,J [z0,z0,z0,z0,e0,e0,.aA,z0,z0,z0,e0,e0,.aA,.bool false,.bool false] 4,W 15 4 22]<|
 gR [M 0 23,C 178 [t 23,gS [91]] 24,U 24 25,M 25 26,MT 0 27 26,CT 178 [t 27,gS [93]] 28 26,UT 28 29 26,P 26 29 30] 30 [M 0 31,C 198 [t 31] 32,gU [z0,z0,z0,z0,e0,e0,.aA,z0,z0,z0,e0,e0,.aA,.bool false,.bool false] [(0,1,gJ 1),(1,6,t 32)] 33,W 15 2 33]<|
 r [M 0 34,C 198 [t 34] 35,A 1 4 36,W 6 36 35]<|
 r [M 0 37,C 179 [t 37,gS [46,46]] 38]<|
 r [M 0 39,C 198 [t 39] 40,A 7 4 41,W 6 41 40]<|
 q (r [M 0 42,C 178 [t 42,gS [91]] 43,A 14 4 44,W 1 44 43]<|
 r [A 14 4 45,K 45 46,U 46 47]<|
 c 47 (R [M 0 48,C 179 [t 48,gS [93]] 49]) k)<|
 r [L 15 4 50,W 15 2 50]<|
 .ret):=bG Tryz.func177
def FR: Of aH 178 26 [.tmp 4] (r [gF 4]<|
 gR [M 0 5,Z 5 6,A 2 6 7,K 7 8,M 8 9,MF 0 10 9,ZF 10 11 9,AF 0 11 12 9,CF 144 [t 12] 13 9,MF 1 14 9,BF .neq 13 14 15 9,O 9 15 16] 16 [gF 4]<|
 r [M 0 17,Z 17 18,A 0 18 19,A 1 19 20,K 20 21,D .add 21 1 22,Z 17 23,A 0 23 24,A 1 24 25,W 1 25 22]<|
 r [gT 4]<|
 .ret):=bG Tryz.func178
def C6: Of aH 179 11 [] (r [M 0 4,M 1 5,C 178 [t 4,t 5] 6,U 6 7]<|
 c 7 (R [M 0 8,Z 8 9,A 2 9 10,⟨.store 1 (t 10) (.c (.bool true)),none,none⟩]) k):=bG Tryz.func179
def fT: Of aH 180 71 [.cell 4 true 6] (r [J [z0,z0,z0,e0,e0,.aA] 4]<|
 .scope 0 (q (.block 0 (r [M 0 8,Z 8 9,A 2 9 10,K 10 11,M 11 7]<|
 c 7 (r [gU [z0,z0,z0,e0,e0,.aA] [] 12,W 6 4 12]<|
 .ret) (r [M 1 14,D .eql 14 0 15,M 15 16,MT 0 17 16,CT 199 [t 17,gJ 1,gS [105,102]] 18 16,P 16 18 19,M 19 13]<|
 c 13 (r [M 0 20,C 200 [t 20] 21,W 6 4 21]<|
 .ret) (r [M 1 23,D .eql 23 0 24,M 24 22]<|
 c 22 (r [M 0 25,C 180 [t 25,gJ 1] 26,W 6 4 26]<|
 .ret) (r [M 1 28,D .eql 28 6 29,M 29 30,MT 0 31 30,CT 199 [t 31,gJ 4,gS [45]] 32 30,P 30 32 33,M 33 27]<|
 c 27 (r [M 0 34,C 180 [t 34,gJ 6] 35,gB true 6 (.agg [z0,z0,z0,e0,e0,.aA]) 1 [(0,t 35)] 36,gU [z0,z0,z0,e0,e0,.aA] [(0,1,gJ 3),(5,1,t 36)] 37,W 6 4 37]<|
 .ret) (r [M 1 39,D .geq 39 6 40,M 40 38]<|
 c 38 (r [M 0 41,C 201 [t 41] 42,W 6 4 42]<|
 .ret) k))))))<|
 r [M 0 43,M 1 44,D .add 44 1 45,C 180 [t 43,t 45] 46,J [z0,z0,z0,e0,e0,.aA] 5,W 6 5 46]<|
 q (.label 0)<|
 r [M 0 47,M 1 48,C 202 [t 47,t 48] 49,M 49 6]<|
 gR [M 6 50,D .eql 50 0 51] 51 [L 6 5 52,W 6 4 52]<|
 q (.draw [M 6 53,L 6 5 54,M 0 55,M 1 56,D .add 56 1 57,bA (.sD (.c (.fn (.func 180) [] [])) [t 55,t 57]) 58,gB true 6 (.agg [z0,z0,z0,e0,e0,.aA]) 2 [(0,t 54),(1,t 58)] 59,gU [z0,z0,z0,e0,e0,.aA] [(0,1,t 53),(5,1,t 59)] 60,W 6 5 60] [(t 5,t 55)])<|
 q (r [M 1 61,D .neq 61 3 62,M 62 63,MT 0 64 63,ZT 64 65 63,AT 2 65 66 63,KT 66 67 63,UT 67 68 63,P 63 68 69]<|
 c 69 (.goto 0) k)<|
 r [L 6 5 70,W 6 4 70]<|
 .ret) (.seq k <|
 r [M 0 47,M 1 48,C 202 [t 47,t 48] 49,M 49 6]<|
 gR [M 6 50,D .eql 50 0 51] 51 [L 6 5 52,W 6 4 52]<|
 q (.draw [M 6 53,L 6 5 54,M 0 55,M 1 56,D .add 56 1 57,bA (.sD (.c (.fn (.func 180) [] [])) [t 55,t 57]) 58,gB true 6 (.agg [z0,z0,z0,e0,e0,.aA]) 2 [(0,t 54),(1,t 58)] 59,gU [z0,z0,z0,e0,e0,.aA] [(0,1,t 53),(5,1,t 59)] 60,W 6 5 60] [(t 5,t 55)])<|
 q (r [M 1 61,D .neq 61 3 62,M 62 63,MT 0 64 63,ZT 64 65 63,AT 2 65 66 63,KT 66 67 63,UT 67 68 63,P 63 68 69]<|
 c 69 (.goto 0) k)<|
 r [L 6 5 70,W 6 4 70]<|
 .ret)):=rE ⟨[],[],[],[],[58],[]⟩ Tryz.func180
def vf: Of aH 181 82 [.tmp 4,.tmp 5] (r [V z0 4,gF 5]<|
 q (r [M 0 7]<|
 .block 0 (q (r [D .eql 7 3 9,M 9 8]<|
 c 8 k (r [D .eql 7 5 10,M 10 8]<|
 c 8 k (r [D .eql 7 6 11,M 11 8]<|
 c 8 k (R [D .eql 7 7 12,M 12 8]))))<|
 c 8 (r [M 1 13,C 203 [gJ 1,t 13] 14,V (i6 1) 4,M 14 5]<|
 .ret) (r [D .eql 7 4 16,M 16 15]<|
 c 15 (q (.draw [M 1 17,gI false 1 17 0 18,K 18 19,M 1 20,gI false 1 20 1 21,K 21 22,Q 204 [t 19,t 22] 23,M 23 6] [])<|
 q (r [M 6 24,D .neq 24 2 25]<|
 c 25 (R [V (i6 1) 6]) k)<|
 r [M 6 26,M 6 27,M 1 28,C 203 [t 27,t 28] 29,M 26 4,M 29 5]<|
 .ret) (q (r [D .eql 7 8 31,M 31 30]<|
 c 30 k (R [D .eql 7 9 32,M 32 30]))<|
 c 30 (q (.draw [M 1 33,gI false 1 33 0 34,K 34 35,M 1 36,gI false 1 36 1 37,K 37 38,Q 110 [t 35,t 38] 39,V (i6 3) 4,M 39 5] [])<|
 .ret) (q (r [D .eql 7 10 41,M 41 40]<|
 c 40 k (r [D .eql 7 11 42,M 42 40]<|
 c 40 k (r [D .eql 7 12 43,M 43 40]<|
 c 40 k (R [D .eql 7 13 44,M 44 40]))))<|
 c 40 (q (.draw [M 1 45,gI false 1 45 0 46,K 46 47,M 1 48,gI false 1 48 1 49,K 49 50,Q 110 [t 47,t 50] 51,M 51 52,MT 1 53 52,QT 205 [t 53,gJ 3] 54 52,UT 54 55 52,P 52 55 56,V (i6 3) 4,M 56 5] [])<|
 .ret) (q (r [D .eql 7 14 58,M 58 57]<|
 c 57 k (R [D .eql 7 15 59,M 59 57]))<|
 c 57 (r [M 1 60,C 203 [gJ 3,t 60] 61,V (i6 3) 4,M 61 5]<|
 .ret) k))))))<|
 q (.draw [M 1 62,gI false 1 62 1 63,K 63 64,M 1 65,gI false 1 65 2 66,K 66 67,Q 204 [t 64,t 67] 68,M 1 69,gI false 1 69 0 70,K 70 71,Q 110 [t 71,gJ 3] 72,M 72 73,MT 1 74 73,⟨.jT ⟨false,1⟩ none (t 74) (gJ 1),(some 75),some (73,true)⟩,KT 75 76 73,MT 1 77 73,⟨.jT ⟨false,1⟩ none (t 77) (gJ 2),(some 78),some (73,true)⟩,KT 78 79 73,QT 110 [t 76,t 79] 80 73,P 73 80 81,M 68 4,M 81 5] [])<|
 .ret):=bG Tryz.func181
def Az: Of aH 182 77 [.tmp 6] (r [X 0 3,X 1 4,gF 6]<|
 q (r [A 0 3 9,K 9 10,D .eql 10 1 11]<|
 c 11 (q (.draw [L 3 4 12,M 2 13,gI true 3 13 0 14,L 3 14 15,bA (.mN false true [.i,.i,.s] (t 12) (t 15)) 16,M 16 6] [])<|
 .ret) k)<|
 gR [A 0 4 17,K 17 18,D .eql 18 0 19,M 19 20,MF 2 21 20,⟨.build [z0,z0,e0] [],(some 22),some (20,false)⟩,CF 206 [t 21,t 22] 23 20,O 20 23 24] 24 [gF 6]<|
 q (.draw [L 3 4 25,M 2 26,gI true 3 26 0 27,L 3 27 28,Q 118 [t 25,t 28] 29,M 29 7] [])<|
 q (r [A 0 3 30,K 30 31]<|
 .block 0 (r [D .eql 31 2 33,M 33 32]<|
 c 32 (r [M 7 34,D .lss 34 0 35,M 35 6]<|
 .ret) (r [D .eql 31 3 37,M 37 36]<|
 c 36 (r [M 7 38,D .leq 38 0 39,M 39 6]<|
 .ret) (r [D .eql 31 4 41,M 41 40]<|
 c 40 (r [M 7 42,D .gtr 42 0 43,M 43 6]<|
 .ret) (r [D .eql 31 5 45,M 45 44]<|
 c 44 (r [M 7 46,D .geq 46 0 47,M 47 6]<|
 .ret) k)))))<|
 q (.draw [L 3 4 48,M 2 49,gI true 3 49 1 50,L 3 50 51,Q 118 [t 48,t 51] 52,M 52 8] [])<|
 r [M 7 53,D .gtr 53 0 54,M 54 55,MF 7 56 55,DF .eql 56 0 57 55,MF 57 58 55,AT 13 3 59 58,KT 59 60 58,UT 60 61 58,PF 58 61 62 55,O 55 62 63,M 63 64,MT 8 65 64,DT .lss 65 0 66 64,MT 66 67 64,MF 8 68 67,DF .eql 68 0 69 67,MF 69 70 67,AT 14 3 71 70,KT 71 72 70,UT 72 73 70,PF 70 73 74 67,OT 67 74 75 64,P 64 75 76,M 76 6]<|
 .ret):=bG Tryz.func182
def CM: Of aH 183 6 [] (r [M 0 2,D .neq 2 0 3]<|
 c 3 (R [M 0 4,bA (.vy 29 (t 4)) 5,⟨.panic (t 5),none,none⟩]) k):=bG Tryz.func183
def DO: Of aH 184 16 [.cell 4 true 3] (r [J [z0,z0,e0] 4]<|
 q (r [M 0 5,S 5 6,M 1 7,S 7 8,B .add 6 8 9,D .gtr 9 40 10]<|
 c 10 (R [C 183 [gJ 5] 11]) k)<|
 r [M 0 12,M 1 13,B .add 12 13 14,gU [z0,z0,e0] [(0,1,gJ 2),(2,1,t 14)] 15,W 3 4 15]<|
 .ret):=bG Tryz.func184
def q_: Of aH 185 38 [.cell 6 true 3] (r [J [z0,z0,e0] 6]<|
 q (r [M 0 7]<|
 .block 0 (r [D .eql 7 4 9,M 9 8]<|
 c 8 (r [M 1 10,M 2 11,C 191 [t 10,t 11] 12,E 12 0 13,E 12 1 14,C 154 [t 13,t 14] 15,W 3 6 15]<|
 .ret) (r [D .eql 7 5 17,M 17 16]<|
 c 16 (r [M 1 18,M 2 19,C 155 [t 18,t 19] 20,E 20 0 21,E 20 1 22,C 154 [t 21,t 22] 23,W 3 6 23]<|
 .ret) (r [D .eql 7 6 25,M 25 24]<|
 c 24 (r [M 1 26,M 2 27,C 207 [t 26,t 27] 28,E 28 0 29,E 28 1 30,C 154 [t 29,t 30] 31,W 3 6 31]<|
 .ret) k))))<|
 r [M 1 32,M 2 33,C 208 [t 32,t 33] 34,E 34 0 35,E 34 1 36,C 154 [t 35,t 36] 37,W 3 6 37]<|
 .ret):=bG Tryz.func185
def zK: Of aH 186 18 [.tmp 4] (r [X 0 2,X 1 3,V z0 4]<|
 r [A 0 2 6,K 6 7,M 7 5]<|
 q (r [M 5 8,D .eql 8 0 9]<|
 c 9 (R [A 0 3 10,K 10 11,M 11 5]) k)<|
 r [M 5 12,L 3 2 13,L 3 3 14,gB true 3 (.agg [z0,z0,e0]) 2 [(0,t 13),(1,t 14)] 15,C 153 [t 12,t 15] 16]<|
 r [M 5 17,M 17 4]<|
 .ret):=bG Tryz.func186
def qu: Of aH 187 53 [] (r [M 1 10,D .add 10 1 11,M 11 8]<|
 gL 0 [M 8 12,M 2 13,B .lss 12 13 14] 14 ((
 q (.block 1 (r [M 8 17,M 17 9]<|
 .block 2 (.loop (q (q (.draw [M 9 18,M 1 19,B .gtr 18 19 20,M 20 21,MT 3 22 21,MT 0 23 21,MT 9 24 21,IT false 1 23 24 25 21,KT 25 26 21,MT 0 27 21,MT 9 28 21,DT .sub 28 1 29 21,IT false 1 27 29 30 21,KT 30 31 21,⟨.call true (t 22) [t 26,t 31],(some 32),some (21,true)⟩,DT .lss 32 0 33 21,P 21 33 34] [])<|
 c 34 k (.exit 2))<|
 q (.block 3 (.draw [M 0 37,M 9 38,M 0 39,M 9 40,D .sub 40 1 41,M 0 42,M 9 43,D .sub 43 1 44,I false 1 42 44 45,K 45 46,M 0 47,M 9 48,I false 1 47 48 49,K 49 50,I false 1 37 38 51,W 1 51 46,I false 1 39 41 52,W 1 52 50] []))<|
 R [M 9 35,D .sub 35 1 36,M 36 9]))))<|
 R [M 8 15,D .add 15 1 16,M 16 8]))):=bG Tryz.func187
def kq: Of aH 188 220 [] (q (r [M 2 25,M 1 26,B .sub 25 26 27,D .eql 27 1 28]<|
 c 28 (r [M 2 29,M 29 10]<|
 r [M 3 30,M 30 11]<|
 q (gL 0 [M 10 31,M 11 32,B .lss 31 32 33] 33 ((
 .block 1 (r [M 10 34,M 11 35,B .add 34 35 36,bA (.ko .u64 (t 36)) 37,bA (.bin .shr (t 37) (.c (.int .u64 1))) 38,bA (.ko .i64 (t 38)) 39,M 39 12]<|
 q (.draw [M 4 40,M 0 41,M 12 42,I false 1 41 42 43,K 43 44,M 0 45,M 1 46,I false 1 45 46 47,K 47 48,bA (.call true (t 40) [t 44,t 48]) 49,D .lss 49 0 50] [])<|
 c 50 (R [M 12 51,D .add 51 1 52,M 52 10]) (R [M 12 53,M 53 11])))))<|
 q (r [M 1 54,M 54 13]<|
 gL 2 [M 13 55,M 10 56,D .sub 56 1 57,B .lss 55 57 58] 58 ((
 q (.block 3 (.draw [M 0 61,M 13 62,M 0 63,M 13 64,D .add 64 1 65,M 0 66,M 13 67,D .add 67 1 68,I false 1 66 68 69,K 69 70,M 0 71,M 13 72,I false 1 71 72 73,K 73 74,I false 1 61 62 75,W 1 75 70,I false 1 63 65 76,W 1 76 74] []))<|
 R [M 13 59,D .add 59 1 60,M 60 13])))<|
 .ret) k)<|
 q (r [M 3 77,M 2 78,B .sub 77 78 79,D .eql 79 1 80]<|
 c 80 (r [M 1 81,M 81 14]<|
 r [M 2 82,M 82 15]<|
 q (gL 4 [M 14 83,M 15 84,B .lss 83 84 85] 85 ((
 .block 5 (r [M 14 86,M 15 87,B .add 86 87 88,bA (.ko .u64 (t 88)) 89,bA (.bin .shr (t 89) (.c (.int .u64 1))) 90,bA (.ko .i64 (t 90)) 91,M 91 16]<|
 q (.draw [M 4 92,M 0 93,M 2 94,I false 1 93 94 95,K 95 96,M 0 97,M 16 98,I false 1 97 98 99,K 99 100,bA (.call true (t 92) [t 96,t 100]) 101,D .lss 101 0 102,U 102 103] [])<|
 c 103 (R [M 16 104,D .add 104 1 105,M 105 14]) (R [M 16 106,M 106 15])))))<|
 q (r [M 2 107,M 107 17]<|
 gL 6 [M 17 108,M 14 109,B .gtr 108 109 110] 110 ((
 q (.block 7 (.draw [M 0 113,M 17 114,M 0 115,M 17 116,D .sub 116 1 117,M 0 118,M 17 119,D .sub 119 1 120,I false 1 118 120 121,K 121 122,M 0 123,M 17 124,I false 1 123 124 125,K 125 126,I false 1 113 114 127,W 1 127 122,I false 1 115 117 128,W 1 128 126] []))<|
 R [M 17 111,D .sub 111 1 112,M 112 17])))<|
 .ret) k)<|
 r [M 1 129,M 3 130,B .add 129 130 131,bA (.ko .u64 (t 131)) 132,bA (.bin .shr (t 132) (.c (.int .u64 1))) 133,bA (.ko .i64 (t 133)) 134,M 134 18]<|
 r [M 18 135,M 2 136,B .add 135 136 137,M 137 19]<|
 r [V z0 20,V z0 21]<|
 q (r [M 2 138,M 18 139,B .gtr 138 139 140]<|
 c 140 (r [M 19 141,M 3 142,B .sub 141 142 143,M 143 20]<|
 R [M 18 144,M 144 21]) (r [M 1 145,M 145 20]<|
 R [M 2 146,M 146 21]))<|
 r [M 19 147,D .sub 147 1 148,M 148 22]<|
 q (gL 8 [M 20 149,M 21 150,B .lss 149 150 151] 151 ((
 .block 9 (r [M 20 152,M 21 153,B .add 152 153 154,bA (.ko .u64 (t 154)) 155,bA (.bin .shr (t 155) (.c (.int .u64 1))) 156,bA (.ko .i64 (t 156)) 157,M 157 23]<|
 q (.draw [M 4 158,M 0 159,M 22 160,M 23 161,B .sub 160 161 162,I false 1 159 162 163,K 163 164,M 0 165,M 23 166,I false 1 165 166 167,K 167 168,bA (.call true (t 158) [t 164,t 168]) 169,D .lss 169 0 170,U 170 171] [])<|
 c 171 (R [M 23 172,D .add 172 1 173,M 173 20]) (R [M 23 174,M 174 21])))))<|
 r [M 19 175,M 20 176,B .sub 175 176 177,M 177 24]<|
 q (r [M 20 178,M 2 179,B .lss 178 179 180,M 180 181,MT 2 182 181,MT 24 183 181,BT .lss 182 183 184 181,P 181 184 185]<|
 c 185 (R [M 0 186,M 20 187,M 2 188,M 24 189,M 4 190,C 209 [t 186,t 187,t 188,t 189,t 190] 191]) k)<|
 q (r [M 1 192,M 20 193,B .lss 192 193 194,M 194 195,MT 20 196 195,MT 18 197 195,BT .lss 196 197 198 195,P 195 198 199]<|
 c 199 (R [M 0 200,M 1 201,M 20 202,M 18 203,M 4 204,C 188 [t 200,t 201,t 202,t 203,t 204] 205]) k)<|
 r [M 18 206,M 24 207,B .lss 206 207 208,M 208 209,MT 24 210 209,MT 3 211 209,BT .lss 210 211 212 209,P 209 212 213]<|
 c 213 (R [M 0 214,M 18 215,M 24 216,M 3 217,M 4 218,C 188 [t 214,t 215,t 216,t 217,t 218] 219]) k):=bG Tryz.func188
def FT: Of aH 189 6 [.tmp 2] (r [gF 2]<|
 r [M 0 3,M 0 4,B .neq 3 4 5,M 5 2]<|
 .ret):=bG Tryz.func189
def zL: Of aH 191 21 [.tmp 4,.tmp 5] (r [V z0 4,V z0 5]<|
 r [M 0 7,M 1 8,B .add 7 8 9,M 9 6]<|
 gR [M 6 10,M 0 11,B .gtr 10 11 12,M 1 13,D .gtr 13 0 14,bA (.mN true false [.b] (t 12) (t 14)) 15,M 15 16,MT 1 17 16,DT .neq 17 0 18 16,P 16 18 19] 19 [V z0 4,V (i6 15) 5]<|
 r [M 6 20,M 20 4,V z0 5]<|
 .ret):=bG Tryz.func191
def wH: Of aH 193 16 [.tmp 4] (r [V .aA 4]<|
 gR [M 1 5,bA (.ko .u32 (t 5)) 6,bA (.bin .leq (t 6) (.c (.int .u32 127))) 7] 7 [M 0 8,M 1 9,bA (.ko .u8 (t 9)) 10,gB false 1 (.int .u8 0) 1 [(0,t 10)] 11,bA (.app (some 5) ⟨false,1⟩ (t 8) (t 11)) 12,M 12 4]<|
 r [M 0 13,M 1 14,C 215 [t 13,t 14] 15,M 15 4]<|
 .ret):=rE ⟨[],[],[],[12],[],[]⟩ Tryz.func193
def Ry: Of aH 194 16 [.cell 2 true 5,.tmp 3] (r [J [z0,e0,z0,z0,z0] 2,V z0 3]<|
 r [M 0 5,C 79 [t 5] 6,M 6 4]<|
 gR [M 4 7,D .gtr 7 16 8] 8 [gU [z0,e0,z0,z0,z0] [] 9,W 5 2 9,V (i6 5) 3]<|
 r [M 0 10,M 4 11,bA (.uK (t 10) none (some (t 11))) 12,gU [z0,e0,z0,z0] [(0,1,gJ 1),(1,1,t 12)] 13,M 4 14,gU [z0,e0,z0,z0,z0] [(0,4,t 13),(4,1,t 14)] 15,W 5 2 15,V z0 3]<|
 .ret):=bG Tryz.func194
