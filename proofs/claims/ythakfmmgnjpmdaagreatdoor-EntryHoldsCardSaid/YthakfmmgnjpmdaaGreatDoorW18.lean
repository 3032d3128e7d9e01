/- Part. -/
import Derived.Test.YthakfmmgnjpmdaaGreatDoorW17
import Derived.KernelRfl
set_option linter.all false
namespace Go.Proofs.YthakfmmgnjpmdaaGreatDoor
open Go.AM Go.AM.W
set_option maxRecDepth 10000
def NA: Of aH 195 42 [.cell 2 true 5,.tmp 3] (r [J [z0,e0,z0,z0,z0] 2,V z0 3]<|
 r [M 0 8,C 124 [t 8,(.c (.fn (.func 126) [] []))] 9,M 9 4]<|
 gR [M 4 10,D .gtr 10 1 11,M 11 12,MT 0 13 12,⟨.nR (t 13) (.c z0),(some 14),some (12,true)⟩,⟨.bin .eql (t 14) (.c (.int .u8 48)),(some 15),some (12,true)⟩,P 12 15 16] 16 [gU [z0,e0,z0,z0,z0] [] 17,W 5 2 17,V (i6 11) 3]<|
 r [V z0 5]<|
 q (r [M 4 18,V z0 19]<|
 .block 0 (.loop (r [B .lss 19 18 20]<|
 q (c 20 k (.exit 0))<|
 q (.block 1 (r [M 19 21,M 21 6]<|
 r [M 0 22,M 6 23,bA (.nR (t 22) (t 23)) 24,bA (.bin .sub (t 24) (.c (.int .u8 48))) 25,bA (.ko .i64 (t 25)) 26,M 26 7]<|
 gR [M 5 27,M 7 28,bA (.bin .sub (gJ 9223372036854775807) (t 28)) 29,D .quo 29 10 30,B .gtr 27 30 31] 31 [gU [z0,e0,z0,z0,z0] [] 32,W 5 2 32,V (i6 15) 3]<|
 R [M 5 33,D .mul 33 10 34,M 7 35,B .add 34 35 36,M 36 5]))<|
 R [D .add 19 1 37,M 37 19])))<|
 r [M 5 38,gU [z0,e0,z0,z0] [(0,1,gJ 2),(2,1,t 38)] 39,M 4 40,gU [z0,e0,z0,z0,z0] [(0,4,t 39),(4,1,t 40)] 41,W 5 2 41,V z0 3]<|
 .ret):=bG Tryz.func195
def Rz: Of aH 196 71 [.cell 2 true 5,.tmp 3] (r [J [z0,e0,z0,z0,z0] 2,V z0 3]<|
 r [bA (.kK ⟨false,1⟩) 4]<|
 q (r [V (i6 1) 5]<|
 gL 0 [M 5 7,M 0 8,S 8 9,B .lss 7 9 10] 10 ((
 q (.block 1 (r [M 0 13,M 5 14,bA (.nR (t 13) (t 14)) 15,M 15 6]<|
 q (.block 2 (r [M 6 17,bA (.bin .eql (t 17) (.c (.int .u8 34))) 18,M 18 19,MT 4 20 19,NT 20 21 19,DT .gtr 21 40 22 19,P 19 22 23,M 23 16]<|
 c 16 (r [gU [z0,e0,z0,z0,z0] [] 24,W 5 2 24,V (i6 5) 3]<|
 .ret) (r [M 6 26,bA (.bin .eql (t 26) (.c (.int .u8 34))) 27,M 27 25]<|
 c 25 (r [M 4 28,bA (.C9 (t 28)) 29,gU [z0,e0,z0,z0] [(0,1,gJ 3),(1,1,t 29)] 30,M 5 31,D .add 31 1 32,gU [z0,e0,z0,z0,z0] [(0,4,t 30),(4,1,t 32)] 33,W 5 2 33,V z0 3]<|
 .ret) (r [M 6 35,bA (.bin .eql (t 35) (.c (.int .u8 92))) 36,M 36 34]<|
 c 34 (r [M 5 37,D .add 37 1 38,M 38 5]<|
 r [M 5 39,M 0 40,S 40 41,B .eql 39 41 42,M 42 43,MF 0 44 43,MF 5 45 43,⟨.nR (t 44) (t 45),(some 46),some (43,false)⟩,⟨.bin .neq (t 46) (.c (.int .u8 34)),(some 47),some (43,false)⟩,MF 47 48 43,MT 0 49 48,MT 5 50 48,⟨.nR (t 49) (t 50),(some 51),some (48,true)⟩,⟨.bin .neq (t 51) (.c (.int .u8 92)),(some 52),some (48,true)⟩,PF 48 52 53 43,O 43 53 54]<|
 c 54 (r [gU [z0,e0,z0,z0,z0] [] 55,W 5 2 55,V (i6 11) 3]<|
 .ret) k) (r [M 6 57,bA (.bin .lss (t 57) (.c (.int .u8 32))) 58,M 58 59,MF 6 60 59,⟨.bin .gtr (t 60) (.c (.int .u8 126)),(some 61),some (59,false)⟩,O 59 61 62,M 62 56]<|
 c 56 (r [gU [z0,e0,z0,z0,z0] [] 63,W 5 2 63,V (i6 11) 3]<|
 .ret) k)))))<|
 R [M 4 64,M 0 65,M 5 66,bA (.nR (t 65) (t 66)) 67,gB false 1 (.int .u8 0) 1 [(0,t 67)] 68,gA false 1 64 68 69,M 69 4]))<|
 R [M 5 11,D .add 11 1 12,M 12 5])))<|
 r [gU [z0,e0,z0,z0,z0] [] 70,W 5 2 70,V (i6 11) 3]<|
 .ret):=rE ⟨[],[],[(4,⟨false,1⟩)],[],[],[]⟩ Tryz.func196
def F8: Of aH 197 24 [.cell 2 true 5,.tmp 3] (r [X 0 1,J [z0,e0,z0,z0,z0] 2,V z0 3]<|
 r [C 216 [] 6,M 6 4]<|
 r [M 4 7,bA (.rH (.func 218) [] [t 1]) 8,C 217 [t 7,t 8] 9,M 9 5]<|
 gR [M 5 10,D .lss 10 0 11] 11 [gU [z0,e0,z0,z0,z0] [] 12,W 5 2 12,V (i6 11) 3]<|
 q (.draw [M 4 13,M 5 14,I false 1 13 14 15,K 15 16,gU [z0,e0,z0,z0] [(0,1,gJ 4),(1,1,t 16)] 17,M 4 18,M 5 19,I false 1 18 19 20,K 20 21,S 21 22,gU [z0,e0,z0,z0,z0] [(0,4,t 17),(4,1,t 22)] 23,W 5 2 23,V z0 3] [])<|
 .ret):=bG Tryz.func197
def uQ: Of aH 198 37 [.cell 2 true 6] (r [J [z0,z0,z0,e0,e0,.aA] 2]<|
 gR [M 0 6,Z 6 7,A 2 7 8,K 8 9] 9 [gU [z0,z0,z0,e0,e0,.aA] [] 10,W 6 2 10]<|
 q (.draw [M 0 12,Z 12 13,A 0 13 14,A 0 14 15,K 15 16,M 0 17,Z 17 18,A 0 18 19,A 1 19 20,K 20 21,Q 148 [t 16,t 21,gJ 4] 22,M 22 11,E 11 0 23,E 11 1 24,E 11 2 25,J [z0,z0,z0,e0,e0,.aA] 3,W 6 3 23,M 24 4,M 25 5] [])<|
 r [M 0 26,M 0 27,M 4 28,M 5 29,D .neq 29 0 30,Z 26 31,A 0 31 32,A 1 32 33,W 1 33 28,Z 27 34,A 2 34 35,W 1 35 30]<|
 r [L 6 3 36,W 6 2 36]<|
 .ret):=bG Tryz.func198
def C7: Of aH 199 27 [.tmp 6] (r [gF 6]<|
 r [M 0 8,C 220 [t 8] 9,J [z0,e0,z0,z0] 7,W 4 7 9]<|
 gR [A 0 7 10,K 10 11,M 1 12,B .neq 11 12 13,M 13 14,AF 1 7 15 14,KF 15 16 14,MF 2 17 14,BF .neq 16 17 18 14,O 14 18 19] 19 [gF 6]<|
 r [M 0 20,Z 20 21,A 1 21 22,K 22 23,D .add 23 1 24,Z 20 25,A 1 25 26,W 1 26 24]<|
 r [gT 6]<|
 .ret):=bG Tryz.func199
def yP: Of aH 200 19 [.cell 2 true 6] (r [J [z0,z0,z0,e0,e0,.aA] 2]<|
 r [M 0 5,C 180 [t 5,.c z0] 6,J [z0,z0,z0,e0,e0,.aA] 3,W 6 3 6]<|
 r [M 0 7,C 221 [t 7,gJ 1,gS [116,104,101,110]] 8]<|
 r [M 0 9,C 180 [t 9,.c z0] 10,J [z0,z0,z0,e0,e0,.aA] 4,W 6 4 10]<|
 r [M 0 11,C 221 [t 11,gJ 1,gS [101,108,115,101]] 12]<|
 q (.draw [L 6 3 13,L 6 4 14,M 0 15,bA (.sD (.c (.fn (.func 180) [] [])) [t 15,.c z0]) 16,gB true 6 (.agg [z0,z0,z0,e0,e0,.aA]) 3 [(0,t 13),(1,t 14),(2,t 16)] 17,gU [z0,z0,z0,e0,e0,.aA] [(0,1,gJ 16),(5,1,t 17)] 18,W 6 2 18] [(t 3,t 15),(t 4,t 15)])<|
 .ret):=rE ⟨[],[],[],[],[16],[]⟩ Tryz.func200
def iG: Of aH 201 71 [.cell 2 true 6] (r [J [z0,z0,z0,e0,e0,.aA] 2]<|
 q (r [M 0 8,C 199 [t 8,gJ 4,gS [40]] 9]<|
 c 9 (r [M 0 10,C 180 [t 10,.c z0] 11,J [z0,z0,z0,e0,e0,.aA] 3,W 6 3 11]<|
 r [M 0 12,C 221 [t 12,gJ 4,gS [41]] 13]<|
 r [L 6 3 14,W 6 2 14]<|
 .ret) k)<|
 r [M 0 15,C 220 [t 15] 16,J [z0,e0,z0,z0] 4,W 4 4 16]<|
 r [gU [z0,z0,z0,e0,e0,.aA] [(0,1,gJ 1)] 17,J [z0,z0,z0,e0,e0,.aA] 5,W 6 5 17]<|
 q (r [A 0 4 18,K 18 19]<|
 .block 0 (r [D .eql 19 2 25,M 25 24]<|
 c 24 (R [A 2 4 26,K 26 27,gU [z0,z0,e0] [(0,1,gJ 1),(1,1,t 27)] 28,A 1 5 29,W 3 29 28]) (r [D .eql 19 3 31,M 31 30]<|
 c 30 (R [A 1 4 32,K 32 33,gU [z0,z0,e0] [(0,1,gJ 2),(2,1,t 33)] 34,A 1 5 35,W 3 35 34]) (r [D .eql 19 1 37,M 37 36]<|
 c 36 (r [A 1 4 39,K 39 40,C 222 [t 40] 41,M 41 38,E 38 0 42,E 38 1 43,J [z0,z0,e0] 6,W 3 6 42,M 43 7]<|
 q (r [M 7 44,U 44 45,M 45 46,AT 1 4 47 46,KT 47 48 46,CT 47 [t 48] 49 46,UT 49 50 46,P 46 50 51]<|
 c 51 (r [M 0 52,Z 52 53,A 2 53 54,⟨.store 1 (t 54) (.c (.bool true)),none,none⟩]<|
 r [gU [z0,z0,z0,e0,e0,.aA] [] 55,W 6 2 55]<|
 .ret) k)<|
 r [L 3 6 56,A 1 5 57,W 3 57 56]<|
 r [M 7 58,U 58 59]<|
 c 59 (R [A 1 4 60,K 60 61,gU [z0,z0,z0,e0,e0,.aA] [(0,1,gJ 2),(4,1,t 61)] 62,W 6 5 62]) k) (r [M 0 20,Z 20 21,A 2 21 22,⟨.store 1 (t 22) (.c (.bool true)),none,none⟩]<|
 r [gU [z0,z0,z0,e0,e0,.aA] [] 23,W 6 2 23]<|
 .ret)))))<|
 r [M 0 63,Z 63 64,A 1 64 65,K 65 66,D .add 66 1 67,Z 63 68,A 1 68 69,W 1 69 67]<|
 r [L 6 5 70,W 6 2 70]<|
 .ret):=bG Tryz.func201
def yQ: Of aH 202 31 [.tmp 4] (r [V z0 4]<|
 q (r [C 139 [] 8,N 8 9,V z0 10]<|
 .block 0 (.loop (r [B .lss 10 9 11]<|
 q (c 11 k (.exit 0))<|
 q (.block 1 (r [I true 3 8 10 12,L 3 12 13,J [z0,e0,z0] 6,W 3 6 13]<|
 r [V (i6 4) 7]<|
 q (r [A 2 6 14,K 14 15,D .lss 15 3 16]<|
 c 16 (R [V (i6 1) 7]) k)<|
 r [A 2 6 17,K 17 18,M 1 19,B .eql 18 19 20,M 20 21,MT 0 22 21,MT 7 23 21,AT 1 6 24 21,KT 24 25 21,CT 199 [t 22,t 23,t 25] 26 21,P 21 26 27]<|
 c 27 (r [A 0 6 28,K 28 29,M 29 4]<|
 .ret) k))<|
 R [D .add 10 1 30,M 30 10])))<|
 r [V z0 4]<|
 .ret):=bG Tryz.func202
def NB: Of aH 203 18 [.tmp 4] (r [gF 4]<|
 q (r [M 1 7,N 7 8,V z0 9]<|
 .block 0 (.loop (r [B .lss 9 8 10]<|
 q (c 10 k (.exit 0))<|
 q (.block 1 (r [I false 1 7 9 11,K 11 12,M 12 6]<|
 r [M 6 13,M 0 14,C 110 [t 13,t 14] 15,U 15 16]<|
 c 16 (r [gF 4]<|
 .ret) k))<|
 R [D .add 9 1 17,M 17 9])))<|
 r [gT 4]<|
 .ret):=bG Tryz.func203
def AA: Of aH 204 11 [.tmp 4] (r [V z0 4]<|
 r [V z0 5]<|
 gR [M 0 6,M 5 7,B .neq 6 7 8] 8 [M 0 9,M 9 4]<|
 r [M 1 10,M 10 4]<|
 .ret):=bG Tryz.func204
def yR: Of aH 205 9 [.tmp 4] (r [gF 4]<|
 r [M 0 5,M 1 6,C 223 [t 5,t 6] 7,D .geq 7 0 8,M 8 4]<|
 .ret):=bG Tryz.func205
def yh: Of aH 206 9 [.tmp 4] (r [X 1 3,gF 4]<|
 r [M 0 5,L 3 3 6,C 142 [t 5,t 6] 7,D .geq 7 0 8,M 8 4]<|
 .ret):=bG Tryz.func206
def vG: Of aH 207 38 [.tmp 4,.tmp 5] (r [V z0 4,V z0 5]<|
 r [M 0 11,C 225 [t 11] 12,M 1 13,C 225 [t 13] 14,C 224 [t 12,t 14] 15,M 15 10,E 10 0 16,E 10 1 17,M 16 6,M 17 7]<|
 r [V (.int .u64 9223372036854775807) 8]<|
 r [M 0 18,D .lss 18 0 19,M 1 20,D .lss 20 0 21,bA (.mN true false [.b] (t 19) (t 21)) 22,M 22 9]<|
 q (r [M 9 23]<|
 c 23 (R [M 8 24,bA (.bin .add (t 24) (.c (.int .u64 1))) 25,M 25 8]) k)<|
 gR [M 6 26,bA (.bin .neq (t 26) (.c (.int .u64 0))) 27,M 27 28,MF 7 29 28,MF 8 30 28,BF .gtr 29 30 31 28,O 28 31 32] 32 [V z0 4,V (i6 15) 5]<|
 q (r [M 9 33]<|
 c 33 (R [M 7 34,bA (.un .neg (t 34)) 35,M 35 7]) k)<|
 r [M 7 36,bA (.ko .i64 (t 36)) 37,M 37 4,V z0 5]<|
 .ret):=bG Tryz.func207
def zM: Of aH 208 19 [.tmp 4,.tmp 5] (r [V z0 4,V z0 5]<|
 q (.block 0 (r [M 1 7,D .eql 7 0 8,M 8 6]<|
 c 6 (r [V z0 4,V (i6 16) 5]<|
 .ret) (r [M 0 10,D .eql 10 (-9223372036854775808) 11,M 11 12,MT 1 13 12,DT .eql 13 (-1) 14 12,P 12 14 15,M 15 9]<|
 c 9 (r [V z0 4,V (i6 15) 5]<|
 .ret) k)))<|
 r [M 0 16,M 1 17,B .quo 16 17 18,M 18 4,V z0 5]<|
 .ret):=bG Tryz.func208
def tW: Of aH 209 58 [] (r [M 2 12,M 1 13,B .sub 12 13 14,M 14 10]<|
 r [M 3 15,M 2 16,B .sub 15 16 17,M 17 11]<|
 q (gL 0 [M 10 18,M 11 19,B .neq 18 19 20] 20 ((
 .block 1 (r [M 10 21,M 11 22,B .gtr 21 22 23]<|
 c 23 (r [M 0 24,M 2 25,M 10 26,B .sub 25 26 27,M 2 28,M 11 29,M 4 30,C 226 [t 24,t 27,t 28,t 29,t 30] 31]<|
 R [M 10 32,M 11 33,B .sub 32 33 34,M 34 10]) (r [M 0 35,M 2 36,M 10 37,B .sub 36 37 38,M 2 39,M 11 40,B .add 39 40 41,M 10 42,B .sub 41 42 43,M 10 44,M 4 45,C 226 [t 35,t 38,t 43,t 44,t 45] 46]<|
 R [M 11 47,M 10 48,B .sub 47 48 49,M 49 11])))))<|
 R [M 0 50,M 2 51,M 10 52,B .sub 51 52 53,M 2 54,M 10 55,M 4 56,C 226 [t 50,t 53,t 54,t 55,t 56] 57]):=bG Tryz.func209
def Pa: Of aH 216 2 [.tmp 0] (r [V .aA 0]<|
 r [gB false 1 e0 16 [(0,gS [46,46]),(1,gS [33,61]),(2,gS [60,61]),(3,gS [62,61]),(4,gS [40]),(5,gS [41]),(6,gS [91]),(7,gS [93]),(8,gS [44]),(9,gS [43]),(10,gS [45]),(11,gS [42]),(12,gS [47]),(13,gS [61]),(14,gS [60]),(15,gS [62])] 1,M 1 0]<|
 .ret):=bG Tryz.func216
def wI: Of aH 217 19 [.tmp 4] (r [V z0 4]<|
 q (r [M 0 6,N 6 7,V z0 8]<|
 .block 0 (.loop (r [B .lss 8 7 9]<|
 q (c 9 k (.exit 0))<|
 q (.block 1 (r [M 8 10,M 10 5]<|
 r [M 1 11,M 0 12,M 5 13,I false 1 12 13 14,K 14 15,bA (.call false (t 11) [t 15]) 16]<|
 c 16 (r [M 5 17,M 17 4]<|
 .ret) k))<|
 R [D .add 8 1 18,M 18 8])))<|
 r [V (i6 (-1)) 4]<|
 .ret):=bG Tryz.func217
def NC: Of aH 218 7 [.tmp 3] (r [gF 3]<|
 r [K 1 4,M 0 5,C 219 [t 4,t 5] 6,M 6 3]<|
 .ret):=bG Tryz.func218
def BJ: Of aH 219 8 [.tmp 4] (r [gF 4]<|
 r [M 0 5,M 1 6,C 232 [t 5,t 6] 7,M 7 4]<|
 .ret):=bG Tryz.func219
def BK: Of aH 220 30 [.cell 2 true 4] (r [J [z0,e0,z0,z0] 2]<|
 q (q (.draw [M 0 3,Z 3 4,A 2 4 5,K 5 6,M 6 7,MF 0 8 7,ZF 8 9 7,AF 1 9 10 7,KF 10 11 7,MF 0 12 7,ZF 12 13 7,AF 0 13 14 7,KF 14 15 7,NF 15 16 7,BF .geq 11 16 17 7,O 7 17 18] [])<|
 c 18 (r [gU [z0,e0,z0,z0] [] 19,W 4 2 19]<|
 .ret) k)<|
 q (.draw [M 0 20,Z 20 21,A 0 21 22,K 22 23,M 0 24,Z 24 25,A 1 25 26,K 26 27,I true 4 23 27 28,L 4 28 29,W 4 2 29] [])<|
 .ret):=bG Tryz.func220
def AB: Of aH 221 14 [] (r [M 0 6,M 1 7,M 2 8,C 199 [t 6,t 7,t 8] 9,U 9 10]<|
 c 10 (R [M 0 11,Z 11 12,A 2 12 13,⟨.store 1 (t 13) (.c (.bool true)),none,none⟩]) k):=bG Tryz.func221
def Kz: Of aH 222 15 [.cell 2 true 3,.tmp 3] (r [J [z0,z0,e0] 2,gF 3]<|
 q (r [M 0 4]<|
 .block 0 (r [bA (.bin .eql (t 4) (gS [110,117,108,108])) 6,M 6 5]<|
 c 5 (r [gU [z0,z0,e0] [] 7,W 3 2 7,gT 3]<|
 .ret) (r [bA (.bin .eql (t 4) (gS [102,97,108,115,101])) 9,M 9 8]<|
 c 8 (r [gU [z0,z0,e0] [(0,1,gJ 3)] 10,W 3 2 10,gT 3]<|
 .ret) (r [bA (.bin .eql (t 4) (gS [116,114,117,101])) 12,M 12 11]<|
 c 11 (r [gU [z0,z0,e0] [(0,1,gJ 3),(1,1,gJ 1)] 13,W 3 2 13,gT 3]<|
 .ret) k))))<|
 r [gU [z0,z0,e0] [] 14,W 3 2 14,gF 3]<|
 .ret):=bG Tryz.func222
def BL: Of aH 223 19 [.tmp 4] (r [V z0 4]<|
 q (r [M 0 6,N 6 7,V z0 8]<|
 .block 0 (.loop (r [B .lss 8 7 9]<|
 q (c 9 k (.exit 0))<|
 q (.block 1 (r [M 8 10,M 10 5]<|
 r [M 1 11,M 0 12,M 5 13,I false 1 12 13 14,K 14 15,B .eql 11 15 16]<|
 c 16 (r [M 5 17,M 17 4]<|
 .ret) k))<|
 R [D .add 8 1 18,M 18 8])))<|
 r [V (i6 (-1)) 4]<|
 .ret):=bG Tryz.func223
def DQ: Of aH 225 10 [.tmp 2] (r [V (.int .u64 0) 2]<|
 gR [M 0 3,D .lss 3 0 4] 4 [M 0 5,bA (.ko .u64 (t 5)) 6,bA (.un .neg (t 6)) 7,M 7 2]<|
 r [M 0 8,bA (.ko .u64 (t 8)) 9,M 9 2]<|
 .ret):=bG Tryz.func225
def rS: Of aH 226 38 [] (r [V z0 10]<|
 gL 0 [M 10 11,M 3 12,B .lss 11 12 13] 13 ((
 q (.block 1 (.draw [M 0 16,M 1 17,M 10 18,B .add 17 18 19,M 0 20,M 2 21,M 10 22,B .add 21 22 23,M 0 24,M 2 25,M 10 26,B .add 25 26 27,I false 1 24 27 28,K 28 29,M 0 30,M 1 31,M 10 32,B .add 31 32 33,I false 1 30 33 34,K 34 35,I false 1 16 19 36,W 1 36 29,I false 1 20 23 37,W 1 37 35] []))<|
 R [M 10 14,D .add 14 1 15,M 15 10]))):=bG Tryz.func226
def rT: Of aH 232 18 [.tmp 4] (r [gF 4]<|
 r [M 0 5,S 5 6,M 1 7,S 7 8,B .geq 6 8 9,M 9 10,MT 0 11 10,MT 1 12 10,ST 12 13 10,⟨.uK (t 11) none (some (t 13)),(some 14),some (10,true)⟩,MT 1 15 10,BT .eql 14 15 16 10,P 10 16 17,M 17 4]<|
 .ret):=bG Tryz.func232
end Go.Proofs.YthakfmmgnjpmdaaGreatDoor
namespace Go.AM
variable {P:Program}
def a_{p:Prop}(h:False:=by first|omega|(simp_all;done)|(simp_all;omega)): p:=h.elim
def at_{p:Prop}(h:p:=by simp (disch:=omega) only[qA,og,and_true,go_sem,Dx,OV,L3,Nat.reduceAdd,Nat.reduceBEq,↓reduceIte,Int.natCast_add,Int.cast_ofNat_Int]<;>(try trivial)<;>(try omega)<;>(try (repeat (first|trivial|(refine And.intro ?_ ?_)|(congr 1;omega))))): p:=h
def cZ{p:Prop}(h:p:=by repeat (first|exact acM _ _ _|refine acN rfl ?_|refine Z5 rfl ?_|(simp only[Xo,ZZ]))): p:=h
def DR{p:Prop}(h:p:=by first|exact bN.refl (by simp)|(repeat (first|exact bN.nil _|refine bN.cons ?_ ?_|exact View.aA _|exact View.refl _ (by simp)|exact View.weak _ _ _ (by simp)|exact View.cell _ _ rfl rfl (by simp)|refine View.fnL ?_ ?_|exact View.vec rfl (by simp) (by simp) (by simp)|refine View.Kc ?_|refine View.nV ?_))): p:=h
def bs_{K:AV->Prop}{xs:List AV}{m n:Nat}{s:List UInt8}(hk:K (.str s))(hx:xs=s.map fun b=>AV.int .u8 b.toNat)(hm:m=xs.length)(hn:n=xs.length): UN (some (.vec ⟨false,1⟩ xs)) m 0 n (.mk:Tg K):=UO s hx hm hn hk
def au {G K : Prop} (k : K) (h : K -> G := by
    first
    |(intro k;simp (disch:=omega) only[go_sem,aB,aC,aD];exact k)
    |(intro k;with_reducible refine ab7 ?_ k;first|omega|(simp;done)|(simp;omega)|assumption)
    |(intro k;with_reducible exact Z4 k)
    |(intro k;with_reducible exact bs_ k rfl (by simp) (by simp))
    |(intro k;with_reducible first|exact Al (by with_reducible_and_instances assumption) k|exact Fp (by with_reducible_and_instances assumption) k)):G:=h k
def gn_ {G K : Prop} (k : K) (h : K -> G := by
    first
    |(intro k;simp (disch:=omega) only[go_sem,aB,aC,aD];exact k)
    |(intro k;with_reducible refine ab7 ?_ k;first|omega|(simp;done)|(simp;omega)|assumption)
    |(intro k;with_reducible exact bs_ k rfl (by simp) (by simp))):G:=h k
def cc_{t:Bool}{T E p q:Prop}(h:p->T)(h':q->E)(hp:(t=true)=p)(hq:(t=false)=q): BA (.bool t) (.mk:Tg (T,E)):=by
 subst hp hq;exact acK h h'
def gk_{t b:Bool}{T E U p q:Prop}(h:p->T)(h':q->E)(hp:(t=b)=p)(hq:(t = !b)=q): nB (.bool t) b (.mk:Tg (T,E,U)):=by
 subst hp hq;exact ZS h h'
def aq {p q T E G : Prop} (h : p -> T) (h' : q -> E) (hg : (p -> T) -> (q -> E) -> G := by
    intro h h';with_reducible first|refine cc_ h h' ?_ ?_|refine gk_ h h' ?_ ?_
    all_goals
     (try simp only[decide_eq_true_eq,decide_eq_false_iff_not,beq_iff_eq,beq_eq_false_iff_ne,cy,Bool.not_eq_false',Bool.not_true,fX,Int.not_lt,Int.not_le,ne_eq,Int.ofNat_lt,Int.ofNat_le,not_true_eq_false,reduceCtorEq,Int.toNat_zero])
     exact rfl):G:=hg h h'
def eZ {n : FuncId} {args : List AV} {r : AV} {K G : Prop} (h : aM P n args r) (k : K) (hg : aM P n args r -> K -> G := by
    intro h k;with_reducible first|exact Al h k|exact Fp h k):G:=hg h k
def zd {n : FuncId} {args : List AV} {r : AV} {K G : Prop} (h : aM P n args r) (k : K) (hg : aM P n args r -> K -> G := by
    intro h k;with_reducible first|refine acO h ?_ k|refine acP h ?_ k
    exact DR):G:=hg h k
def F9 {n : FuncId} {args : List AV} {r : AV} {K G : Prop} (h : aM P n args r) (k : K) (hg : aM P n args r -> K -> G := by
    intro h k;with_reducible first|refine xG h ?_ ?_ k|refine acQ h ?_ ?_ k
    ·exact DR
    ·simp[AV.flat,AV.y9]):G:=hg h k
def da {f : FuncId} {off : Nat} {args cs ds : List AV} {r : AV} {K G : Prop} (h : dh P f off args cs ds r) (k : K) (hg : dh P f off args cs ds r -> K -> G := by
    intro h k;with_reducible first|exact Ke h rfl k|exact Kh h rfl k|exact Ki h rfl k):G:=hg h k
end Go.AM
namespace Go.Proofs.YthakfmmgnjpmdaaGreatDoor
open Go.AM
abbrev aO:=List UInt8
structure aL where
 kind:Int
 n:Int
 s:aO
deriving DecidableEq,Inhabited
structure Tok where
 kind:Int
 s:aO
 n:Int
 pos:Int
deriving DecidableEq,Inhabited
inductive Expr where
 | mk (op:Int) (v:aL) (s:aO) (l:List Expr)
instance:Inhabited Expr:=⟨.mk 0 ⟨0,0,[]⟩ [] []⟩
def Expr.op: Expr->Int | .mk op _ _ _=>op
def Expr.v: Expr->aL | .mk _ v _ _=>v
def Expr.s: Expr->aO | .mk _ _ s _=>s
def Expr.l: Expr->List Expr | .mk _ _ _ l=>l
structure Test where
 kind:Int
 a:Expr
 b:Expr
 lo:Bool
 hi:Bool
deriving Inhabited
structure Cell where
 any:Bool
 neg:Bool
 tests:List Test
deriving Inhabited
structure cN where
 name:aO
 kind:Int
 order:List aL
deriving Inhabited
structure iq where
 cells:List aO
 outs:List aO
deriving Inhabited
structure Table where
 name:aO
 ins:List cN
 outs:List cN
 bZ:Int
 agg:Int
 rules:List iq
deriving Inhabited
structure jn where
 cells:List Cell
 outs:List Expr
deriving Inhabited
structure Ready where
 table:Table
 lines:List jn
deriving Inhabited
abbrev I(n:Int): AV:= .int .i64 n
abbrev E1: El:=⟨false,1⟩
abbrev EV: El:=⟨true,3⟩
abbrev ET: El:=⟨true,4⟩
abbrev EX: El:=⟨true,6⟩
abbrev ES: El:=⟨true,15⟩
abbrev EC: El:=⟨true,3⟩
abbrev ER: El:=⟨true,2⟩
def bX(v:aL): AV:= .agg [I v.kind,I v.n,.str v.s]
def sJ(t:Tok): AV:= .agg [I t.kind,.str t.s,I t.n,I t.pos]
def gW(s:aO): AV:= .str s
def aT: Expr->AV
 | .mk op v s l=> .agg [I op,I v.kind,I v.n,.str v.s,.str s,.aN false EX (l.map aT)]
def dQ(l:List Expr): AV:= .aN false EX (l.map aT)
def dA(t:Test): AV:= .agg [I t.kind,I t.a.op,I t.a.v.kind,I t.a.v.n,.str t.a.v.s,.str t.a.s,dQ t.a.l,I t.b.op,I t.b.v.kind,I t.b.v.n,.str t.b.v.s,.str t.b.s,dQ t.b.l,.bool t.lo,.bool t.hi]
def jj(l:List Test): AV:= .aN false ES (l.map dA)
def dG(c:Cell): AV:= .agg [.bool c.any,.bool c.neg,jj c.tests]
def aW(l:List aL): AV:= .aN false EV (l.map bX)
def vH(l:List Tok): AV:= .aN false ET (l.map sJ)
def lC(l:List aO): AV:= .aN false E1 (l.map gW)
def ew(c:cN): AV:= .agg [.str c.name,I c.kind,aW c.order]
def bV(l:List cN): AV:= .aN false EC (l.map ew)
def ia(r:iq): AV:= .agg [lC r.cells,lC r.outs]
def fj(l:List iq): AV:= .aN false ER (l.map ia)
def ic(t:Table): List AV:=[.str t.name,bV t.ins,bV t.outs,I t.bZ,I t.agg,fj t.rules]
def dP(t:Table): AV:= .agg (ic t)
def vZ(l:List Cell): AV:= .aN false EC (l.map dG)
def m_(l:jn): AV:= .agg [vZ l.cells,dQ l.outs]
def o_(l:List jn): AV:= .aN false ER (l.map m_)
def kZ(r:Ready): AV:= .agg [.str r.table.name,bV r.table.ins,bV r.table.outs,I r.table.bZ,I r.table.agg,fj r.table.rules,o_ r.lines]
def bq(x:Expr): aT x = .agg [I x.op,I x.v.kind,I x.v.n,.str x.v.s,.str x.s,.aN false EX (x.l.map aT)]:=by
 cases x;simp only[aT];rfl
def Expr.ind{C:Expr->Prop}(h:∀ op v s l,(∀ y ∈ l,C y)->C (.mk op v s l)): ∀ x,C x
 | .mk op v s l=>h op v s l fun y _=>Expr.ind h y
attribute [go_sem] bq bX sJ dA dG ew ia ic dP m_ kZ gW dQ jj aW vH lC bV fj vZ o_
@[go_sem] def Expr.acd (op:Int) (v:aL) (s:aO) (l:List Expr):(Expr.mk op v s l).op=op:=_root_.id rfl
@[go_sem] def Expr.aeY (op:Int) (v:aL) (s:aO) (l:List Expr):(Expr.mk op v s l).v=v:=_root_.id rfl
@[go_sem] def Expr.aeZ (op:Int) (v:aL) (s:aO) (l:List Expr):(Expr.mk op v s l).s=s:=_root_.id rfl
@[go_sem] def Expr.ae0 (op:Int) (v:aL) (s:aO) (l:List Expr):(Expr.mk op v s l).l=l:=_root_.id rfl
def BM(v:aL): (bX v).dz=true:=rfl
def Hl(t:Tok): (sJ t).dz=true:=rfl
def gH(x:Expr): (aT x).dz=true:=by
 induction x using Expr.ind with
 | h op v s l ih =>
   simp only[aT,AV.dz,AV.cg,fH,Bool.and_true];rw[qB];intro a ha;obtain⟨y,hy,rfl⟩:=dW.1 ha;exact ih y hy
def rh(l:List Expr): (dQ l).dz=true:=by simp only[dQ,AV.dz];exact gV _ _ gH
def DS(t:Test): (dA t).dz=true:=by simp[dA,AV.dz,AV.cg,rh]
def xn(l:List Test): (jj l).dz=true:=by simp only[jj,AV.dz];exact gV _ _ DS
def ze(c:Cell): (dG c).dz=true:=by simp[dG,AV.dz,AV.cg,xn]
def s8(l:List aL): (aW l).dz=true:=by simp only[aW,AV.dz];exact gV _ _ BM
def Xv(l:List Tok): (vH l).dz=true:=by simp only[vH,AV.dz];exact gV _ _ Hl
def DU(l:List aO): (lC l).dz=true:=by simp only[lC,AV.dz];exact gV _ _ (fun _=>rfl)
def BN(c:cN): (ew c).dz=true:=by simp[ew,AV.dz,AV.cg,s8]
def kz(l:List cN): (bV l).dz=true:=by simp only[bV,AV.dz];exact gV _ _ BN
def DV(r:iq): (ia r).dz=true:=by simp[ia,AV.dz,AV.cg,DU]
def xo(l:List iq): (fj l).dz=true:=by simp only[fj,AV.dz];exact gV _ _ DV
def I0(t:Table): (dP t).dz=true:=by simp[dP,ic,AV.dz,AV.cg,kz,xo]
def I1(l:List Cell): (vZ l).dz=true:=by simp only[vZ,AV.dz];exact gV _ _ ze
def L4(l:jn): (m_ l).dz=true:=by simp[m_,AV.dz,AV.cg,I1,rh]
def Pb(l:List Expr): AV.cg (l.map aT)=true:=gV _ _ gH
def Xw(l:List aL): AV.cg (l.map bX)=true:=gV _ _ BM
def Pc(l:List Tok): AV.cg (l.map sJ)=true:=gV _ _ Hl
def Pd(l:List aO): AV.cg (l.map gW)=true:=gV _ _ (fun _=>rfl)
def L5(l:List Test): AV.cg (l.map dA)=true:=gV _ _ DS
def s9(l:List Cell): AV.cg (l.map dG)=true:=gV _ _ ze
def aai(l:List cN): AV.cg (l.map ew)=true:=gV _ _ BN
def Xx(l:List iq): AV.cg (l.map ia)=true:=gV _ _ DV
def L6(l:List jn): AV.cg (l.map m_)=true:=gV _ _ L4
attribute [simp] AV.dz AV.cg BM Hl gH rh DS xn ze s8 Xv DU BN kz DV xo I0 I1 L4 Pb Xw Pc Pd L5 s9 aai Xx L6
def bn{α : Type}[Inhabited α]{l:List α}{i:Nat}(h:i<l.length): l.getD i default ∈ l:=by
 rw[ai,aF h];exact dD h
def nE(c:UInt8): Bool:=decide (32<=c.toNat) && decide (c.toNat<=126)
def nn(c:UInt8): Bool:=(decide (97<=c.toNat) && decide (c.toNat<=122)) ||(decide (65<=c.toNat) && decide (c.toNat<=90)) || decide (c.toNat=95)
def e8(c:UInt8): Bool:=decide (48<=c.toNat) && decide (c.toNat<=57)
def xq(c:UInt8): Bool:=nn c || e8 c
def kO(s:aO): Bool:=decide (s.length<=40) && s.all nE
def br(v:aL): Bool :=
 if v.kind=0 then decide (v.n=0) && decide (v.s=[])
 else if v.kind=1 then decide (v.s=[])
 else if v.kind=2 then decide (v.n=0) && kO v.s
 else if v.kind=3 then decide (v.s=[]) && (decide (v.n=0) || decide (v.n=1))
 else false
end Go.Proofs.YthakfmmgnjpmdaaGreatDoor
namespace Go.Proofs.YthakfmmgnjpmdaaGreatDoor
open Go.AM
def nF(s:aO): Nat:=match s with
 | []=>0
 | c::_=>if nn c then(s.takeWhile xq).length else 0
structure PR where
 kind:Int
 s:aO
 n:Int
 len:Nat
 e:Int
deriving Inhabited,DecidableEq
def SV(p:PR): AV:= .bH [.agg [I p.kind,.str p.s,I p.n,I 0,I p.len],I p.e]
attribute [go_sem] SV
def PR.err(e:Int): PR:=⟨0,[],0,0,e⟩
def BO(s:aO): PR:=if 16<nF s then .err 5 else⟨1,s.take (nF s),0,nF s,0⟩
def oh: aO->Int->Option Int
 | [],v=>some v
 | c::r,v=>if v>(9223372036854775807-((c.toNat:Int)-48)) / 10 then none else oh r (v*10+((c.toNat:Int)-48))
def om(s:aO): PR :=
 let n:=(s.takeWhile e8).length
 if 1<n/\(s.getD 0 0).toNat=48 then .err 11
 else match oh (s.takeWhile e8) 0 with
  | none=> .err 15
  | some v=>⟨2,[],v,n,0⟩
def lD: aO->aO->Nat->PR
 | [],_,_=> .err 11
 | c :: r, b, i =>
   if c.toNat=34 then(if 40<b.length then .err 5 else⟨3,b,0,i+1,0⟩)
   else if c.toNat=92 then
    match r with
    | []=> .err 11
    | d::r'=>if d.toNat=34\/d.toNat=92 then lD r' (b++[d]) (i+2)else .err 11
   else if nE c then lD r (b++[c]) (i+1)else .err 11
def j_ (c : UInt8) (r b : aO) (i : Nat) : lD (c :: r) b i =
    if c.toNat=34 then(if 40<b.length then .err 5 else⟨3,b,0,i+1,0⟩)
    else if c.toNat=92 then
     match r with
     | []=> .err 11
     | d::r'=>if d.toNat=34\/d.toNat=92 then lD r' (b++[d]) (i+2)else .err 11
    else if nE c then lD r (b++[c]) (i+1)else .err 11:=by
 rw[lD.eq_def];rfl
def tX: List aO:=[[46,46],[33,61],[60,61],[62,61],[40],[41],[91],[93],[44],[43],[45],[42],[47],[61],[60],[62]]
def tY(s:aO): PR:=match tX.find? (fun m=>m.isPrefixOf s)with
 | some m=>⟨4,m,0,m.length,0⟩
 | none=> .err 11
def jg(s:aO): PR :=
 let c:=s.getD 0 0
 if nn c then BO s else if e8 c then om s else if c.toNat=34 then lD (s.drop 1) [] 1 else tY s
def rI: Nat->aO->Nat->List Tok->List Tok × Int × Int
 | 0,_,_,acc=>(acc,0,0)
 | _+1,[],_,acc=>(acc,0,0)
 | f + 1, c :: r, pos, acc =>
   if c.toNat=32 then rI f r (pos+1) acc
   else if(jg (c::r)).e=0 then rI f ((c::r).drop (jg (c::r)).len) (pos+(jg (c::r)).len) (acc++[⟨(jg (c::r)).kind,(jg (c::r)).s,(jg (c::r)).n,pos⟩])
   else([],pos,(jg (c::r)).e)
def de(s:aO): List Tok × Int × Int:=if 200<s.length then([],0,5)else rI (s.length+1) s 0 []
def DW: List aO:=[[97,110,100],[111,114],[110,111,116],[105,102],[116,104,101,110],[101,108,115,101],[116,114,117,101],[102,97,108,115,101],[110,117,108,108]]
def zf(s:aO): Bool:=DW.contains s
def jU(s:aO): Bool:=decide (s≠[]) && decide (nF s=s.length) && decide (s.length<=16) && !zf s
def tZ{p:UInt8->Bool}(s:aO): (s.takeWhile p).length<=s.length:=by
 induction s with
 | nil=>simp
 | cons c s ih=>simp only[eJ];split<;>simp;omega
def Pe(s:aO): nF s<=s.length:=by
 unfold nF;split
 ·simp
 ·split
  ·exact tZ _
  ·simp
def Xy{s:aO}(h:nn (s.getD 0 0)=true)(hs:s≠[]): 1<=nF s:=by
 cases s with
 | nil=>exact absurd rfl hs
 | cons c r =>
   simp only[bD]at h;simp only[nF,h,if_true,eJ,xq,Bool.true_or];simp
def Xz(r b:aO)(i:Nat): (lD r b i).e=0->i+1<=(lD r b i).len/\(lD r b i).len<=i+r.length:=by
 fun_induction lD r b i<;>simp_all[PR.err]<;>omega
def RA{s:aO}(h:(om s).e=0): (om s).len=(s.takeWhile e8).length:=by
 unfold om at *;simp only at *;split at h
 ·simp[PR.err]at h
 ·rename_i h1;rw[if_neg h1];split at h
  ·simp[PR.err]at h
  ·rfl
def XA{s:aO}(h:(tY s).e=0): 1<=(tY s).len/\(tY s).len<=s.length:=by
 unfold tY at *;split at h
 ·rename_i m hm;have h1:=eG hm;have h2:=f_ hm;refine⟨?_,(List.isPrefixOf_iff_prefix.1 h1).length_le⟩;show 1<=m.length;simp only[tX,List.mem_cons,List.not_mem_nil,or_false]at h2;rcases h2 with h|h|h|h|h|h|h|h|h|h|h|h|h|h|h|h<;>subst h<;>simp
 ·simp[PR.err]at h
def Pf{s:aO}(hs:s≠[])(h:(jg s).e=0): 1<=(jg s).len/\(jg s).len<=s.length:=by
 unfold jg at *;simp only at *;split at h
 ·rename_i h1;rw[if_pos h1];unfold BO at *;split at h
  ·simp[PR.err]at h
  ·rename_i h2;rw[if_neg h2];exact⟨Xy h1 hs,Pe s⟩
 ·rename_i h1;rw[if_neg h1];split at h
  ·rename_i h2;rw[if_pos h2,RA h];refine⟨?_,tZ _⟩;cases s with
   | nil=>exact absurd rfl hs
   | cons c r=>simp only[bD]at h2;simp[eJ,h2]
  ·rename_i h2;rw[if_neg h2];split at h
   ·rename_i h3;rw[if_pos h3];have:=Xz _ _ _ h;have h4:1<=s.length:=by cases s with|nil=>exact absurd rfl hs|cons=>simp
    rw[List.length_drop]at this;omega
   ·rename_i h3;rw[if_neg h3];exact XA h
end Go.Proofs.YthakfmmgnjpmdaaGreatDoor
namespace Go.Proofs.YthakfmmgnjpmdaaGreatDoor
open Go.AM
set_option maxRecDepth 4000
def ae1(c:UInt8): qg .or .u8 (c.toNat:Int) 32=((c.toNat ||| 32:Nat):Int):=by
 rw[mS];have h:∀ n:Fin 256,nr .or .u8 (n.val:Int) 32=((n.val ||| 32:Nat):Int):=by decide +kernel
 exact h ⟨c.toNat,c.toNat_lt⟩
def RB(c:UInt8): (decide (97<=c.toNat ||| 32) && decide (c.toNat ||| 32<=122) || decide (c.toNat=95))=nn c:=by
 have h:∀ n:Fin 256,(decide (97<=n.val ||| 32) && decide (n.val ||| 32<=122) || decide (n.val=95))=((decide (97<=n.val) && decide (n.val<=122)) ||(decide (65<=n.val) && decide (n.val<=90)) || decide (n.val=95)):=by decide +kernel
 exact h ⟨c.toNat,c.toNat_lt⟩
def BP(c:UInt8): aM aH 123 [.int .u8 c.toNat] (.bool (nn c)):=by
 rw[<-RB];refine aR Nw ?_;intro Q aB aC aD;repeat' first|refine au ?_|refine aq ?_ ?_<;>intro hw<;>try omega|fail
 all_goals refine aU ?_ rfl
 all_goals (rw[ae1]at *;(refine congrArg AV.bool ?_;rw[cG];simp only[ae1,aj,bU,decide_eq_true_eq,beq_iff_eq,cy,decide_eq_false_iff_not,beq_eq_false_iff_ne,ne_eq,true_iff,false_iff,iff_true,iff_false,aG,Bool.true_eq_false,not_and,not_or]at *;omega))
def DX(c:UInt8): aM aH 126 [.int .u8 c.toNat] (.bool (e8 c)):=by
 refine aR O7 ?_;intro Q aB aC aD;repeat' first|refine au ?_|refine aq ?_ ?_<;>intro hw<;>try omega|fail
 all_goals refine aU ?_ rfl
 all_goals (refine congrArg AV.bool ?_;rw[cG];simp only[e8,aj,bU,decide_eq_true_eq,beq_iff_eq,cy,decide_eq_false_iff_not,beq_eq_false_iff_ne,ne_eq,true_iff,false_iff,iff_true,iff_false,aG,Bool.true_eq_false,not_and,not_or]at *;omega)
def DY{p:UInt8->Bool}{s:aO}{i:Nat}(hi:i<s.length): ((s.drop i).takeWhile p).length=if p (s.getD i 0)then 1+((s.drop (i+1)).takeWhile p).length else 0:=by
 rw[dy hi,eJ,ai,aF hi];simp only[bw];split<;>simp;omega
def SW (fn : FuncId) (cap : List AV) (hcap : AV.cg cap = true) (p : UInt8 -> Bool) (h : ∀ c : UInt8, aM aH fn (.int .u8 c.toNat :: cap) (.bool (p c))) (s : aO) (hs : s.length <= 2 ^ 62) :
    aM aH 124 [.str s,.fn (.func fn) [] cap] (I (s.takeWhile p).length):=by
 refine aR UQ ?_ (by simp[AV.dz,AV.cg,hcap]);intro Q aB aC aD;repeat' first|refine au ?_|refine aq ?_ ?_<;>intro hw<;>try omega|fail
 with_reducible refine bE [4,5,8,9,10,11,12,13,14,15,16,17,18] (fun i:Nat=>[(8,I i)]) (fun _=>[]) (fun i=>i<=s.length/\(s.takeWhile p).length=i+((s.drop i).takeWhile p).length) (fun i=>s.length-i) (0) ?_ ?_ ?_ ?_
 ·simp
 ·rfl
 ·exact at_
 ·rintro i r ⟨hi,hp⟩;repeat' first|refine au ?_|refine eZ (h _) ?_|refine aq ?_ ?_<;>intro hw<;>try omega|fail
  ·rw[DY (by omega)]at hp;rw[hw]at hp;exact aU (by simp at hp;simp[hp]) rfl
  ·rw[DY (by omega)]at hp;rw[hw]at hp;refine⟨i+1,?_,?_,by first|rfl|(simp[go_sem];done),cZ,at_⟩<;>(try dsimp only)
   ·simp at hp;exact⟨by omega,by omega⟩
   ·omega
  ·have:i=s.length:=by omega
   subst this;exact aU (by simp at hp;simp[hp]) rfl
def US(c:UInt8): aM aH 125 [.int .u8 c.toNat] (.bool (xq c)):=by
 refine aR Nx ?_;intro Q aB aC aD;repeat' first|refine au ?_|refine eZ (BP _) ?_|refine eZ (DX _) ?_|refine aq ?_ ?_<;>intro hw<;>try omega|fail
 all_goals refine aU ?_ rfl
 all_goals simp_all[xq]
def Pg(s:aO)(hs:s.length<=2 ^ 62): aM aH 79 [.str s] (I (nF s)):=by
 refine aR Rt ?_;intro Q aB aC aD;cases s with
 | nil =>
   repeat' first|refine au ?_|refine aq ?_ ?_<;>intro hw<;>try omega|fail
   all_goals (refine aU ?_ ?_<;>rfl)
 | cons c r =>
   repeat' first|refine au ?_|refine eZ (BP _) ?_|refine eZ (SW _ _ rfl xq US _ hs) ?_|refine aq ?_ ?_<;>intro hw<;>try omega|fail
   all_goals refine aU ?_ rfl
   all_goals simp_all[nF]
def Ph(s:aO)(hs:s.length<=2 ^ 62): aM aH 194 [.str s] (SV (BO s)):=by
 refine aR Ry ?_;intro Q aB aC aD;have:=Pe s;repeat' first|refine au ?_|refine eZ (Pg _ hs) ?_|refine aq ?_ ?_<;>intro hw<;>try omega|fail
 all_goals refine bx ?_ rfl
 all_goals (unfold BO;split<;>first|omega|rfl)
def vg{p:UInt8->Bool}{s:aO}{i:Nat}(hi:i<(s.takeWhile p).length): s.getD i 0=(s.takeWhile p).getD i 0/\p (s.getD i 0)=true:=by
 induction s generalizing i with
 | nil=>simp at hi
 | cons c r ih =>
   simp only[eJ]at hi ⊢;split at hi
   ·rename_i hc;simp only[hc,if_true];cases i with
    | zero=>simp[hc]
    | succ i=>simpa using ih (by simpa using hi)
   ·simp at hi
def I2(s:aO)(hs:s.length<=2 ^ 62): aM aH 195 [.str s] (SV (om s)):=by
 refine aR NA ?_;intro Q aB aC aD;have hle:=tZ (p:=e8) s;obtain⟨n,hn⟩:∃ n,(s.takeWhile e8).length=n:=⟨_,rfl⟩;have hrun:aM aH 124 [.str s,.fn (.func 126) [] []] (I n):=hn ▸ SW _ [] rfl e8 DX _ hs
 have hd:∀ i,i<n->48<=(s.getD i 0).toNat/\(s.getD i 0).toNat<=57/\(s.takeWhile e8).drop i=s.getD i 0::(s.takeWhile e8).drop (i+1):=fun i hi=>by
  obtain⟨h1,h2⟩:=vg (s:=s) (p:=e8) (i:=i) (by omega);simp only[e8,aj,decide_eq_true_eq]at h2;refine⟨h2.1,h2.2,?_⟩;rw[dy (by omega:i<(s.takeWhile e8).length),h1,ai,aF (by omega:i<(s.takeWhile e8).length)];rfl
 repeat' first|refine au ?_|refine aq ?_ ?_<;>intro hw<;>try omega|fail
 ·refine bx ?_ rfl;unfold om;rw[hn];simp only;rw[if_pos (by constructor<;>omega)];rfl
 all_goals (
  have hno:¬ (1<n/\(s.getD 0 0).toNat=48):=by omega
  with_reducible refine bE [3,5,6,7,19,20,21,22,23,24,25,26,27,28,29,30,31,32,33,34,35,36,37] (fun p:Nat × Int=>[(19,I p.1),(5,I p.2)]) (fun _=>[.cells [I 0,.str [],I 0,I 0,I 0]]) (fun p=>p.1<=n/\0<=p.2/\p.2<=9223372036854775807/\oh (s.takeWhile e8) 0=oh ((s.takeWhile e8).drop p.1) p.2) (fun p=>n-p.1) (0,0) ?_ ?_ ?_ ?_
  ·simp
  ·rfl
  ·exact at_
  ·rintro⟨i,v⟩ r ⟨hi,hv,HT,hf⟩;simp only at hi hv HT hf;by_cases hin:i<n
   ·obtain⟨d1,d2,d3⟩:=hd i hin;rw[d3]at hf;simp only[oh]at hf;repeat' first|refine au ?_|refine aq ?_ ?_<;>intro hw<;>try omega|fail
    ·rw[if_pos hw]at hf;refine bx ?_ rfl;unfold om;rw[hn];simp only;rw[if_neg hno,hf];rfl
    ·rw[if_neg (by omega)]at hf;refine⟨(i+1,v*10+(((s.getD i 0).toNat:Int)-48)),?_,?_,by first|rfl|(simp[go_sem];done),cZ,at_⟩<;>(try dsimp only)
     ·exact⟨by omega,by omega,by omega,hf⟩
     ·omega
   ·have:i=n:=by omega
    subst this;rw[bK (by omega)]at hf;repeat' first|refine au ?_|refine aq ?_ ?_<;>intro hw<;>try omega|fail
    ·refine bx ?_ rfl;unfold om;rw[hn];simp only;rw[if_neg hno,hf];rfl)
def jW{α : Type}[Inhabited α]{l:List α}{i:Nat}(h:i<l.length): l.drop i=l.getD i default::l.drop (i+1):=by
 rw[dy h,ai,aF h];rfl
def oO{l:aO}{i:Nat}(h:i<l.length): l.drop i=l.getD i 0::l.drop (i+1):=by
 rw[dy h,ai,aF h];rfl
abbrev rU(s:aO): List AV:=s.map fun b=>AV.int .u8 b.toNat
def aaj(s:aO)(h0:s≠[])(hs:s.length<=2 ^ 30): aM aH 196 [.str s] (SV (lD (s.drop 1) [] 1)):=by
 refine aR Rz ?_;intro Q aB aC aD;have hl:1<=s.length:=by cases s with|nil=>exact absurd rfl h0|cons=>simp
 generalize hT:lD (s.drop 1) [] 1=T at *;repeat' first|refine au ?_|refine aq ?_ ?_<;>intro hw<;>try omega|fail
 with_reducible refine bE [3,4,5,6,7,8,9,10,11,12,13,14,15,16,17,18,19,20,21,22,23,24,25,26,27,28,29,30,31,32,33,34,35,36,37,38,39,40,41,42,43,44,45,46,47,48,49,50,51,52,53,54,55,56,57,58,59,60,61,62,63,64,65,66,67,68,69] (fun p:Nat × aO=>[(5,I p.1),(4,.own E1 1 p.2.length 0 p.2.length)]) (fun p=>[.cells [I 0,.str [],I 0,I 0,I 0],.vec E1 (rU p.2)]) (fun p=>1<=p.1/\p.1<=s.length/\p.2.length<=p.1/\T=lD (s.drop p.1) p.2 p.1) (fun p=>s.length-p.1) ((1,[])) ?_ ?_ ?_ ?_
 ·exact⟨Nat.le_refl _,hl,by simp,hT.symm⟩
 ·rfl
 ·exact at_
 ·rintro⟨i,b⟩ r ⟨SE,hi,hb,hf⟩;simp only at SE hi hb hf;by_cases hin:i<s.length
  ·rw[oO hin]at hf;repeat' first|refine au ?_|refine aq ?_ ?_<;>intro hw<;>try omega|fail
   ·refine bx ?_ rfl;rw[hf,j_,if_pos (by omega),if_pos (by omega)];rfl
   ·refine bx ?_ rfl;rw[hf,j_,if_pos (by omega),if_neg (by omega)];simp
   ·refine bx ?_ rfl;rw[hf,j_,if_neg (by omega),if_pos (by omega),oO (by omega)];simp only;rw[if_neg (by omega)];rfl
   ·rw[j_,if_neg (by omega),if_pos (by omega),oO (by omega)]at hf;try dsimp only at hf
    rw[if_pos (by omega)]at hf;refine⟨(i+2,b++[s.getD (i+1) 0]),?_,?_,by first|rfl|(simp[go_sem];done),cZ,at_⟩<;>(try dsimp only)
    ·simp only[List.length_append,List.length_cons,List.length_nil];exact⟨by omega,by omega,by omega,hf⟩
    ·omega
   ·rw[j_,if_neg (by omega),if_pos (by omega),oO (by omega)]at hf;try dsimp only at hf
    rw[if_pos (by omega)]at hf;refine⟨(i+2,b++[s.getD (i+1) 0]),?_,?_,by first|rfl|(simp[go_sem];done),cZ,at_⟩<;>(try dsimp only)
    ·simp only[List.length_append,List.length_cons,List.length_nil];exact⟨by omega,by omega,by omega,hf⟩
    ·omega
   ·refine bx ?_ rfl;rw[hf,j_,if_neg (by omega),if_pos (by omega),bK (by omega)];rfl
   ·refine bx ?_ rfl;rw[hf,j_,if_neg (by omega),if_neg (by omega),if_neg (by simp only[nE,aj,decide_eq_true_eq];omega)];rfl
   ·rw[j_,if_neg (by omega),if_neg (by omega),if_pos (by simp only[nE,aj,decide_eq_true_eq];omega)]at hf;refine⟨(i+1,b++[s.getD i 0]),?_,?_,by first|rfl|(simp[go_sem];done),cZ,at_⟩<;>(try dsimp only)
    ·simp only[List.length_append,List.length_cons,List.length_nil];exact⟨by omega,by omega,by omega,hf⟩
    ·omega
   ·refine bx ?_ rfl;rw[hf,j_,if_neg (by omega),if_neg (by omega),if_neg (by simp only[nE,aj,decide_eq_true_eq];omega)];rfl
  ·rw[bK (by omega)]at hf;repeat' first|refine au ?_|refine aq ?_ ?_<;>intro hw<;>try omega|fail
   all_goals (refine bx ?_ rfl;rw[hf];simp[lD,PR.err])
