/- Part. -/
import Derived.Test.YthakfmmgnjpmdaaGreatW14
import Derived.KernelRfl
set_option linter.all false
namespace Go.Proofs.YthakfmmgnjpmdaaGreat
open Go.AM Go.AM.W
set_option maxRecDepth 10000
def I2: Of aD 169 61 [.tmp 2] (r [X 0 1,gF 2]<|
 q (q (.draw [A 5 1 3,K 3 4,N 4 5,A 0 1 6,K 6 7,Q 217 [t 7] 8,B .neq 5 8 9] [])<|
 c 9 (r [gF 2]<|
 .ret) k)<|
 q (r [A 0 1 10,K 10 11]<|
 .block 0 (r [D .eql 11 1 13,M 13 12]<|
 c 12 (r [A 4 1 14,K 14 15,bq (.bin .eql (t 15) (.c e0)) 16,M 16 17,AT 1 1 18 17,LT 3 18 19 17,CT 115 [t 19] 20 17,DT .eql 20 0 21 17,P 17 21 22,M 22 23,AT 1 1 24 23,AT 0 24 25 23,KT 25 26 23,DT .neq 26 1 27 23,MT 27 28 23,AF 1 1 29 28,AF 1 29 30 28,KF 30 31 28,DF .geq 31 0 32 28,OT 28 32 33 23,P 23 33 34,M 34 2]<|
 .ret) (r [D .eql 11 2 36,M 36 35]<|
 c 35 (r [A 1 1 37,L 3 37 38,gU [z0,z0,e0] [] 39,bq (.jD false true [.i,.i,.s] (t 38) (t 39)) 40,M 40 41,AT 4 1 42 41,KT 42 43 41,CT 66 [t 43] 44 41,P 41 44 45,M 45 2]<|
 .ret) k)))<|
 r [A 1 1 46,L 3 46 47,gU [z0,z0,e0] [] 48,bq (.jD false true [.i,.i,.s] (t 47) (t 48)) 49,M 49 50,AT 4 1 51 50,KT 51 52 50,⟨.bin .eql (t 52) (.c e0),(some 53),some (50,true)⟩,P 50 53 54,M 54 55,AT 5 1 56 55,KT 56 57 55,CT 218 [t 57,(.c (.fn (.func 219) [] []))] 58 55,UT 58 59 55,P 55 59 60,M 60 2]<|
 .ret):=bj Tryz.func169
def DK: Of aD 170 27 [.cell 4 true 3] (r [X 0 2,J [z0,z0,e0] 4]<|
 q (r [A 0 2 7,K 7 8,N 8 9,V z0 10]<|
 .block 0 (.loop (r [B .lss 10 9 11]<|
 q (c 11 k (.exit 0))<|
 q (.block 1 (r [M 10 12,I true 3 8 10 13,L 3 13 14,J [e0,z0,.ai] 6,M 12 5,W 3 6 14]<|
 r [A 0 6 15,K 15 16,M 1 17,B .eql 16 17 18]<|
 c 18 (r [A 1 2 19,K 19 20,M 5 21,I true 3 20 21 22,L 3 22 23,W 3 4 23]<|
 .ret) k))<|
 R [D .add 10 1 24,M 24 10])))<|
 r [C 220 [gJ 13] 25]<|
 r [gU [z0,z0,e0] [] 26,W 3 4 26]<|
 .ret):=bj Tryz.func170
def I3: Of aD 171 23 [.tmp 4] (r [gF 4]<|
 q (r [M 1 7,N 7 8,V z0 9]<|
 .block 0 (.loop (r [B .lss 9 8 10]<|
 q (c 10 k (.exit 0))<|
 q (.block 1 (r [I true 3 7 9 11,L 3 11 12,J [z0,z0,e0] 6,W 3 6 12]<|
 r [A 0 6 13,K 13 14]<|
 .block 2 (r [M 0 17,B .eql 14 17 18,M 18 16]<|
 c 16 k (r [D .eql 14 0 20,M 20 19]<|
 c 19 (R [gT 4]) (R [C 220 [gJ 14] 15])))))<|
 R [D .add 9 1 21,M 21 9])))<|
 r [M 4 22,M 22 4]<|
 .ret):=bj Tryz.func171
def Aa: Of aD 172 9 [.cell 4 true 3] (r [J [z0,z0,e0] 4]<|
 r [M 1 5,C 220 [t 5] 6]<|
 r [M 0 7,gU [z0,z0,e0] [(0,1,gJ 1),(1,1,t 7)] 8,W 3 4 8]<|
 .ret):=bj Tryz.func172
def zb: Of aD 173 21 [.tmp 4,.tmp 5] (r [V z0 4,V z0 5]<|
 r [M 0 7,M 1 8,B .sub 7 8 9,M 9 6]<|
 gR [M 6 10,M 0 11,B .lss 10 11 12,M 1 13,D .gtr 13 0 14,bq (.jD true false [.b] (t 12) (t 14)) 15,M 15 16,MT 1 17 16,DT .neq 17 0 18 16,P 16 18 19] 19 [V z0 4,V (i6 15) 5]<|
 r [M 6 20,M 20 4,V z0 5]<|
 .ret):=bj Tryz.func173
def NJ: Of aD 174 8 [.cell 2 true 3] (r [J [z0,z0,e0] 2]<|
 r [gU [z0,z0,e0] [(0,1,gJ 3)] 4,J [z0,z0,e0] 3,W 3 3 4]<|
 q (r [M 0 5]<|
 c 5 (R [A 1 3 6,⟨.store 1 (t 6) (gJ 1),none,none⟩]) k)<|
 r [L 3 3 7,W 3 2 7]<|
 .ret):=bj Tryz.func174
def tu: Of aD 175 42 [.cell 6 true 3] (r [X 1 4,X 2 5,J [z0,z0,e0] 6]<|
 r [M 0 9,D .eql 9 4 10,M 10 11,AT 0 4 12 11,KT 12 13 11,DT .eql 13 2 14 11,MT 14 15 11,AF 0 5 16 15,KF 16 17 15,DF .eql 17 2 18 15,OT 15 18 19 11,P 11 19 20,M 20 7]<|
 r [V (i6 1) 8]<|
 q (r [M 7 21]<|
 c 21 (R [V (i6 2) 8]) k)<|
 q (.block 0 (r [M 8 23,L 3 4 24,L 3 5 25,gB true 3 (.agg [z0,z0,e0]) 2 [(0,t 24),(1,t 25)] 26,C 171 [t 23,t 26] 27,M 27 22]<|
 c 22 (r [gU [z0,z0,e0] [] 28,W 3 6 28]<|
 .ret) (r [M 7 30,M 30 29]<|
 c 29 (r [A 2 4 31,K 31 32,A 2 5 33,K 33 34,C 221 [t 32,t 34] 35,W 3 6 35]<|
 .ret) k)))<|
 r [M 0 36,A 1 4 37,K 37 38,A 1 5 39,K 39 40,C 222 [t 36,t 38,t 40] 41,W 3 6 41]<|
 .ret):=bj Tryz.func175
def qL: Of aD 176 32 [.cell 6 true 3] (r [X 1 4,X 2 5,J [z0,z0,e0] 6]<|
 r [L 3 4 9,L 3 5 10,gB true 3 (.agg [z0,z0,e0]) 2 [(0,t 9),(1,t 10)] 11,C 171 [gJ 3,t 11] 12,M 12 7]<|
 r [M 0 13,D .eql 13 15 14,C 174 [t 14] 15,J [z0,z0,e0] 8,W 3 8 15]<|
 q (.block 0 (r [L 3 4 17,L 3 8 18,bq (.jD false true [.i,.i,.s] (t 17) (t 18)) 19,M 19 20,LF 3 5 21 20,LF 3 8 22 20,⟨.jD false true [.i,.i,.s] (t 21) (t 22),(some 23),some (20,false)⟩,O 20 23 24,M 24 16]<|
 c 16 (r [L 3 8 25,W 3 6 25]<|
 .ret) (r [M 7 27,M 27 26]<|
 c 26 (r [gU [z0,z0,e0] [] 28,W 3 6 28]<|
 .ret) k)))<|
 r [M 0 29,D .eql 29 14 30,C 174 [t 30] 31,W 3 6 31]<|
 .ret):=bj Tryz.func176
def kW: Of aD 177 59 [.cell 6 true 3] (r [X 1 4,X 2 5,J [z0,z0,e0] 6]<|
 r [L 3 4 9,L 3 5 10,C 223 [t 9,t 10] 11,M 11 7]<|
 q (r [M 0 12]<|
 .block 0 (r [D .eql 12 8 14,M 14 13]<|
 c 13 (r [L 3 4 15,L 3 5 16,bq (.jD false true [.i,.i,.s] (t 15) (t 16)) 17,C 174 [t 17] 18,W 3 6 18]<|
 .ret) (r [D .eql 12 9 20,M 20 19]<|
 c 19 (r [L 3 4 21,L 3 5 22,bq (.jD true true [.i,.i,.s] (t 21) (t 22)) 23,C 174 [t 23] 24,W 3 6 24]<|
 .ret) k)))<|
 q (r [M 7 25,D .eql 25 3 26]<|
 c 26 (R [C 220 [gJ 14] 27]) k)<|
 gR [A 0 4 28,K 28 29,D .eql 29 0 30,M 30 31,AF 0 5 32 31,KF 32 33 31,DF .eql 33 0 34 31,O 31 34 35] 35 [gU [z0,z0,e0] [] 36,W 3 6 36]<|
 r [L 3 4 37,L 3 5 38,C 123 [t 37,t 38] 39,M 39 8]<|
 q (r [M 0 40]<|
 .block 1 (r [D .eql 40 10 42,M 42 41]<|
 c 41 (r [M 8 43,D .lss 43 0 44,C 174 [t 44] 45,W 3 6 45]<|
 .ret) (r [D .eql 40 11 47,M 47 46]<|
 c 46 (r [M 8 48,D .leq 48 0 49,C 174 [t 49] 50,W 3 6 50]<|
 .ret) (r [D .eql 40 12 52,M 52 51]<|
 c 51 (r [M 8 53,D .gtr 53 0 54,C 174 [t 54] 55,W 3 6 55]<|
 .ret) k))))<|
 r [M 8 56,D .geq 56 0 57,C 174 [t 57] 58,W 3 6 58]<|
 .ret):=bj Tryz.func177
def nF: Of aD 178 63 [] (r [V (i6 20) 6]<|
 r [M 6 10,V z0 7,M 10 8]<|
 q (gL 0 [M 8 11,M 1 12,B .leq 11 12 13] 13 ((
 .block 1 (r [M 0 14,M 7 15,M 8 16,M 2 17,C 224 [t 14,t 15,t 16,t 17] 18]<|
 r [M 8 19,M 19 7]<|
 R [M 8 20,M 6 21,B .add 20 21 22,M 22 8]))))<|
 r [M 0 23,M 7 24,M 1 25,M 2 26,C 224 [t 23,t 24,t 25,t 26] 27]<|
 gL 2 [M 6 28,M 1 29,B .lss 28 29 30] 30 ((
 .block 3 (r [M 6 31,bq (.bin .mul (gJ 2) (t 31)) 32,V z0 7,M 32 8]<|
 q (gL 4 [M 8 33,M 1 34,B .leq 33 34 35] 35 ((
 .block 5 (r [M 0 36,M 7 37,M 7 38,M 6 39,B .add 38 39 40,M 8 41,M 2 42,C 225 [t 36,t 37,t 40,t 41,t 42] 43]<|
 r [M 8 44,M 44 7]<|
 R [M 8 45,M 6 46,bq (.bin .mul (gJ 2) (t 46)) 47,B .add 45 47 48,M 48 8]))))<|
 q (r [M 7 49,M 6 50,B .add 49 50 51,M 51 9]<|
 r [M 9 52,M 1 53,B .lss 52 53 54]<|
 c 54 (R [M 0 55,M 7 56,M 9 57,M 1 58,M 2 59,C 225 [t 55,t 56,t 57,t 58,t 59] 60]) k)<|
 R [M 6 61,D .mul 61 2 62,M 62 6])))):=bj Tryz.func178
def NL: Of aD 179 18 [.tmp 2] (r [V z0 2]<|
 r [V z0 3]<|
 q (r [M 0 6,N 6 7,V z0 8]<|
 .block 0 (.loop (r [B .lss 8 7 9]<|
 q (c 9 k (.exit 0))<|
 q (.block 1 (r [I false 1 6 8 10,K 10 11,M 11 5]<|
 r [M 5 12,M 3 13,B .neq 12 13 14]<|
 c 14 (r [M 5 15,M 15 2]<|
 .ret) k))<|
 R [D .add 8 1 16,M 16 8])))<|
 r [M 3 17,M 17 2]<|
 .ret):=bj Tryz.func179
def CX: Of aD 180 20 [.tmp 4] (r [V z0 4]<|
 r [M 0 7,C 226 [t 7] 8,M 8 5]<|
 r [M 1 9,C 226 [t 9] 10,M 10 6]<|
 q (r [M 5 11]<|
 c 11 (gR [M 6 12] 12 [V z0 4]<|
 r [V (i6 (-1)) 4]<|
 .ret) k)<|
 gR [M 6 13] 13 [V (i6 1) 4]<|
 gR [M 0 14,M 1 15,B .lss 14 15 16] 16 [V (i6 (-1)) 4]<|
 gR [M 0 17,M 1 18,B .gtr 17 18 19] 19 [V (i6 1) 4]<|
 r [V z0 4]<|
 .ret):=bj Tryz.func180
def I4: Of aD 182 32 [.cell 2 true 3,.tmp 3] (r [J [z0,z0,e0] 2,V z0 3]<|
 gR [M 0 8,N 8 9,D .eql 9 0 10] 10 [gU [z0,z0,e0] [] 11,W 3 2 11,V z0 3]<|
 r [V z0 4]<|
 q (r [M 0 12,N 12 13,V z0 14]<|
 .block 0 (.loop (r [B .lss 14 13 15]<|
 q (c 15 k (.exit 0))<|
 q (.block 1 (r [I true 3 12 14 16,L 3 16 17,J [z0,z0,e0] 6,W 3 6 17]<|
 r [V z0 7]<|
 r [M 4 19,A 1 6 20,K 20 21,C 228 [t 19,t 21] 22,M 22 18,E 18 0 23,E 18 1 24,M 23 4,M 24 7]<|
 r [M 7 25,D .neq 25 0 26]<|
 c 26 (r [gU [z0,z0,e0] [] 27,M 7 28,W 3 2 27,M 28 3]<|
 .ret) k))<|
 R [D .add 14 1 29,M 29 14])))<|
 r [M 4 30,gU [z0,z0,e0] [(0,1,gJ 1),(1,1,t 30)] 31,W 3 2 31,V z0 3]<|
 .ret):=bj Tryz.func182
def yd: Of aD 183 33 [.cell 4 true 3] (r [J [z0,z0,e0] 4]<|
 q (r [M 0 7,N 7 8,D .lss 8 1 9]<|
 c 9 (R [bq (.uN 9 (gS [115,108,105,99,101,115,46,77,105,110,70,117,110,99,58,32,101,109,112,116,121,32,108,105,115,116])) 10,⟨.panic (t 10),none,none⟩]) k)<|
 r [M 0 11,gI true 3 11 0 12,L 3 12 13,J [z0,z0,e0] 5,W 3 5 13]<|
 q (r [V (i6 1) 6]<|
 gL 0 [M 6 14,M 0 15,N 15 16,B .lss 14 16 17] 17 ((
 q (.block 1 (q (.draw [M 1 20,M 0 21,M 6 22,I true 3 21 22 23,L 3 23 24,L 3 5 25,bq (.call true (t 20) [t 24,t 25]) 26,D .lss 26 0 27] [])<|
 c 27 (R [M 0 28,M 6 29,I true 3 28 29 30,L 3 30 31,W 3 5 31]) k))<|
 R [M 6 18,D .add 18 1 19,M 19 6])))<|
 r [L 3 5 32,W 3 4 32]<|
 .ret):=bj Tryz.func183
def ye: Of aD 184 33 [.cell 4 true 3] (r [J [z0,z0,e0] 4]<|
 q (r [M 0 7,N 7 8,D .lss 8 1 9]<|
 c 9 (R [bq (.uN 9 (gS [115,108,105,99,101,115,46,77,97,120,70,117,110,99,58,32,101,109,112,116,121,32,108,105,115,116])) 10,⟨.panic (t 10),none,none⟩]) k)<|
 r [M 0 11,gI true 3 11 0 12,L 3 12 13,J [z0,z0,e0] 5,W 3 5 13]<|
 q (r [V (i6 1) 6]<|
 gL 0 [M 6 14,M 0 15,N 15 16,B .lss 14 16 17] 17 ((
 q (.block 1 (q (.draw [M 1 20,M 0 21,M 6 22,I true 3 21 22 23,L 3 23 24,L 3 5 25,bq (.call true (t 20) [t 24,t 25]) 26,D .gtr 26 0 27] [])<|
 c 27 (R [M 0 28,M 6 29,I true 3 28 29 30,L 3 30 31,W 3 5 31]) k))<|
 R [M 6 18,D .add 18 1 19,M 19 6])))<|
 r [L 3 5 32,W 3 4 32]<|
 .ret):=bj Tryz.func184
def Ho: Of aD 185 6 [.tmp 2] (r [gF 2]<|
 r [M 0 3,M 0 4,B .neq 3 4 5,M 5 2]<|
 .ret):=bj Tryz.func185
def wz: Of aD 186 19 [.tmp 4] (r [V z0 4]<|
 q (r [M 0 6,N 6 7,V z0 8]<|
 .block 0 (.loop (r [B .lss 8 7 9]<|
 q (c 9 k (.exit 0))<|
 q (.block 1 (r [M 8 10,M 10 5]<|
 r [M 1 11,M 0 12,M 5 13,I true 3 12 13 14,L 3 14 15,bq (.call false (t 11) [t 15]) 16]<|
 c 16 (r [M 5 17,M 17 4]<|
 .ret) k))<|
 R [D .add 8 1 18,M 18 8])))<|
 r [V (i6 (-1)) 4]<|
 .ret):=bj Tryz.func186
def I5: Of aD 187 21 [.tmp 2] (r [gF 2]<|
 r [M 0 3,bq (.bin .geq (t 3) (.c (.int .u8 97))) 4,M 4 5,MT 0 6 5,⟨.bin .leq (t 6) (.c (.int .u8 122)),(some 7),some (5,true)⟩,P 5 7 8,M 8 9,MF 0 10 9,⟨.bin .geq (t 10) (.c (.int .u8 65)),(some 11),some (9,false)⟩,MF 11 12 9,MT 0 13 12,⟨.bin .leq (t 13) (.c (.int .u8 90)),(some 14),some (12,true)⟩,PF 12 14 15 9,O 9 15 16,M 16 17,MF 0 18 17,⟨.bin .eql (t 18) (.c (.int .u8 95)),(some 19),some (17,false)⟩,O 17 19 20,M 20 2]<|
 .ret):=bj Tryz.func187
def K4: Of aD 188 9 [.tmp 2] (r [gF 2]<|
 r [M 0 3,bq (.bin .geq (t 3) (.c (.int .u8 48))) 4,M 4 5,MT 0 6 5,⟨.bin .leq (t 6) (.c (.int .u8 57)),(some 7),some (5,true)⟩,P 5 7 8,M 8 2]<|
 .ret):=bj Tryz.func188
def Ry: Of aD 189 20 [.tmp 4] (r [V z0 4]<|
 q (r [V z0 5]<|
 gL 0 [M 5 6,M 0 7,N 7 8,B .lss 6 8 9] 9 ((
 q (.block 1 (r [M 0 12,M 5 13,I true 3 12 13 14,A 0 14 15,K 15 16,M 1 17,B .eql 16 17 18]<|
 c 18 (r [M 5 19,M 19 4]<|
 .ret) k))<|
 R [M 5 10,D .add 10 1 11,M 11 5])))<|
 r [V (i6 (-1)) 4]<|
 .ret):=bj Tryz.func189
def Pr: Of aD 190 74 [.cell 2 true 4,.tmp 3,.tmp 4] (r [J [z0,e0,z0,z0] 2,V z0 3,V z0 4]<|
 q (.block 0 (r [M 0 8,bq (.jh (t 8) (.c z0)) 9,C 187 [t 9] 10,M 10 7]<|
 c 7 (r [M 0 11,C 229 [t 11] 12,E 12 0 13,E 12 1 14,E 12 2 15,W 4 2 13,M 14 3,M 15 4]<|
 .ret) (r [M 0 17,bq (.jh (t 17) (.c z0)) 18,C 188 [t 18] 19,M 19 16]<|
 c 16 (r [M 0 20,C 230 [t 20] 21,E 21 0 22,E 21 1 23,E 21 2 24,W 4 2 22,M 23 3,M 24 4]<|
 .ret) (r [M 0 26,bq (.jh (t 26) (.c z0)) 27,bq (.bin .eql (t 27) (.c (.int .u8 34))) 28,M 28 25]<|
 c 25 (r [M 0 29,C 231 [t 29] 30,E 30 0 31,E 30 1 32,E 30 2 33,W 4 2 31,M 32 3,M 33 4]<|
 .ret) k))))<|
 r [C 232 [] 34,M 34 5]<|
 q (r [V z0 6]<|
 gL 1 [M 6 35,M 5 36,N 36 37,B .lss 35 37 38] 38 ((
 q (.block 2 (q (.draw [M 5 41,M 6 42,I false 1 41 42 43,K 43 44,S 44 45,M 0 46,S 46 47,B .leq 45 47 48,M 48 49,MT 0 50 49,MT 5 51 49,MT 6 52 49,IT false 1 51 52 53 49,KT 53 54 49,ST 54 55 49,⟨.p8 (t 50) none (some (t 55)),(some 56),some (49,true)⟩,MT 5 57 49,MT 6 58 49,IT false 1 57 58 59 49,KT 59 60 49,BT .eql 56 60 61 49,P 49 61 62] [])<|
 c 62 (q (.draw [M 5 63,M 6 64,I false 1 63 64 65,K 65 66,gU [z0,e0,z0,z0] [(0,1,gJ 4),(1,1,t 66)] 67,M 5 68,M 6 69,I false 1 68 69 70,K 70 71,S 71 72,W 4 2 67,M 72 3,V z0 4] [(t 70,t 2)])<|
 .ret) k))<|
 R [M 6 39,D .add 39 1 40,M 40 6])))<|
 r [gU [z0,e0,z0,z0] [] 73,W 4 2 73,V z0 3,V (i6 11) 4]<|
 .ret):=bj Tryz.func190
def NM: Of aD 191 12 [.tmp 2] (r [V e0 2]<|
 q (r [M 0 3]<|
 .block 0 (r [D .eql 3 2 5,M 5 4]<|
 c 4 (r [V (.str [60]) 2]<|
 .ret) (r [D .eql 3 3 7,M 7 6]<|
 c 6 (r [V (.str [60,61]) 2]<|
 .ret) (r [D .eql 3 4 9,M 9 8]<|
 c 8 (r [V (.str [62]) 2]<|
 .ret) (r [D .eql 3 5 11,M 11 10]<|
 c 10 (r [V (.str [62,61]) 2]<|
 .ret) k)))))<|
 r [V e0 2]<|
 .ret):=bj Tryz.func191
def tv: Of aD 192 34 [.cell 2 true 6] (r [J [z0,z0,z0,e0,e0,.ai] 2]<|
 gR [M 0 6,Z 6 7,A 2 7 8,K 8 9] 9 [gU [z0,z0,z0,e0,e0,.ai] [] 10,W 6 2 10]<|
 q (.draw [M 0 12,Z 12 13,A 0 13 14,K 14 15,M 0 16,Z 16 17,A 1 17 18,K 18 19,Q 141 [t 15,t 19,gJ 4] 20,M 20 11,E 11 0 21,E 11 1 22,E 11 2 23,J [z0,z0,z0,e0,e0,.ai] 3,W 6 3 21,M 22 4,M 23 5] [])<|
 r [M 0 24,M 4 25,Z 24 26,A 1 26 27,W 1 27 25]<|
 r [M 0 28,M 5 29,D .neq 29 0 30,Z 28 31,A 2 31 32,W 1 32 30]<|
 r [L 6 3 33,W 6 2 33]<|
 .ret):=bj Tryz.func192
def NN: Of aD 193 43 [.tmp 2] (r [X 0 1,gF 2]<|
 gR [A 0 1 3,K 3 4,D .eql 4 6 5] 5 [A 1 1 6,L 6 6 7,C 233 [t 7] 8,M 8 9,AT 7 1 10 9,LT 6 10 11 9,CT 233 [t 11] 12 9,P 9 12 13,M 13 2]<|
 r [A 0 1 14,K 14 15,D .geq 15 1 16,M 16 17,AT 0 1 18 17,KT 18 19 17,DT .leq 19 5 20 17,P 17 20 21,M 21 22,AT 1 1 23 22,LT 6 23 24 22,CT 233 [t 24] 25 22,P 22 25 26,M 26 27,AT 7 1 28 27,LT 6 28 29 27,⟨.build [z0,z0,z0,e0,e0,.ai] [],(some 30),some (27,true)⟩,CT 234 [t 29,t 30] 31 27,P 27 31 32,M 32 33,AT 13 1 34 33,KT 34 35 33,UT 35 36 33,P 33 36 37,M 37 38,AT 14 1 39 38,KT 39 40 38,UT 40 41 38,P 38 41 42,M 42 2]<|
 .ret):=bj Tryz.func193
def iS: Of aD 194 113 [.cell 4 true 6] (r [J [z0,z0,z0,e0,e0,.ai] 4]<|
 q (.block 0 (r [M 0 11,Z 11 12,A 2 12 13,K 13 14,M 14 15,MF 1 16 15,DF .eql 16 7 17 15,O 15 17 18,M 18 10]<|
 c 10 (r [M 0 19,C 235 [t 19] 20,W 6 4 20]<|
 .ret) (r [M 1 22,D .eql 22 0 23,M 23 24,MT 0 25 24,CT 236 [t 25,gJ 1,gS [105,102]] 26 24,P 24 26 27,M 27 21]<|
 c 21 (r [M 0 28,Z 28 29,A 1 29 30,K 30 31,D .add 31 1 32,Z 28 33,A 1 33 34,W 1 34 32]<|
 r [M 0 35,C 194 [t 35,.c z0] 36,J [z0,z0,z0,e0,e0,.ai] 5,W 6 5 36]<|
 r [M 0 37,C 237 [t 37,gJ 1,gS [116,104,101,110]] 38]<|
 r [M 0 39,C 194 [t 39,.c z0] 40,J [z0,z0,z0,e0,e0,.ai] 6,W 6 6 40]<|
 r [M 0 41,C 237 [t 41,gJ 1,gS [101,108,115,101]] 42]<|
 r [M 0 43,C 194 [t 43,.c z0] 44,J [z0,z0,z0,e0,e0,.ai] 7,W 6 7 44]<|
 r [L 6 5 45,L 6 6 46,L 6 7 47,gB true 6 (.agg [z0,z0,z0,e0,e0,.ai]) 3 [(0,t 45),(1,t 46),(2,t 47)] 48,gU [z0,z0,z0,e0,e0,.ai] [(0,1,gJ 16),(5,1,t 48)] 49,W 6 4 49]<|
 .ret) (r [M 1 51,D .eql 51 6 52,M 52 53,MT 0 54 53,CT 236 [t 54,gJ 4,gS [45]] 55 53,P 53 55 56,M 56 50]<|
 c 50 (r [M 0 57,Z 57 58,A 1 58 59,K 59 60,D .add 60 1 61,Z 57 62,A 1 62 63,W 1 63 61]<|
 r [M 0 64,C 194 [t 64,gJ 6] 65,gB true 6 (.agg [z0,z0,z0,e0,e0,.ai]) 1 [(0,t 65)] 66,gU [z0,z0,z0,e0,e0,.ai] [(0,1,gJ 3),(5,1,t 66)] 67,W 6 4 67]<|
 .ret) (r [M 1 69,D .eql 69 0 70,M 70 71,MF 1 72 71,DF .eql 72 6 73 71,O 71 73 74,M 74 68]<|
 c 68 (r [M 0 75,M 1 76,D .add 76 1 77,C 194 [t 75,t 77] 78,W 6 4 78]<|
 .ret) k)))))<|
 r [M 0 79,M 1 80,D .add 80 1 81,C 194 [t 79,t 81] 82,J [z0,z0,z0,e0,e0,.ai] 8,W 6 8 82]<|
 q (gL 1 [M 0 83,Z 83 84,A 2 84 85,K 85 86,U 86 87] 87 ((
 .block 2 (r [M 0 88,M 1 89,C 238 [t 88,t 89] 90,M 90 9]<|
 gR [M 9 91,D .eql 91 0 92] 92 [L 6 8 93,W 6 4 93]<|
 r [M 0 94,Z 94 95,A 1 95 96,K 96 97,D .add 97 1 98,Z 94 99,A 1 99 100,W 1 100 98]<|
 q (.draw [M 9 101,L 6 8 102,M 0 103,M 1 104,D .add 104 1 105,bq (.n7 (.c (.fn (.func 194) [] [])) [t 103,t 105]) 106,gB true 6 (.agg [z0,z0,z0,e0,e0,.ai]) 2 [(0,t 102),(1,t 106)] 107,gU [z0,z0,z0,e0,e0,.ai] [(0,1,t 101),(5,1,t 107)] 108,W 6 8 108] [(t 8,t 103)])<|
 r [M 1 109,D .eql 109 3 110]<|
 c 110 (r [L 6 8 111,W 6 4 111]<|
 .ret) k))))<|
 r [L 6 8 112,W 6 4 112]<|
 .ret):=pR ⟨[],[],[],[],[106],[]⟩ Tryz.func194
def K5: Of aD 195 20 [.tmp 2] (r [V z0 2]<|
 q (.block 0 (r [M 0 4,D .eql 4 1 5,M 5 6,MF 0 7 6,DF .eql 7 2 8 6,O 6 8 9,M 9 3]<|
 c 3 (r [V z0 2]<|
 .ret) (r [M 0 11,D .eql 11 3 12,M 12 10]<|
 c 10 (r [V (i6 1) 2]<|
 .ret) (r [M 0 14,D .eql 14 16 15,M 15 13]<|
 c 13 (r [V (i6 3) 2]<|
 .ret) (r [M 0 17,C 239 [t 17] 18,bq (.bin .neq (t 18) (.c e0)) 19,M 19 16]<|
 c 16 (r [V (i6 2) 2]<|
 .ret) k)))))<|
 r [V (i6 (-1)) 2]<|
 .ret):=bj Tryz.func195
def zc: Of aD 196 123 [.tmp 4,.tmp 5] (r [V z0 4,V z0 5]<|
 r [gF 6]<|
 r [V (i6 3) 7]<|
 q (r [M 0 8]<|
 .block 0 (r [D .eql 8 3 10,M 10 9]<|
 c 9 (r [M 1 11,gI false 1 11 0 12,K 12 13,C 88 [t 13,gJ 1] 14,M 14 6]<|
 R [V (i6 1) 7]) (q (r [D .eql 8 5 16,M 16 15]<|
 c 15 k (r [D .eql 8 6 17,M 17 15]<|
 c 15 k (R [D .eql 8 7 18,M 18 15])))<|
 c 15 (r [M 1 19,gI false 1 19 0 20,K 20 21,C 88 [t 21,gJ 1] 22,M 22 23,MT 1 24 23,⟨.fh ⟨false,1⟩ none (t 24) (gJ 1),(some 25),some (23,true)⟩,KT 25 26 23,CT 88 [t 26,gJ 1] 27 23,P 23 27 28,M 28 6]<|
 R [V (i6 1) 7]) (r [D .eql 8 4 30,M 30 29]<|
 c 29 (r [V (i6 1) 7]<|
 q (q (.draw [M 1 31,gI false 1 31 0 32,K 32 33,M 1 34,gI false 1 34 1 35,K 35 36,Q 240 [t 33,t 36] 37,D .eql 37 2 38] [])<|
 c 38 (R [V (i6 2) 7]) k)<|
 R [M 1 39,gI false 1 39 0 40,K 40 41,M 7 42,C 88 [t 41,t 42] 43,M 43 44,MT 1 45 44,⟨.fh ⟨false,1⟩ none (t 45) (gJ 1),(some 46),some (44,true)⟩,KT 46 47 44,MT 7 48 44,CT 88 [t 47,t 48] 49 44,P 44 49 50,M 50 6]) (q (r [D .eql 8 8 52,M 52 51]<|
 c 51 k (R [D .eql 8 9 53,M 53 51]))<|
 c 51 (.draw [M 1 54,gI false 1 54 0 55,K 55 56,M 1 57,gI false 1 57 1 58,K 58 59,Q 88 [t 56,t 59] 60,M 60 6] []) (q (r [D .eql 8 10 62,M 62 61]<|
 c 61 k (r [D .eql 8 11 63,M 63 61]<|
 c 61 k (r [D .eql 8 12 64,M 64 61]<|
 c 61 k (R [D .eql 8 13 65,M 65 61]))))<|
 c 61 (.draw [M 1 66,gI false 1 66 0 67,K 67 68,M 1 69,gI false 1 69 1 70,K 70 71,Q 88 [t 68,t 71] 72,M 72 73,MT 1 74 73,⟨.fh ⟨false,1⟩ none (t 74) (.c z0),(some 75),some (73,true)⟩,KT 75 76 73,DT .neq 76 3 77 73,P 73 77 78,M 78 79,MT 1 80 79,⟨.fh ⟨false,1⟩ none (t 80) (gJ 1),(some 81),some (79,true)⟩,KT 81 82 79,DT .neq 82 3 83 79,P 79 83 84,M 84 6] []) (q (r [D .eql 8 14 86,M 86 85]<|
 c 85 k (R [D .eql 8 15 87,M 87 85]))<|
 c 85 (R [M 1 88,gI false 1 88 0 89,K 89 90,C 88 [t 90,gJ 3] 91,M 91 92,MT 1 93 92,⟨.fh ⟨false,1⟩ none (t 93) (gJ 1),(some 94),some (92,true)⟩,KT 94 95 92,CT 88 [t 95,gJ 3] 96 92,P 92 96 97,M 97 6]) (r [D .eql 8 16 99,M 99 98]<|
 c 98 (q (.draw [M 1 100,gI false 1 100 0 101,K 101 102,Q 88 [t 102,gJ 3] 103,M 103 104,MT 1 105 104,⟨.fh ⟨false,1⟩ none (t 105) (gJ 1),(some 106),some (104,true)⟩,KT 106 107 104,MT 1 108 104,⟨.fh ⟨false,1⟩ none (t 108) (gJ 2),(some 109),some (104,true)⟩,KT 109 110 104,QT 88 [t 107,t 110] 111 104,P 104 111 112,M 112 6] [])<|
 .draw [M 1 113,gI false 1 113 1 114,K 114 115,M 1 116,gI false 1 116 2 117,K 117 118,Q 240 [t 115,t 118] 119,M 119 7] []) (R [gF 6])))))))))<|
 gR [M 6 120,U 120 121] 121 [V z0 4,V (i6 14) 5]<|
 r [M 7 122,M 122 4,V z0 5]<|
 .ret):=bj Tryz.func196
def K6: Of aD 197 23 [.tmp 2] (r [gF 2]<|
 q (r [V z0 3]<|
 gL 0 [M 3 4,M 0 5,S 5 6,B .lss 4 6 7] 7 ((
 q (.block 1 (r [M 0 10,M 3 11,bq (.jh (t 10) (t 11)) 12,bq (.bin .lss (t 12) (.c (.int .u8 32))) 13,M 13 14,MF 0 15 14,MF 3 16 14,⟨.jh (t 15) (t 16),(some 17),some (14,false)⟩,⟨.bin .gtr (t 17) (.c (.int .u8 126)),(some 18),some (14,false)⟩,O 14 18 19]<|
 c 19 (r [gF 2]<|
 .ret) k))<|
 R [M 3 8,D .add 8 1 9,M 9 3])))<|
 r [M 0 20,S 20 21,D .leq 21 40 22,M 22 2]<|
 .ret):=bj Tryz.func197
def K7: Of aD 198 78 [.tmp 8] (r [X 0 4,X 1 5,X 2 6,X 3 7,gF 8]<|
 gR [A 0 4 11,K 11 12,D .eql 12 1 13] 13 [L 3 5 14,L 3 6 15,bq (.jD false true [.i,.i,.s] (t 14) (t 15)) 16,M 16 8]<|
 gR [A 0 5 17,K 17 18,D .eql 18 0 19,M 19 20,AF 0 6 21 20,KF 21 22 20,DF .eql 22 0 23 20,O 20 23 24,M 24 25,AF 0 7 26 25,KF 26 27 25,DF .eql 27 0 28 25,O 25 28 29] 29 [gF 8]<|
 q (.draw [L 3 5 30,L 3 6 31,Q 92 [t 30,t 31] 32,L 3 5 33,L 3 7 34,Q 92 [t 33,t 34] 35,M 32 9,M 35 10] [])<|
 q (r [A 0 4 36,K 36 37]<|
 .block 0 (r [D .eql 37 2 39,M 39 38]<|
 c 38 (r [M 9 40,D .lss 40 0 41,M 41 8]<|
 .ret) (r [D .eql 37 3 43,M 43 42]<|
 c 42 (r [M 9 44,D .leq 44 0 45,M 45 8]<|
 .ret) (r [D .eql 37 4 47,M 47 46]<|
 c 46 (r [M 9 48,D .gtr 48 0 49,M 49 8]<|
 .ret) (r [D .eql 37 5 51,M 51 50]<|
 c 50 (r [M 9 52,D .geq 52 0 53,M 53 8]<|
 .ret) k)))))<|
 r [M 9 54,D .gtr 54 0 55,M 55 56,MF 9 57 56,DF .eql 57 0 58 56,MF 58 59 56,AT 13 4 60 59,KT 60 61 59,UT 61 62 59,PF 59 62 63 56,O 56 63 64,M 64 65,MT 10 66 65,DT .lss 66 0 67 65,MT 67 68 65,MF 10 69 68,DF .eql 69 0 70 68,MF 70 71 68,AT 14 4 72 71,KT 72 73 71,UT 73 74 71,PF 71 74 75 68,OT 68 75 76 65,P 65 76 77,M 77 8]<|
 .ret):=bj Tryz.func198
def CY: Of aD 199 15 [.cell 4 true 3] (r [J [z0,z0,e0] 4]<|
 q (r [M 0 5,Z 5 6,A 2 6 7,K 7 8,D .eql 8 0 9]<|
 c 9 (R [M 0 10,M 1 11,Z 10 12,A 2 12 13,W 1 13 11]) k)<|
 r [gU [z0,z0,e0] [] 14,W 3 4 14]<|
 .ret):=bj Tryz.func199
def fY: Of aD 200 49 [.cell 8 true 3] (r [J [z0,z0,e0] 8]<|
 r [V z0 9,V z0 10]<|
 q (r [M 1 11]<|
 .block 0 (r [D .eql 11 4 19,M 19 18]<|
 c 18 (R [M 2 21,M 3 22,C 93 [t 21,t 22] 23,M 23 20,E 20 0 24,E 20 1 25,M 24 9,M 25 10]) (r [D .eql 11 5 27,M 27 26]<|
 c 26 (R [M 2 29,M 3 30,C 241 [t 29,t 30] 31,M 31 28,E 28 0 32,E 28 1 33,M 32 9,M 33 10]) (r [D .eql 11 6 35,M 35 34]<|
 c 34 (R [M 2 37,M 3 38,C 242 [t 37,t 38] 39,M 39 36,E 36 0 40,E 36 1 41,M 40 9,M 41 10]) (R [M 2 13,M 3 14,C 243 [t 13,t 14] 15,M 15 12,E 12 0 16,E 12 1 17,M 16 9,M 17 10])))))<|
 gR [M 10 42,D .neq 42 0 43] 43 [M 0 44,M 10 45,C 199 [t 44,t 45] 46,W 3 8 46]<|
 r [M 9 47,gU [z0,z0,e0] [(0,1,gJ 1),(1,1,t 47)] 48,W 3 8 48]<|
 .ret):=bj Tryz.func200
def K8: Of aD 201 6 [.cell 2 true 3] (r [J [z0,z0,e0] 2]<|
 gR [M 0 3] 3 [gU [z0,z0,e0] [(0,1,gJ 3),(1,1,gJ 1)] 4,W 3 2 4]<|
 r [gU [z0,z0,e0] [(0,1,gJ 3)] 5,W 3 2 5]<|
 .ret):=bj Tryz.func201
def CZ: Of aD 202 78 [.cell 8 true 3] (r [X 2 6,X 3 7,J [z0,z0,e0] 8]<|
 r [M 1 11,D .eql 11 4 12,M 12 13,AT 0 6 14 13,KT 14 15 13,DT .eql 15 2 16 13,MT 16 17 13,AF 0 7 18 17,KF 18 19 17,DF .eql 19 2 20 17,OT 17 20 21 13,P 13 21 22,M 22 9]<|
 r [V (i6 1) 10]<|
 q (r [M 9 23]<|
 c 23 (R [V (i6 2) 10]) k)<|
 q (.block 0 (r [A 0 6 25,K 25 26,M 10 27,C 88 [t 26,t 27] 28,U 28 29,M 29 30,AF 0 7 31 30,KF 31 32 30,MF 10 33 30,CF 88 [t 32,t 33] 34 30,UF 34 35 30,O 30 35 36,M 36 24]<|
 c 24 (r [M 0 37,C 199 [t 37,gJ 14] 38,W 3 8 38]<|
 .ret) (r [A 0 6 40,K 40 41,D .eql 41 0 42,M 42 43,AF 0 7 44 43,KF 44 45 43,DF .eql 45 0 46 43,O 43 46 47,M 47 39]<|
 c 39 (r [gU [z0,z0,e0] [] 48,W 3 8 48]<|
 .ret) (r [M 9 50,M 50 51,AT 2 6 52 51,KT 52 53 51,ST 53 54 51,AT 2 7 55 51,KT 55 56 51,ST 56 57 51,BT .add 54 57 58 51,DT .gtr 58 40 59 51,P 51 59 60,M 60 49]<|
 c 49 (r [M 0 61,C 199 [t 61,gJ 5] 62,W 3 8 62]<|
 .ret) (r [M 9 64,M 64 63]<|
 c 63 (r [A 2 6 65,K 65 66,A 2 7 67,K 67 68,B .add 66 68 69,gU [z0,z0,e0] [(0,1,gJ 2),(2,1,t 69)] 70,W 3 8 70]<|
 .ret) k)))))<|
 r [M 0 71,M 1 72,A 1 6 73,K 73 74,A 1 7 75,K 75 76,C 200 [t 71,t 72,t 74,t 76] 77,W 3 8 77]<|
 .ret):=bj Tryz.func202
def yf: Of aD 203 74 [.cell 8 true 3] (r [X 2 6,X 3 7,J [z0,z0,e0] 8]<|
 gR [A 0 6 10,K 10 11,A 0 7 12,K 12 13,C 88 [t 11,t 13] 14,U 14 15] 15 [M 0 16,C 199 [t 16,gJ 14] 17,W 3 8 17]<|
 gR [M 1 18,D .eql 18 8 19,M 19 20,MF 1 21 20,DF .eql 21 9 22 20,O 20 22 23] 23 [L 3 6 24,L 3 7 25,bq (.jD false true [.i,.i,.s] (t 24) (t 25)) 26,M 1 27,D .eql 27 8 28,bq (.jD false false [.b] (t 26) (t 28)) 29,C 201 [t 29] 30,W 3 8 30]<|
 q (.block 0 (r [A 0 6 32,K 32 33,D .eql 33 3 34,M 34 35,AF 0 7 36 35,KF 36 37 35,DF .eql 37 3 38 35,O 35 38 39,M 39 31]<|
 c 31 (r [M 0 40,C 199 [t 40,gJ 14] 41,W 3 8 41]<|
 .ret) (r [A 0 6 43,K 43 44,D .eql 44 0 45,M 45 46,AF 0 7 47 46,KF 47 48 46,DF .eql 48 0 49 46,O 46 49 50,M 50 42]<|
 c 42 (r [gU [z0,z0,e0] [] 51,W 3 8 51]<|
 .ret) k)))<|
 r [L 3 6 52,L 3 7 53,C 92 [t 52,t 53] 54,M 54 9]<|
 q (r [M 1 55]<|
 .block 1 (r [D .eql 55 10 57,M 57 56]<|
 c 56 (r [M 9 58,D .lss 58 0 59,C 201 [t 59] 60,W 3 8 60]<|
 .ret) (r [D .eql 55 11 62,M 62 61]<|
 c 61 (r [M 9 63,D .leq 63 0 64,C 201 [t 64] 65,W 3 8 65]<|
 .ret) (r [D .eql 55 12 67,M 67 66]<|
 c 66 (r [M 9 68,D .gtr 68 0 69,C 201 [t 69] 70,W 3 8 70]<|
 .ret) k))))<|
 r [M 9 71,D .geq 71 0 72,C 201 [t 72] 73,W 3 8 73]<|
 .ret):=bj Tryz.func203
def Ab: Of aD 204 49 [.cell 8 true 3] (r [X 2 6,X 3 7,J [z0,z0,e0] 8]<|
 r [M 1 10,D .eql 10 15 11,C 201 [t 11] 12,J [z0,z0,e0] 9,W 3 9 12]<|
 q (.block 0 (r [A 0 6 14,K 14 15,C 88 [t 15,gJ 3] 16,U 16 17,M 17 18,AF 0 7 19 18,KF 19 20 18,CF 88 [t 20,gJ 3] 21 18,UF 21 22 18,O 18 22 23,M 23 13]<|
 c 13 (r [M 0 24,C 199 [t 24,gJ 14] 25,W 3 8 25]<|
 .ret) (r [L 3 6 27,L 3 9 28,bq (.jD false true [.i,.i,.s] (t 27) (t 28)) 29,M 29 30,LF 3 7 31 30,LF 3 9 32 30,⟨.jD false true [.i,.i,.s] (t 31) (t 32),(some 33),some (30,false)⟩,O 30 33 34,M 34 26]<|
 c 26 (r [L 3 9 35,W 3 8 35]<|
 .ret) (r [A 0 6 37,K 37 38,D .eql 38 0 39,M 39 40,AF 0 7 41 40,KF 41 42 40,DF .eql 42 0 43 40,O 40 43 44,M 44 36]<|
 c 36 (r [gU [z0,z0,e0] [] 45,W 3 8 45]<|
 .ret) k))))<|
 r [M 1 46,D .eql 46 14 47,C 201 [t 47] 48,W 3 8 48]<|
 .ret):=bj Tryz.func204
def K9: Of aD 205 8 [.tmp 3] (r [X 0 2,gF 3]<|
 r [A 0 2 4,K 4 5,K 1 6,B .eql 5 6 7,M 7 3]<|
 .ret):=bj Tryz.func205
def Rz: Of aD 206 32 [.cell 2 true 5,.tmp 3] (r [J [z0,e0,z0,z0,z0] 2,V z0 3]<|
 q (r [M 0 5,bq (.jh (t 5) (.c z0)) 6,M 6 4]<|
 .block 0 (r [M 4 8,C 150 [t 8] 9,M 9 7]<|
 c 7 (r [M 0 10,C 244 [t 10] 11,E 11 0 12,E 11 1 13,W 5 2 12,M 13 3]<|
 .ret) (r [M 4 15,C 153 [t 15] 16,M 16 14]<|
 c 14 (r [M 0 17,C 245 [t 17] 18,E 18 0 19,E 18 1 20,W 5 2 19,M 20 3]<|
 .ret) (r [M 4 22,bq (.bin .eql (t 22) (.c (.int .u8 34))) 23,M 23 21]<|
 c 21 (r [M 0 24,C 246 [t 24] 25,E 25 0 26,E 25 1 27,W 5 2 26,M 27 3]<|
 .ret) k))))<|
 r [M 0 28,C 247 [t 28] 29,E 29 0 30,E 29 1 31,W 5 2 30,M 31 3]<|
 .ret):=bj Tryz.func206
def RA: Of aD 207 34 [.tmp 2] (r [gF 2]<|
 r [M 0 3,N 3 4,D .gtr 4 1 5,M 5 6,MT 0 7 6,⟨.fh ⟨true,4⟩ none (t 7) (.c z0),(some 8),some (6,true)⟩,AT 0 8 9 6,KT 9 10 6,DT .eql 10 1 11 6,P 6 11 12,M 12 13,MT 0 14 13,⟨.fh ⟨true,4⟩ none (t 14) (.c z0),(some 15),some (13,true)⟩,AT 1 15 16 13,KT 16 17 13,⟨.bin .eql (t 17) (gS [110,111,116]),(some 18),some (13,true)⟩,P 13 18 19,M 19 20,MT 0 21 20,⟨.fh ⟨true,4⟩ none (t 21) (gJ 1),(some 22),some (20,true)⟩,AT 0 22 23 20,KT 23 24 20,DT .eql 24 4 25 20,P 20 25 26,M 26 27,MT 0 28 27,⟨.fh ⟨true,4⟩ none (t 28) (gJ 1),(some 29),some (27,true)⟩,AT 1 29 30 27,KT 30 31 27,⟨.bin .eql (t 31) (gS [40]),(some 32),some (27,true)⟩,P 27 32 33,M 33 2]<|
 .ret):=bj Tryz.func207
def C0: Of aD 208 51 [.cell 2 true 15] (r [J [z0,z0,z0,z0,e0,e0,.ai,z0,z0,z0,e0,e0,.ai,.bool false,.bool false] 2]<|
 q (r [V (i6 2) 3]<|
 gL 0 [M 3 5,D .leq 5 5 6] 6 ((
 q (.block 1 (r [M 0 9,M 3 10,C 248 [t 10] 11,C 209 [t 9,t 11] 12]<|
 c 12 (r [M 3 13,M 0 14,C 249 [t 14] 15,gU [z0,z0,z0,z0,e0,e0,.ai,z0,z0,z0,e0,e0,.ai,.bool false,.bool false] [(0,1,t 13),(1,6,t 15)] 16,W 15 2 16]<|
 .ret) k))<|
 R [M 3 7,D .add 7 1 8,M 8 3])))<|
 r [M 0 17,Z 17 18,A 0 18 19,C 158 [t 19] 20,bq (.bin .eql (t 20) (gS [93])) 21,gU [z0,z0,z0,z0,e0,e0,.ai,z0,z0,z0,e0,e0,.ai,.bool false,.bool false] [(0,1,gJ 6),(13,1,t 21)] 22,J [z0,z0,z0,z0,e0,e0,.ai,z0,z0,z0,e0,e0,.ai,.bool false,.bool false] 4,W 15 4 22]<|
 gR [M 0 23,C 209 [t 23,gS [91]] 24,U 24 25,M 25 26,MT 0 27 26,CT 209 [t 27,gS [93]] 28 26,UT 28 29 26,P 26 29 30] 30 [M 0 31,C 249 [t 31] 32,gU [z0,z0,z0,z0,e0,e0,.ai,z0,z0,z0,e0,e0,.ai,.bool false,.bool false] [(0,1,gJ 1),(1,6,t 32)] 33,W 15 2 33]<|
 r [M 0 34,C 249 [t 34] 35,A 1 4 36,W 6 36 35]<|
 r [M 0 37,C 210 [t 37,gS [46,46]] 38]<|
 r [M 0 39,C 249 [t 39] 40,A 7 4 41,W 6 41 40]<|
 q (r [M 0 42,C 209 [t 42,gS [91]] 43,A 14 4 44,W 1 44 43]<|
 r [A 14 4 45,K 45 46,U 46 47]<|
 c 47 (R [M 0 48,C 210 [t 48,gS [93]] 49]) k)<|
 r [L 15 4 50,W 15 2 50]<|
 .ret):=bj Tryz.func208
def FK: Of aD 209 26 [.tmp 4] (r [gF 4]<|
 gR [M 0 5,Z 5 6,A 2 6 7,K 7 8,M 8 9,MF 0 10 9,ZF 10 11 9,AF 0 11 12 9,CF 158 [t 12] 13 9,MF 1 14 9,BF .neq 13 14 15 9,O 9 15 16] 16 [gF 4]<|
 r [M 0 17,Z 17 18,A 0 18 19,A 1 19 20,K 20 21,D .add 21 1 22,Z 17 23,A 0 23 24,A 1 24 25,W 1 25 22]<|
 r [gT 4]<|
 .ret):=bj Tryz.func209
def C1: Of aD 210 11 [] (r [M 0 4,M 1 5,C 209 [t 4,t 5] 6,U 6 7]<|
 c 7 (R [M 0 8,Z 8 9,A 2 9 10,⟨.store 1 (t 10) (.c (.bool true)),none,none⟩]) k):=bj Tryz.func210
def vo: Of aD 211 9 [.tmp 4] (r [gF 4]<|
 r [M 0 5,M 1 6,C 250 [t 5,t 6] 7,D .geq 7 0 8,M 8 4]<|
 .ret):=bj Tryz.func211
def I6: Of aD 212 6 [.tmp 2] (r [X 0 1,gF 2]<|
 r [L 15 1 3,C 213 [t 3] 4,U 4 5,M 5 2]<|
 .ret):=bj Tryz.func212
def NP: Of aD 213 39 [.tmp 2] (r [X 0 1,gF 2]<|
 q (.block 0 (r [A 0 1 4,K 4 5,D .eql 5 6 6,M 6 3]<|
 c 3 (r [A 1 1 7,L 6 7 8,C 251 [t 8] 9,M 9 10,AT 7 1 11 10,LT 6 11 12 10,CT 251 [t 12] 13 10,P 10 13 14,M 14 2]<|
 .ret) (r [A 0 1 16,K 16 17,D .lss 17 1 18,M 18 19,AF 0 1 20 19,KF 20 21 19,DF .gtr 21 6 22 19,O 19 22 23,M 23 15]<|
 c 15 (r [gF 2]<|
 .ret) k)))<|
 r [A 1 1 24,L 6 24 25,C 251 [t 25] 26,M 26 27,AT 7 1 28 27,LT 6 28 29 27,⟨.build [z0,z0,z0,e0,e0,.ai] [],(some 30),some (27,true)⟩,CT 252 [t 29,t 30] 31 27,P 27 31 32,M 32 33,LT 15 1 34 33,CT 253 [t 34] 35 33,⟨.build [.bool false,.bool false] [],(some 36),some (33,true)⟩,⟨.jD false true [.b,.b] (t 35) (t 36),(some 37),some (33,true)⟩,P 33 37 38,M 38 2]<|
 .ret):=bj Tryz.func213
def fA: Of aD 214 71 [.cell 4 true 6] (r [J [z0,z0,z0,e0,e0,.ai] 4]<|
 .scope 0 (q (.block 0 (r [M 0 8,Z 8 9,A 2 9 10,K 10 11,M 11 7]<|
 c 7 (r [gU [z0,z0,z0,e0,e0,.ai] [] 12,W 6 4 12]<|
 .ret) (r [M 1 14,D .eql 14 0 15,M 15 16,MT 0 17 16,CT 254 [t 17,gJ 1,gS [105,102]] 18 16,P 16 18 19,M 19 13]<|
 c 13 (r [M 0 20,C 255 [t 20] 21,W 6 4 21]<|
 .ret) (r [M 1 23,D .eql 23 0 24,M 24 22]<|
 c 22 (r [M 0 25,C 214 [t 25,gJ 1] 26,W 6 4 26]<|
 .ret) (r [M 1 28,D .eql 28 6 29,M 29 30,MT 0 31 30,CT 254 [t 31,gJ 4,gS [45]] 32 30,P 30 32 33,M 33 27]<|
 c 27 (r [M 0 34,C 214 [t 34,gJ 6] 35,gB true 6 (.agg [z0,z0,z0,e0,e0,.ai]) 1 [(0,t 35)] 36,gU [z0,z0,z0,e0,e0,.ai] [(0,1,gJ 3),(5,1,t 36)] 37,W 6 4 37]<|
 .ret) (r [M 1 39,D .geq 39 6 40,M 40 38]<|
 c 38 (r [M 0 41,C 256 [t 41] 42,W 6 4 42]<|
 .ret) k))))))<|
 r [M 0 43,M 1 44,D .add 44 1 45,C 214 [t 43,t 45] 46,J [z0,z0,z0,e0,e0,.ai] 5,W 6 5 46]<|
 q (.label 0)<|
 r [M 0 47,M 1 48,C 257 [t 47,t 48] 49,M 49 6]<|
 gR [M 6 50,D .eql 50 0 51] 51 [L 6 5 52,W 6 4 52]<|
 q (.draw [M 6 53,L 6 5 54,M 0 55,M 1 56,D .add 56 1 57,bq (.n7 (.c (.fn (.func 214) [] [])) [t 55,t 57]) 58,gB true 6 (.agg [z0,z0,z0,e0,e0,.ai]) 2 [(0,t 54),(1,t 58)] 59,gU [z0,z0,z0,e0,e0,.ai] [(0,1,t 53),(5,1,t 59)] 60,W 6 5 60] [(t 5,t 55)])<|
 q (r [M 1 61,D .neq 61 3 62,M 62 63,MT 0 64 63,ZT 64 65 63,AT 2 65 66 63,KT 66 67 63,UT 67 68 63,P 63 68 69]<|
 c 69 (.goto 0) k)<|
 r [L 6 5 70,W 6 4 70]<|
 .ret) (.seq k <|
 r [M 0 47,M 1 48,C 257 [t 47,t 48] 49,M 49 6]<|
 gR [M 6 50,D .eql 50 0 51] 51 [L 6 5 52,W 6 4 52]<|
 q (.draw [M 6 53,L 6 5 54,M 0 55,M 1 56,D .add 56 1 57,bq (.n7 (.c (.fn (.func 214) [] [])) [t 55,t 57]) 58,gB true 6 (.agg [z0,z0,z0,e0,e0,.ai]) 2 [(0,t 54),(1,t 58)] 59,gU [z0,z0,z0,e0,e0,.ai] [(0,1,t 53),(5,1,t 59)] 60,W 6 5 60] [(t 5,t 55)])<|
 q (r [M 1 61,D .neq 61 3 62,M 62 63,MT 0 64 63,ZT 64 65 63,AT 2 65 66 63,KT 66 67 63,UT 67 68 63,P 63 68 69]<|
 c 69 (.goto 0) k)<|
 r [L 6 5 70,W 6 4 70]<|
 .ret)):=pR ⟨[],[],[],[],[58],[]⟩ Tryz.func214
def uB: Of aD 215 82 [.tmp 4,.tmp 5] (r [V z0 4,gF 5]<|
 q (r [M 0 7]<|
 .block 0 (q (r [D .eql 7 3 9,M 9 8]<|
 c 8 k (r [D .eql 7 5 10,M 10 8]<|
 c 8 k (r [D .eql 7 6 11,M 11 8]<|
 c 8 k (R [D .eql 7 7 12,M 12 8]))))<|
 c 8 (r [M 1 13,C 258 [gJ 1,t 13] 14,V (i6 1) 4,M 14 5]<|
 .ret) (r [D .eql 7 4 16,M 16 15]<|
 c 15 (q (.draw [M 1 17,gI false 1 17 0 18,K 18 19,M 1 20,gI false 1 20 1 21,K 21 22,Q 259 [t 19,t 22] 23,M 23 6] [])<|
 q (r [M 6 24,D .neq 24 2 25]<|
 c 25 (R [V (i6 1) 6]) k)<|
 r [M 6 26,M 6 27,M 1 28,C 258 [t 27,t 28] 29,M 26 4,M 29 5]<|
 .ret) (q (r [D .eql 7 8 31,M 31 30]<|
 c 30 k (R [D .eql 7 9 32,M 32 30]))<|
 c 30 (q (.draw [M 1 33,gI false 1 33 0 34,K 34 35,M 1 36,gI false 1 36 1 37,K 37 38,Q 114 [t 35,t 38] 39,V (i6 3) 4,M 39 5] [])<|
 .ret) (q (r [D .eql 7 10 41,M 41 40]<|
 c 40 k (r [D .eql 7 11 42,M 42 40]<|
 c 40 k (r [D .eql 7 12 43,M 43 40]<|
 c 40 k (R [D .eql 7 13 44,M 44 40]))))<|
 c 40 (q (.draw [M 1 45,gI false 1 45 0 46,K 46 47,M 1 48,gI false 1 48 1 49,K 49 50,Q 114 [t 47,t 50] 51,M 51 52,MT 1 53 52,QT 260 [t 53,gJ 3] 54 52,UT 54 55 52,P 52 55 56,V (i6 3) 4,M 56 5] [])<|
 .ret) (q (r [D .eql 7 14 58,M 58 57]<|
 c 57 k (R [D .eql 7 15 59,M 59 57]))<|
 c 57 (r [M 1 60,C 258 [gJ 3,t 60] 61,V (i6 3) 4,M 61 5]<|
 .ret) k))))))<|
 q (.draw [M 1 62,gI false 1 62 1 63,K 63 64,M 1 65,gI false 1 65 2 66,K 66 67,Q 259 [t 64,t 67] 68,M 1 69,gI false 1 69 0 70,K 70 71,Q 114 [t 71,gJ 3] 72,M 72 73,MT 1 74 73,⟨.fh ⟨false,1⟩ none (t 74) (gJ 1),(some 75),some (73,true)⟩,KT 75 76 73,MT 1 77 73,⟨.fh ⟨false,1⟩ none (t 77) (gJ 2),(some 78),some (73,true)⟩,KT 78 79 73,QT 114 [t 76,t 79] 80 73,P 73 80 81,M 68 4,M 81 5] [])<|
 .ret):=bj Tryz.func215
def Ac: Of aD 216 77 [.tmp 6] (r [X 0 3,X 1 4,gF 6]<|
 q (r [A 0 3 9,K 9 10,D .eql 10 1 11]<|
 c 11 (q (.draw [L 3 4 12,M 2 13,gI true 3 13 0 14,L 3 14 15,bq (.jD false true [.i,.i,.s] (t 12) (t 15)) 16,M 16 6] [])<|
 .ret) k)<|
 gR [A 0 4 17,K 17 18,D .eql 18 0 19,M 19 20,MF 2 21 20,⟨.build [z0,z0,e0] [],(some 22),some (20,false)⟩,CF 261 [t 21,t 22] 23 20,O 20 23 24] 24 [gF 6]<|
 q (.draw [L 3 4 25,M 2 26,gI true 3 26 0 27,L 3 27 28,Q 123 [t 25,t 28] 29,M 29 7] [])<|
 q (r [A 0 3 30,K 30 31]<|
 .block 0 (r [D .eql 31 2 33,M 33 32]<|
 c 32 (r [M 7 34,D .lss 34 0 35,M 35 6]<|
 .ret) (r [D .eql 31 3 37,M 37 36]<|
 c 36 (r [M 7 38,D .leq 38 0 39,M 39 6]<|
 .ret) (r [D .eql 31 4 41,M 41 40]<|
 c 40 (r [M 7 42,D .gtr 42 0 43,M 43 6]<|
 .ret) (r [D .eql 31 5 45,M 45 44]<|
 c 44 (r [M 7 46,D .geq 46 0 47,M 47 6]<|
 .ret) k)))))<|
 q (.draw [L 3 4 48,M 2 49,gI true 3 49 1 50,L 3 50 51,Q 123 [t 48,t 51] 52,M 52 8] [])<|
 r [M 7 53,D .gtr 53 0 54,M 54 55,MF 7 56 55,DF .eql 56 0 57 55,MF 57 58 55,AT 13 3 59 58,KT 59 60 58,UT 60 61 58,PF 58 61 62 55,O 55 62 63,M 63 64,MT 8 65 64,DT .lss 65 0 66 64,MT 66 67 64,MF 8 68 67,DF .eql 68 0 69 67,MF 69 70 67,AT 14 3 71 70,KT 71 72 70,UT 72 73 70,PF 70 73 74 67,OT 67 74 75 64,P 64 75 76,M 76 6]<|
 .ret):=bj Tryz.func216
def I7: Of aD 217 21 [.tmp 2] (r [V z0 2]<|
 q (.block 0 (r [M 0 4,D .eql 4 1 5,M 5 6,MF 0 7 6,DF .eql 7 2 8 6,O 6 8 9,M 9 3]<|
 c 3 (r [V z0 2]<|
 .ret) (r [M 0 11,D .eql 11 3 12,M 12 10]<|
 c 10 (r [V (i6 1) 2]<|
 .ret) (r [M 0 14,D .eql 14 16 15,M 15 13]<|
 c 13 (r [V (i6 3) 2]<|
 .ret) (r [M 0 17,C 262 [t 17] 18,bq (.field false 2 1 (t 18)) 19,D .gtr 19 0 20,M 20 16]<|
 c 16 (r [V (i6 2) 2]<|
 .ret) k)))))<|
 r [V (i6 (-1)) 2]<|
 .ret):=bj Tryz.func217
def vp: Of aD 218 9 [.tmp 4] (r [gF 4]<|
 r [M 0 5,M 1 6,C 263 [t 5,t 6] 7,D .geq 7 0 8,M 8 4]<|
 .ret):=bj Tryz.func218
def FL: Of aD 219 6 [.tmp 2] (r [X 0 1,gF 2]<|
 r [L 6 1 3,C 169 [t 3] 4,U 4 5,M 5 2]<|
 .ret):=bj Tryz.func219
def Cw: Of aD 220 6 [] (r [M 0 2,D .neq 2 0 3]<|
 c 3 (R [M 0 4,bq (.uN 32 (t 4)) 5,⟨.panic (t 5),none,none⟩]) k):=bj Tryz.func220
def DL: Of aD 221 16 [.cell 4 true 3] (r [J [z0,z0,e0] 4]<|
 q (r [M 0 5,S 5 6,M 1 7,S 7 8,B .add 6 8 9,D .gtr 9 40 10]<|
 c 10 (R [C 220 [gJ 5] 11]) k)<|
 r [M 0 12,M 1 13,B .add 12 13 14,gU [z0,z0,e0] [(0,1,gJ 2),(2,1,t 14)] 15,W 3 4 15]<|
 .ret):=bj Tryz.func221
def qM: Of aD 222 38 [.cell 6 true 3] (r [J [z0,z0,e0] 6]<|
 q (r [M 0 7]<|
 .block 0 (r [D .eql 7 4 9,M 9 8]<|
 c 8 (r [M 1 10,M 2 11,C 228 [t 10,t 11] 12,E 12 0 13,E 12 1 14,C 172 [t 13,t 14] 15,W 3 6 15]<|
 .ret) (r [D .eql 7 5 17,M 17 16]<|
 c 16 (r [M 1 18,M 2 19,C 173 [t 18,t 19] 20,E 20 0 21,E 20 1 22,C 172 [t 21,t 22] 23,W 3 6 23]<|
 .ret) (r [D .eql 7 6 25,M 25 24]<|
 c 24 (r [M 1 26,M 2 27,C 264 [t 26,t 27] 28,E 28 0 29,E 28 1 30,C 172 [t 29,t 30] 31,W 3 6 31]<|
 .ret) k))))<|
 r [M 1 32,M 2 33,C 265 [t 32,t 33] 34,E 34 0 35,E 34 1 36,C 172 [t 35,t 36] 37,W 3 6 37]<|
 .ret):=bj Tryz.func222
def zd: Of aD 223 18 [.tmp 4] (r [X 0 2,X 1 3,V z0 4]<|
 r [A 0 2 6,K 6 7,M 7 5]<|
 q (r [M 5 8,D .eql 8 0 9]<|
 c 9 (R [A 0 3 10,K 10 11,M 11 5]) k)<|
 r [M 5 12,L 3 2 13,L 3 3 14,gB true 3 (.agg [z0,z0,e0]) 2 [(0,t 13),(1,t 14)] 15,C 171 [t 12,t 15] 16]<|
 r [M 5 17,M 17 4]<|
 .ret):=bj Tryz.func223
def p6: Of aD 224 53 [] (r [M 1 10,D .add 10 1 11,M 11 8]<|
 gL 0 [M 8 12,M 2 13,B .lss 12 13 14] 14 ((
 q (.block 1 (r [M 8 17,M 17 9]<|
 .block 2 (.loop (q (q (.draw [M 9 18,M 1 19,B .gtr 18 19 20,M 20 21,MT 3 22 21,MT 0 23 21,MT 9 24 21,IT false 1 23 24 25 21,KT 25 26 21,MT 0 27 21,MT 9 28 21,DT .sub 28 1 29 21,IT false 1 27 29 30 21,KT 30 31 21,⟨.call true (t 22) [t 26,t 31],(some 32),some (21,true)⟩,DT .lss 32 0 33 21,P 21 33 34] [])<|
 c 34 k (.exit 2))<|
 q (.block 3 (.draw [M 0 37,M 9 38,M 0 39,M 9 40,D .sub 40 1 41,M 0 42,M 9 43,D .sub 43 1 44,I false 1 42 44 45,K 45 46,M 0 47,M 9 48,I false 1 47 48 49,K 49 50,I false 1 37 38 51,W 1 51 46,I false 1 39 41 52,W 1 52 50] []))<|
 R [M 9 35,D .sub 35 1 36,M 36 9]))))<|
 R [M 8 15,D .add 15 1 16,M 16 8]))):=bj Tryz.func224
def j5: Of aD 225 220 [] (q (r [M 2 25,M 1 26,B .sub 25 26 27,D .eql 27 1 28]<|
 c 28 (r [M 2 29,M 29 10]<|
 r [M 3 30,M 30 11]<|
 q (gL 0 [M 10 31,M 11 32,B .lss 31 32 33] 33 ((
 .block 1 (r [M 10 34,M 11 35,B .add 34 35 36,bq (.jE .u64 (t 36)) 37,bq (.bin .shr (t 37) (.c (.int .u64 1))) 38,bq (.jE .i64 (t 38)) 39,M 39 12]<|
 q (.draw [M 4 40,M 0 41,M 12 42,I false 1 41 42 43,K 43 44,M 0 45,M 1 46,I false 1 45 46 47,K 47 48,bq (.call true (t 40) [t 44,t 48]) 49,D .lss 49 0 50] [])<|
 c 50 (R [M 12 51,D .add 51 1 52,M 52 10]) (R [M 12 53,M 53 11])))))<|
 q (r [M 1 54,M 54 13]<|
 gL 2 [M 13 55,M 10 56,D .sub 56 1 57,B .lss 55 57 58] 58 ((
 q (.block 3 (.draw [M 0 61,M 13 62,M 0 63,M 13 64,D .add 64 1 65,M 0 66,M 13 67,D .add 67 1 68,I false 1 66 68 69,K 69 70,M 0 71,M 13 72,I false 1 71 72 73,K 73 74,I false 1 61 62 75,W 1 75 70,I false 1 63 65 76,W 1 76 74] []))<|
 R [M 13 59,D .add 59 1 60,M 60 13])))<|
 .ret) k)<|
 q (r [M 3 77,M 2 78,B .sub 77 78 79,D .eql 79 1 80]<|
 c 80 (r [M 1 81,M 81 14]<|
 r [M 2 82,M 82 15]<|
 q (gL 4 [M 14 83,M 15 84,B .lss 83 84 85] 85 ((
 .block 5 (r [M 14 86,M 15 87,B .add 86 87 88,bq (.jE .u64 (t 88)) 89,bq (.bin .shr (t 89) (.c (.int .u64 1))) 90,bq (.jE .i64 (t 90)) 91,M 91 16]<|
 q (.draw [M 4 92,M 0 93,M 2 94,I false 1 93 94 95,K 95 96,M 0 97,M 16 98,I false 1 97 98 99,K 99 100,bq (.call true (t 92) [t 96,t 100]) 101,D .lss 101 0 102,U 102 103] [])<|
 c 103 (R [M 16 104,D .add 104 1 105,M 105 14]) (R [M 16 106,M 106 15])))))<|
 q (r [M 2 107,M 107 17]<|
 gL 6 [M 17 108,M 14 109,B .gtr 108 109 110] 110 ((
 q (.block 7 (.draw [M 0 113,M 17 114,M 0 115,M 17 116,D .sub 116 1 117,M 0 118,M 17 119,D .sub 119 1 120,I false 1 118 120 121,K 121 122,M 0 123,M 17 124,I false 1 123 124 125,K 125 126,I false 1 113 114 127,W 1 127 122,I false 1 115 117 128,W 1 128 126] []))<|
 R [M 17 111,D .sub 111 1 112,M 112 17])))<|
 .ret) k)<|
 r [M 1 129,M 3 130,B .add 129 130 131,bq (.jE .u64 (t 131)) 132,bq (.bin .shr (t 132) (.c (.int .u64 1))) 133,bq (.jE .i64 (t 133)) 134,M 134 18]<|
 r [M 18 135,M 2 136,B .add 135 136 137,M 137 19]<|
 r [V z0 20,V z0 21]<|
 q (r [M 2 138,M 18 139,B .gtr 138 139 140]<|
 c 140 (r [M 19 141,M 3 142,B .sub 141 142 143,M 143 20]<|
 R [M 18 144,M 144 21]) (r [M 1 145,M 145 20]<|
 R [M 2 146,M 146 21]))<|
 r [M 19 147,D .sub 147 1 148,M 148 22]<|
 q (gL 8 [M 20 149,M 21 150,B .lss 149 150 151] 151 ((
 .block 9 (r [M 20 152,M 21 153,B .add 152 153 154,bq (.jE .u64 (t 154)) 155,bq (.bin .shr (t 155) (.c (.int .u64 1))) 156,bq (.jE .i64 (t 156)) 157,M 157 23]<|
 q (.draw [M 4 158,M 0 159,M 22 160,M 23 161,B .sub 160 161 162,I false 1 159 162 163,K 163 164,M 0 165,M 23 166,I false 1 165 166 167,K 167 168,bq (.call true (t 158) [t 164,t 168]) 169,D .lss 169 0 170,U 170 171] [])<|
 c 171 (R [M 23 172,D .add 172 1 173,M 173 20]) (R [M 23 174,M 174 21])))))<|
 r [M 19 175,M 20 176,B .sub 175 176 177,M 177 24]<|
 q (r [M 20 178,M 2 179,B .lss 178 179 180,M 180 181,MT 2 182 181,MT 24 183 181,BT .lss 182 183 184 181,P 181 184 185]<|
 c 185 (R [M 0 186,M 20 187,M 2 188,M 24 189,M 4 190,C 266 [t 186,t 187,t 188,t 189,t 190] 191]) k)<|
 q (r [M 1 192,M 20 193,B .lss 192 193 194,M 194 195,MT 20 196 195,MT 18 197 195,BT .lss 196 197 198 195,P 195 198 199]<|
 c 199 (R [M 0 200,M 1 201,M 20 202,M 18 203,M 4 204,C 225 [t 200,t 201,t 202,t 203,t 204] 205]) k)<|
 r [M 18 206,M 24 207,B .lss 206 207 208,M 208 209,MT 24 210 209,MT 3 211 209,BT .lss 210 211 212 209,P 209 212 213]<|
 c 213 (R [M 0 214,M 18 215,M 24 216,M 3 217,M 4 218,C 225 [t 214,t 215,t 216,t 217,t 218] 219]) k):=bj Tryz.func225
def FM: Of aD 226 6 [.tmp 2] (r [gF 2]<|
 r [M 0 3,M 0 4,B .neq 3 4 5,M 5 2]<|
 .ret):=bj Tryz.func226
def ze: Of aD 228 21 [.tmp 4,.tmp 5] (r [V z0 4,V z0 5]<|
 r [M 0 7,M 1 8,B .add 7 8 9,M 9 6]<|
 gR [M 6 10,M 0 11,B .gtr 10 11 12,M 1 13,D .gtr 13 0 14,bq (.jD true false [.b] (t 12) (t 14)) 15,M 15 16,MT 1 17 16,DT .neq 17 0 18 16,P 16 18 19] 19 [V z0 4,V (i6 15) 5]<|
 r [M 6 20,M 20 4,V z0 5]<|
 .ret):=bj Tryz.func228
def NQ: Of aD 229 16 [.cell 2 true 4,.tmp 3,.tmp 4] (r [J [z0,e0,z0,z0] 2,V z0 3,V z0 4]<|
 r [M 0 6,C 131 [t 6] 7,M 7 5]<|
 gR [M 5 8,D .gtr 8 16 9] 9 [gU [z0,e0,z0,z0] [] 10,W 4 2 10,V z0 3,V (i6 5) 4]<|
 r [M 0 11,M 5 12,bq (.p8 (t 11) none (some (t 12))) 13,gU [z0,e0,z0,z0] [(0,1,gJ 1),(1,1,t 13)] 14,M 5 15,W 4 2 14,M 15 3,V z0 4]<|
 .ret):=bj Tryz.func229
def I8: Of aD 230 55 [.cell 2 true 4,.tmp 3,.tmp 4] (r [J [z0,e0,z0,z0] 2,V z0 3,V z0 4]<|
 r [V z0 5,V z0 6,gF 7]<|
 q (gL 0 [M 5 9,M 0 10,S 10 11,B .lss 9 11 12,M 12 13,MT 0 14 13,MT 5 15 13,⟨.jh (t 14) (t 15),(some 16),some (13,true)⟩,CT 188 [t 16] 17 13,P 13 17 18] 18 ((
 .block 1 (r [M 0 19,M 5 20,bq (.jh (t 19) (t 20)) 21,bq (.bin .sub (t 21) (.c (.int .u8 48))) 22,bq (.jE .i64 (t 22)) 23,M 23 8]<|
 r [M 7 24,M 24 25,MF 6 26 25,MF 8 27 25,⟨.bin .sub (gJ 9223372036854775807) (t 27),(some 28),some (25,false)⟩,DF .quo 28 10 29 25,BF .gtr 26 29 30 25,O 25 30 31,M 31 7]<|
 q (r [M 7 32,U 32 33]<|
 c 33 (R [M 6 34,bq (.bin .mul (gJ 10) (t 34)) 35,M 8 36,B .add 35 36 37,M 37 6]) k)<|
 R [M 5 38,D .add 38 1 39,M 39 5]))))<|
 q (.block 2 (r [M 5 41,D .gtr 41 1 42,M 42 43,MT 0 44 43,⟨.jh (t 44) (.c z0),(some 45),some (43,true)⟩,⟨.bin .eql (t 45) (.c (.int .u8 48)),(some 46),some (43,true)⟩,P 43 46 47,M 47 40]<|
 c 40 (r [gU [z0,e0,z0,z0] [] 48,W 4 2 48,V z0 3,V (i6 11) 4]<|
 .ret) (r [M 7 50,M 50 49]<|
 c 49 (r [gU [z0,e0,z0,z0] [] 51,W 4 2 51,V z0 3,V (i6 15) 4]<|
 .ret) k)))<|
 r [M 6 52,gU [z0,e0,z0,z0] [(0,1,gJ 2),(2,1,t 52)] 53,M 5 54,W 4 2 53,M 54 3,V z0 4]<|
 .ret):=bj Tryz.func230
def NR: Of aD 231 67 [.cell 2 true 4,.tmp 3,.tmp 4] (r [J [z0,e0,z0,z0] 2,V z0 3,V z0 4]<|
 r [V e0 5]<|
 q (r [V (i6 1) 6]<|
 gL 0 [M 6 8,M 0 9,S 9 10,B .lss 8 10 11] 11 ((
 q (.block 1 (r [M 0 14,M 6 15,bq (.jh (t 14) (t 15)) 16,M 16 7]<|
 q (r [M 7 17,bq (.bin .eql (t 17) (.c (.int .u8 34))) 18]<|
 c 18 (gR [M 5 19,S 19 20,D .gtr 20 40 21] 21 [gU [z0,e0,z0,z0] [] 22,W 4 2 22,V z0 3,V (i6 5) 4]<|
 r [M 5 23,gU [z0,e0,z0,z0] [(0,1,gJ 3),(1,1,t 23)] 24,M 6 25,D .add 25 1 26,W 4 2 24,M 26 3,V z0 4]<|
 .ret) k)<|
 q (r [M 7 27,bq (.bin .eql (t 27) (.c (.int .u8 92))) 28]<|
 c 28 (r [M 6 29,D .add 29 1 30,M 30 6]<|
 r [M 6 31,M 0 32,S 32 33,B .eql 31 33 34,M 34 35,MF 0 36 35,MF 6 37 35,⟨.jh (t 36) (t 37),(some 38),some (35,false)⟩,⟨.bin .neq (t 38) (.c (.int .u8 34)),(some 39),some (35,false)⟩,MF 39 40 35,MT 0 41 40,MT 6 42 40,⟨.jh (t 41) (t 42),(some 43),some (40,true)⟩,⟨.bin .neq (t 43) (.c (.int .u8 92)),(some 44),some (40,true)⟩,PF 40 44 45 35,O 35 45 46]<|
 c 46 (r [gU [z0,e0,z0,z0] [] 47,W 4 2 47,V z0 3,V (i6 11) 4]<|
 .ret) k) k)<|
 gR [M 0 48,M 6 49,bq (.jh (t 48) (t 49)) 50,bq (.bin .lss (t 50) (.c (.int .u8 32))) 51,M 51 52,MF 0 53 52,MF 6 54 52,⟨.jh (t 53) (t 54),(some 55),some (52,false)⟩,⟨.bin .gtr (t 55) (.c (.int .u8 126)),(some 56),some (52,false)⟩,O 52 56 57] 57 [gU [z0,e0,z0,z0] [] 58,W 4 2 58,V z0 3,V (i6 11) 4]<|
 R [M 5 59,M 0 60,M 6 61,M 6 62,D .add 62 1 63,bq (.p8 (t 60) (some (t 61)) (some (t 63))) 64,B .add 59 64 65,M 65 5]))<|
 R [M 6 12,D .add 12 1 13,M 13 6])))<|
 r [gU [z0,e0,z0,z0] [] 66,W 4 2 66,V z0 3,V (i6 11) 4]<|
 .ret):=bj Tryz.func231
def K_: Of aD 232 2 [.tmp 0] (r [V .ai 0]<|
 r [gB false 1 e0 16 [(0,gS [46,46]),(1,gS [33,61]),(2,gS [60,61]),(3,gS [62,61]),(4,gS [40]),(5,gS [41]),(6,gS [91]),(7,gS [93]),(8,gS [44]),(9,gS [43]),(10,gS [45]),(11,gS [42]),(12,gS [47]),(13,gS [61]),(14,gS [60]),(15,gS [62])] 1,M 1 0]<|
 .ret):=bj Tryz.func232
def NS: Of aD 233 10 [.tmp 2] (r [X 0 1,gF 2]<|
 r [L 6 1 3,C 143 [t 3] 4,M 4 5,LT 6 1 6 5,CT 142 [t 6] 7 5,DT .leq 7 12 8 5,P 5 8 9,M 9 2]<|
 .ret):=bj Tryz.func233
def NU: Of aD 234 53 [.tmp 4] (r [X 0 2,X 1 3,gF 4]<|
 gR [A 0 2 6,K 6 7,A 0 3 8,K 8 9,B .neq 7 9 10,M 10 11,AF 1 2 12 11,LF 3 12 13 11,AF 1 3 14 11,LF 3 14 15 11,⟨.jD true true [.i,.i,.s] (t 13) (t 15),(some 16),some (11,false)⟩,O 11 16 17,M 17 18,AF 4 2 19 18,KF 19 20 18,AF 4 3 21 18,KF 21 22 18,BF .neq 20 22 23 18,O 18 23 24,M 24 25,AF 5 2 26 25,KF 26 27 25,NF 27 28 25,AF 5 3 29 25,KF 29 30 25,NF 30 31 25,BF .neq 28 31 32 25,O 25 32 33] 33 [gF 4]<|
 q (r [V z0 5]<|
 gL 0 [M 5 34,A 5 2 35,K 35 36,N 36 37,B .lss 34 37 38] 38 ((
 q (.block 1 (q (.draw [A 5 2 41,K 41 42,M 5 43,I true 6 42 43 44,L 6 44 45,A 5 3 46,K 46 47,M 5 48,I true 6 47 48 49,L 6 49 50,Q 234 [t 45,t 50] 51,U 51 52] [])<|
 c 52 (r [gF 4]<|
 .ret) k))<|
 R [M 5 39,D .add 39 1 40,M 40 5])))<|
 r [gT 4]<|
 .ret):=bj Tryz.func234
def eu: Of aD 235 104 [.cell 2 true 6] (r [J [z0,z0,z0,e0,e0,.ai] 2]<|
 q (q (.draw [M 0 5,Z 5 6,A 2 6 7,K 7 8,M 8 9,MF 0 10 9,ZF 10 11 9,AF 1 11 12 9,KF 12 13 9,MF 0 14 9,ZF 14 15 9,AF 0 15 16 9,KF 16 17 9,NF 17 18 9,BF .geq 13 18 19 9,O 9 19 20] [])<|
 c 20 (r [M 0 21,Z 21 22,A 2 22 23,⟨.store 1 (t 23) (.c (.bool true)),none,none⟩]<|
 r [gU [z0,z0,z0,e0,e0,.ai] [] 24,W 6 2 24]<|
 .ret) k)<|
 q (.draw [M 0 25,Z 25 26,A 0 26 27,K 27 28,M 0 29,Z 29 30,A 1 30 31,K 31 32,I true 4 28 32 33,L 4 33 34,J [z0,e0,z0,z0] 3,W 4 3 34] [])<|
 r [gU [z0,z0,z0,e0,e0,.ai] [(0,1,gJ 1)] 35,J [z0,z0,z0,e0,e0,.ai] 4,W 6 4 35]<|
 q (.block 0 (r [A 0 3 41,K 41 42,D .eql 42 2 43,M 43 40]<|
 c 40 (R [A 2 3 44,K 44 45,gU [z0,z0,e0] [(0,1,gJ 1),(1,1,t 45)] 46,A 1 4 47,W 3 47 46]) (r [A 0 3 49,K 49 50,D .eql 50 3 51,M 51 48]<|
 c 48 (R [A 1 3 52,K 52 53,gU [z0,z0,e0] [(0,1,gJ 2),(2,1,t 53)] 54,A 1 4 55,W 3 55 54]) (r [M 0 57,C 236 [t 57,gJ 1,gS [110,117,108,108]] 58,M 58 56]<|
 c 56 k (r [M 0 60,C 236 [t 60,gJ 1,gS [116,114,117,101]] 61,M 61 59]<|
 c 59 (R [gU [z0,z0,e0] [(0,1,gJ 3),(1,1,gJ 1)] 62,A 1 4 63,W 3 63 62]) (r [M 0 65,C 236 [t 65,gJ 1,gS [102,97,108,115,101]] 66,M 66 64]<|
 c 64 (R [gU [z0,z0,e0] [(0,1,gJ 3)] 67,A 1 4 68,W 3 68 67]) (r [A 0 3 70,K 70 71,D .eql 71 1 72,M 72 73,AT 1 3 74 73,KT 74 75 73,CT 81 [t 75] 76 73,P 73 76 77,M 77 69]<|
 c 69 (R [A 1 3 78,K 78 79,gU [z0,z0,z0,e0,e0,.ai] [(0,1,gJ 2),(4,1,t 79)] 80,W 6 4 80]) (r [M 0 82,C 236 [t 82,gJ 4,gS [40]] 83,M 83 81]<|
 c 81 (r [M 0 84,Z 84 85,A 1 85 86,K 86 87,D .add 87 1 88,Z 84 89,A 1 89 90,W 1 90 88]<|
 r [M 0 91,C 194 [t 91,.c z0] 92,W 6 4 92]<|
 r [M 0 93,C 237 [t 93,gJ 4,gS [41]] 94]<|
 r [L 6 4 95,W 6 2 95]<|
 .ret) (r [M 0 36,Z 36 37,A 2 37 38,⟨.store 1 (t 38) (.c (.bool true)),none,none⟩]<|
 r [gU [z0,z0,z0,e0,e0,.ai] [] 39,W 6 2 39]<|
 .ret)))))))))<|
 r [M 0 96,Z 96 97,A 1 97 98,K 98 99,D .add 99 1 100,Z 96 101,A 1 101 102,W 1 102 100]<|
 r [L 6 4 103,W 6 2 103]<|
 .ret):=bj Tryz.func235
def DM: Of aD 236 47 [.tmp 6] (r [gF 6]<|
 q (.draw [M 0 7,Z 7 8,A 1 8 9,K 9 10,M 0 11,Z 11 12,A 0 12 13,K 13 14,N 14 15,B .lss 10 15 16,M 16 17,MT 0 18 17,ZT 18 19 17,AT 0 19 20 17,KT 20 21 17,MT 0 22 17,ZT 22 23 17,AT 1 23 24 17,KT 24 25 17,IT true 4 21 25 26 17,AT 0 26 27 17,KT 27 28 17,MT 1 29 17,BT .eql 28 29 30 17,P 17 30 31,M 31 32,MT 0 33 32,ZT 33 34 32,AT 0 34 35 32,KT 35 36 32,MT 0 37 32,ZT 37 38 32,AT 1 38 39 32,KT 39 40 32,IT true 4 36 40 41 32,AT 1 41 42 32,KT 42 43 32,MT 2 44 32,BT .eql 43 44 45 32,P 32 45 46,M 46 6] [])<|
 .ret):=bj Tryz.func236
def tw: Of aD 237 26 [] (.block 0 (r [M 0 10,Z 10 11,A 2 11 12,K 12 13,M 13 9]<|
 c 9 k (r [M 0 15,M 1 16,M 2 17,C 236 [t 15,t 16,t 17] 18,M 18 14]<|
 c 14 (R [M 0 19,Z 19 20,A 1 20 21,K 21 22,D .add 22 1 23,Z 19 24,A 1 24 25,W 1 25 23]) (R [M 0 6,Z 6 7,A 2 7 8,⟨.store 1 (t 8) (.c (.bool true)),none,none⟩])))):=bj Tryz.func237
def DN: Of aD 238 29 [.tmp 4] (r [V z0 4]<|
 q (r [V (i6 4) 5]<|
 gL 0 [M 5 7,D .leq 7 15 8] 8 ((
 q (.block 1 (r [V (i6 4) 6]<|
 q (r [M 5 11,D .eql 11 14 12,M 12 13,MF 5 14 13,DF .eql 14 15 15 13,O 13 15 16]<|
 c 16 (R [V (i6 1) 6]) k)<|
 r [M 5 17,C 268 [t 17] 18,M 1 19,B .eql 18 19 20,M 20 21,MT 0 22 21,MT 6 23 21,MT 5 24 21,CT 239 [t 24] 25 21,CT 236 [t 22,t 23,t 25] 26 21,P 21 26 27]<|
 c 27 (r [M 5 28,M 28 4]<|
 .ret) k))<|
 R [M 5 9,D .add 9 1 10,M 10 5])))<|
 r [V z0 4]<|
 .ret):=bj Tryz.func238
def NV: Of aD 239 28 [.tmp 2] (r [V e0 2]<|
 q (r [M 0 3]<|
 .block 0 (r [D .eql 3 4 5,M 5 4]<|
 c 4 (r [V (.str [43]) 2]<|
 .ret) (r [D .eql 3 5 7,M 7 6]<|
 c 6 (r [V (.str [45]) 2]<|
 .ret) (r [D .eql 3 6 9,M 9 8]<|
 c 8 (r [V (.str [42]) 2]<|
 .ret) (r [D .eql 3 7 11,M 11 10]<|
 c 10 (r [V (.str [47]) 2]<|
 .ret) (r [D .eql 3 8 13,M 13 12]<|
 c 12 (r [V (.str [61]) 2]<|
 .ret) (r [D .eql 3 9 15,M 15 14]<|
 c 14 (r [V (.str [33,61]) 2]<|
 .ret) (r [D .eql 3 10 17,M 17 16]<|
 c 16 (r [V (.str [60]) 2]<|
 .ret) (r [D .eql 3 11 19,M 19 18]<|
 c 18 (r [V (.str [60,61]) 2]<|
 .ret) (r [D .eql 3 12 21,M 21 20]<|
 c 20 (r [V (.str [62]) 2]<|
 .ret) (r [D .eql 3 13 23,M 23 22]<|
 c 22 (r [V (.str [62,61]) 2]<|
 .ret) (r [D .eql 3 14 25,M 25 24]<|
 c 24 (r [V (.str [97,110,100]) 2]<|
 .ret) (r [D .eql 3 15 27,M 27 26]<|
 c 26 (r [V (.str [111,114]) 2]<|
 .ret) k)))))))))))))<|
 r [V e0 2]<|
 .ret):=bj Tryz.func239
def RB: Of aD 240 9 [.tmp 4] (r [V z0 4]<|
 gR [M 0 5,D .eql 5 0 6] 6 [M 1 7,M 7 4]<|
 r [M 0 8,M 8 4]<|
 .ret):=bj Tryz.func240
def DO: Of aD 241 27 [.tmp 4,.tmp 5] (r [V z0 4,V z0 5]<|
 gR [M 1 6,D .gtr 6 0 7,M 7 8,MT 0 9 8,MT 1 10 8,⟨.bin .add (gJ (-9223372036854775808)) (t 10),(some 11),some (8,true)⟩,BT .lss 9 11 12 8,P 8 12 13,M 13 14,MF 1 15 14,DF .lss 15 0 16 14,MF 16 17 14,MT 0 18 17,MT 1 19 17,⟨.bin .add (gJ 9223372036854775807) (t 19),(some 20),some (17,true)⟩,BT .gtr 18 20 21 17,PF 17 21 22 14,O 14 22 23] 23 [V z0 4,V (i6 15) 5]<|
 r [M 0 24,M 1 25,B .sub 24 25 26,M 26 4,V z0 5]<|
 .ret):=bj Tryz.func241
def xu: Of aD 242 67 [.tmp 4,.tmp 5] (r [V z0 4,V z0 5]<|
 gR [M 0 12,D .eql 12 0 13,M 13 14,MF 1 15 14,DF .eql 15 0 16 14,O 14 16 17] 17 [V z0 4,V z0 5]<|
 r [V z0 6]<|
 q (r [V (i6 62) 7]<|
 gL 0 [M 7 18,D .geq 18 0 19] 19 ((
 q (.block 1 (r [M 6 23,M 6 24,C 93 [t 23,t 24] 25,M 25 22,E 22 0 26,E 22 1 27,M 26 8,M 27 9]<|
 gR [M 9 28,D .neq 28 0 29] 29 [M 9 30,V z0 4,M 30 5]<|
 r [M 8 31,M 31 6]<|
 r [M 1 32,M 7 33,bq (.bin .shl (gJ 1) (t 33)) 34,B .quo 32 34 35,D .rem 35 2 36,M 36 10]<|
 r [V z0 11]<|
 q (r [M 10 37,D .eql 37 1 38]<|
 c 38 (R [M 6 40,M 0 41,C 93 [t 40,t 41] 42,M 42 39,E 39 0 43,E 39 1 44,M 43 6,M 44 11]) k)<|
 q (r [M 10 45,D .eql 45 (-1) 46]<|
 c 46 (R [M 6 48,M 0 49,C 241 [t 48,t 49] 50,M 50 47,E 47 0 51,E 47 1 52,M 51 6,M 52 11]) k)<|
 gR [M 11 53,D .neq 53 0 54] 54 [M 11 55,V z0 4,M 55 5]<|
 r [M 1 56,D .eql 56 (-9223372036854775808) 57,M 57 58,MT 7 59 58,DT .eql 59 62 60 58,P 58 60 61]<|
 c 61 (r [M 0 62,C 269 [t 62] 63,E 63 0 64,E 63 1 65,M 64 4,M 65 5]<|
 .ret) k))<|
 R [M 7 20,D .sub 20 1 21,M 21 7])))<|
 r [M 6 66,M 66 4,V z0 5]<|
 .ret):=bj Tryz.func242
def xw: Of aD 243 19 [.tmp 4,.tmp 5] (r [V z0 4,V z0 5]<|
 q (.block 0 (r [M 1 7,D .eql 7 0 8,M 8 6]<|
 c 6 (r [V z0 4,V (i6 16) 5]<|
 .ret) (r [M 1 10,D .eql 10 (-1) 11,M 11 9]<|
 c 9 (r [M 0 12,C 241 [.c z0,t 12] 13,E 13 0 14,E 13 1 15,M 14 4,M 15 5]<|
 .ret) k)))<|
 r [M 0 16,M 1 17,B .quo 16 17 18,M 18 4,V z0 5]<|
 .ret):=bj Tryz.func243
def RE: Of aD 244 16 [.cell 2 true 5,.tmp 3] (r [J [z0,e0,z0,z0,z0] 2,V z0 3]<|
 r [M 0 5,C 104 [t 5] 6,M 6 4]<|
 gR [M 4 7,D .gtr 7 16 8] 8 [gU [z0,e0,z0,z0,z0] [] 9,W 5 2 9,V (i6 5) 3]<|
 r [M 0 10,M 4 11,bq (.p8 (t 10) none (some (t 11))) 12,gU [z0,e0,z0,z0] [(0,1,gJ 1),(1,1,t 12)] 13,M 4 14,gU [z0,e0,z0,z0,z0] [(0,4,t 13),(4,1,t 14)] 15,W 5 2 15,V z0 3]<|
 .ret):=bj Tryz.func244
def NW: Of aD 245 42 [.cell 2 true 5,.tmp 3] (r [J [z0,e0,z0,z0,z0] 2,V z0 3]<|
 r [M 0 8,C 151 [t 8,(.c (.fn (.func 153) [] []))] 9,M 9 4]<|
 gR [M 4 10,D .gtr 10 1 11,M 11 12,MT 0 13 12,⟨.jh (t 13) (.c z0),(some 14),some (12,true)⟩,⟨.bin .eql (t 14) (.c (.int .u8 48)),(some 15),some (12,true)⟩,P 12 15 16] 16 [gU [z0,e0,z0,z0,z0] [] 17,W 5 2 17,V (i6 11) 3]<|
 r [V z0 5]<|
 q (r [M 4 18,V z0 19]<|
 .block 0 (.loop (r [B .lss 19 18 20]<|
 q (c 20 k (.exit 0))<|
 q (.block 1 (r [M 19 21,M 21 6]<|
 r [M 0 22,M 6 23,bq (.jh (t 22) (t 23)) 24,bq (.bin .sub (t 24) (.c (.int .u8 48))) 25,bq (.jE .i64 (t 25)) 26,M 26 7]<|
 gR [M 5 27,M 7 28,bq (.bin .sub (gJ 9223372036854775807) (t 28)) 29,D .quo 29 10 30,B .gtr 27 30 31] 31 [gU [z0,e0,z0,z0,z0] [] 32,W 5 2 32,V (i6 15) 3]<|
 R [M 5 33,D .mul 33 10 34,M 7 35,B .add 34 35 36,M 36 5]))<|
 R [D .add 19 1 37,M 37 19])))<|
 r [M 5 38,gU [z0,e0,z0,z0] [(0,1,gJ 2),(2,1,t 38)] 39,M 4 40,gU [z0,e0,z0,z0,z0] [(0,4,t 39),(4,1,t 40)] 41,W 5 2 41,V z0 3]<|
 .ret):=bj Tryz.func245
def RF: Of aD 246 71 [.cell 2 true 5,.tmp 3] (r [J [z0,e0,z0,z0,z0] 2,V z0 3]<|
 r [bq (.ji ⟨false,1⟩) 4]<|
 q (r [V (i6 1) 5]<|
 gL 0 [M 5 7,M 0 8,S 8 9,B .lss 7 9 10] 10 ((
 q (.block 1 (r [M 0 13,M 5 14,bq (.jh (t 13) (t 14)) 15,M 15 6]<|
 q (.block 2 (r [M 6 17,bq (.bin .eql (t 17) (.c (.int .u8 34))) 18,M 18 19,MT 4 20 19,NT 20 21 19,DT .gtr 21 40 22 19,P 19 22 23,M 23 16]<|
 c 16 (r [gU [z0,e0,z0,z0,z0] [] 24,W 5 2 24,V (i6 5) 3]<|
 .ret) (r [M 6 26,bq (.bin .eql (t 26) (.c (.int .u8 34))) 27,M 27 25]<|
 c 25 (r [M 4 28,bq (.Ch (t 28)) 29,gU [z0,e0,z0,z0] [(0,1,gJ 3),(1,1,t 29)] 30,M 5 31,D .add 31 1 32,gU [z0,e0,z0,z0,z0] [(0,4,t 30),(4,1,t 32)] 33,W 5 2 33,V z0 3]<|
 .ret) (r [M 6 35,bq (.bin .eql (t 35) (.c (.int .u8 92))) 36,M 36 34]<|
 c 34 (r [M 5 37,D .add 37 1 38,M 38 5]<|
 r [M 5 39,M 0 40,S 40 41,B .eql 39 41 42,M 42 43,MF 0 44 43,MF 5 45 43,⟨.jh (t 44) (t 45),(some 46),some (43,false)⟩,⟨.bin .neq (t 46) (.c (.int .u8 34)),(some 47),some (43,false)⟩,MF 47 48 43,MT 0 49 48,MT 5 50 48,⟨.jh (t 49) (t 50),(some 51),some (48,true)⟩,⟨.bin .neq (t 51) (.c (.int .u8 92)),(some 52),some (48,true)⟩,PF 48 52 53 43,O 43 53 54]<|
 c 54 (r [gU [z0,e0,z0,z0,z0] [] 55,W 5 2 55,V (i6 11) 3]<|
 .ret) k) (r [M 6 57,bq (.bin .lss (t 57) (.c (.int .u8 32))) 58,M 58 59,MF 6 60 59,⟨.bin .gtr (t 60) (.c (.int .u8 126)),(some 61),some (59,false)⟩,O 59 61 62,M 62 56]<|
 c 56 (r [gU [z0,e0,z0,z0,z0] [] 63,W 5 2 63,V (i6 11) 3]<|
 .ret) k)))))<|
 R [M 4 64,M 0 65,M 5 66,bq (.jh (t 65) (t 66)) 67,gB false 1 (.int .u8 0) 1 [(0,t 67)] 68,gA false 1 64 68 69,M 69 4]))<|
 R [M 5 11,D .add 11 1 12,M 12 5])))<|
 r [gU [z0,e0,z0,z0,z0] [] 70,W 5 2 70,V (i6 11) 3]<|
 .ret):=pR ⟨[],[],[(4,⟨false,1⟩)],[],[],[]⟩ Tryz.func246
def FY: Of aD 247 24 [.cell 2 true 5,.tmp 3] (r [X 0 1,J [z0,e0,z0,z0,z0] 2,V z0 3]<|
 r [C 270 [] 6,M 6 4]<|
 r [M 4 7,bq (.q_ (.func 272) [] [t 1]) 8,C 271 [t 7,t 8] 9,M 9 5]<|
 gR [M 5 10,D .lss 10 0 11] 11 [gU [z0,e0,z0,z0,z0] [] 12,W 5 2 12,V (i6 11) 3]<|
 q (.draw [M 4 13,M 5 14,I false 1 13 14 15,K 15 16,gU [z0,e0,z0,z0] [(0,1,gJ 4),(1,1,t 16)] 17,M 4 18,M 5 19,I false 1 18 19 20,K 20 21,S 21 22,gU [z0,e0,z0,z0,z0] [(0,4,t 17),(4,1,t 22)] 23,W 5 2 23,V z0 3] [])<|
 .ret):=bj Tryz.func247
def Ps: Of aD 248 12 [.tmp 2] (r [V e0 2]<|
 q (r [M 0 3]<|
 .block 0 (r [D .eql 3 2 5,M 5 4]<|
 c 4 (r [V (.str [60]) 2]<|
 .ret) (r [D .eql 3 3 7,M 7 6]<|
 c 6 (r [V (.str [60,61]) 2]<|
 .ret) (r [D .eql 3 4 9,M 9 8]<|
 c 8 (r [V (.str [62]) 2]<|
 .ret) (r [D .eql 3 5 11,M 11 10]<|
 c 10 (r [V (.str [62,61]) 2]<|
 .ret) k)))))<|
 r [V e0 2]<|
 .ret):=bj Tryz.func248
