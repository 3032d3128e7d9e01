/- Part. -/
import Derived.Test.YthakfmmgnjpmdaaGreatW15
import Derived.KernelRfl
set_option linter.all false
namespace Go.Proofs.YthakfmmgnjpmdaaGreat
open Go.AM Go.AM.W
set_option maxRecDepth 10000
def ud: Of aD 249 37 [.cell 2 true 6] (r [J [z0,z0,z0,e0,e0,.ai] 2]<|
 gR [M 0 6,Z 6 7,A 2 7 8,K 8 9] 9 [gU [z0,z0,z0,e0,e0,.ai] [] 10,W 6 2 10]<|
 q (.draw [M 0 12,Z 12 13,A 0 13 14,A 0 14 15,K 15 16,M 0 17,Z 17 18,A 0 18 19,A 1 19 20,K 20 21,Q 163 [t 16,t 21,gJ 4] 22,M 22 11,E 11 0 23,E 11 1 24,E 11 2 25,J [z0,z0,z0,e0,e0,.ai] 3,W 6 3 23,M 24 4,M 25 5] [])<|
 r [M 0 26,M 0 27,M 4 28,M 5 29,D .neq 29 0 30,Z 26 31,A 0 31 32,A 1 32 33,W 1 33 28,Z 27 34,A 2 34 35,W 1 35 30]<|
 r [L 6 3 36,W 6 2 36]<|
 .ret):=bj Tryz.func249
def xx: Of aD 250 19 [.tmp 4] (r [V z0 4]<|
 q (r [M 0 6,N 6 7,V z0 8]<|
 .block 0 (.loop (r [B .lss 8 7 9]<|
 q (c 9 k (.exit 0))<|
 q (.block 1 (r [M 8 10,M 10 5]<|
 r [M 1 11,M 0 12,M 5 13,I true 15 12 13 14,L 15 14 15,bq (.call false (t 11) [t 15]) 16]<|
 c 16 (r [M 5 17,M 17 4]<|
 .ret) k))<|
 R [D .add 8 1 18,M 18 8])))<|
 r [V (i6 (-1)) 4]<|
 .ret):=bj Tryz.func250
def Pt: Of aD 251 11 [.tmp 2] (r [X 0 1,gF 2]<|
 r [L 6 1 3,C 117 [t 3] 4,D .eql 4 0 5,M 5 6,LT 6 1 7 6,CT 164 [t 7] 8 6,DT .leq 8 12 9 6,P 6 9 10,M 10 2]<|
 .ret):=bj Tryz.func251
def La: Of aD 252 31 [.tmp 4] (r [X 0 2,X 1 3,gF 4]<|
 r [A 0 2 5,K 5 6,A 0 3 7,K 7 8,B .eql 6 8 9,M 9 10,AT 1 2 11 10,LT 3 11 12 10,AT 1 3 13 10,LT 3 13 14 10,⟨.jD false true [.i,.i,.s] (t 12) (t 14),(some 15),some (10,true)⟩,P 10 15 16,M 16 17,AT 4 2 18 17,KT 18 19 17,AT 4 3 20 17,KT 20 21 17,BT .eql 19 21 22 17,P 17 22 23,M 23 24,AT 5 2 25 24,KT 25 26 24,AT 5 3 27 24,KT 27 28 24,CT 274 [t 26,t 28,(.c (.fn (.func 252) [] []))] 29 24,P 24 29 30,M 30 4]<|
 .ret):=bj Tryz.func252
def UD: Of aD 253 8 [.cell 2 true 2] (r [X 0 1,J [.bool false,.bool false] 2]<|
 r [A 13 1 3,K 3 4,A 14 1 5,K 5 6,gU [.bool false,.bool false] [(0,1,t 4),(1,1,t 6)] 7,W 2 2 7]<|
 .ret):=bj Tryz.func253
def C2: Of aD 254 27 [.tmp 6] (r [gF 6]<|
 r [M 0 8,C 275 [t 8] 9,J [z0,e0,z0,z0] 7,W 4 7 9]<|
 gR [A 0 7 10,K 10 11,M 1 12,B .neq 11 12 13,M 13 14,AF 1 7 15 14,KF 15 16 14,MF 2 17 14,BF .neq 16 17 18 14,O 14 18 19] 19 [gF 6]<|
 r [M 0 20,Z 20 21,A 1 21 22,K 22 23,D .add 23 1 24,Z 20 25,A 1 25 26,W 1 26 24]<|
 r [gT 6]<|
 .ret):=bj Tryz.func254
def yg: Of aD 255 19 [.cell 2 true 6] (r [J [z0,z0,z0,e0,e0,.ai] 2]<|
 r [M 0 5,C 214 [t 5,.c z0] 6,J [z0,z0,z0,e0,e0,.ai] 3,W 6 3 6]<|
 r [M 0 7,C 276 [t 7,gJ 1,gS [116,104,101,110]] 8]<|
 r [M 0 9,C 214 [t 9,.c z0] 10,J [z0,z0,z0,e0,e0,.ai] 4,W 6 4 10]<|
 r [M 0 11,C 276 [t 11,gJ 1,gS [101,108,115,101]] 12]<|
 q (.draw [L 6 3 13,L 6 4 14,M 0 15,bq (.n7 (.c (.fn (.func 214) [] [])) [t 15,.c z0]) 16,gB true 6 (.agg [z0,z0,z0,e0,e0,.ai]) 3 [(0,t 13),(1,t 14),(2,t 16)] 17,gU [z0,z0,z0,e0,e0,.ai] [(0,1,gJ 16),(5,1,t 17)] 18,W 6 2 18] [(t 3,t 15),(t 4,t 15)])<|
 .ret):=pR ⟨[],[],[],[],[16],[]⟩ Tryz.func255
def iy: Of aD 256 71 [.cell 2 true 6] (r [J [z0,z0,z0,e0,e0,.ai] 2]<|
 q (r [M 0 8,C 254 [t 8,gJ 4,gS [40]] 9]<|
 c 9 (r [M 0 10,C 214 [t 10,.c z0] 11,J [z0,z0,z0,e0,e0,.ai] 3,W 6 3 11]<|
 r [M 0 12,C 276 [t 12,gJ 4,gS [41]] 13]<|
 r [L 6 3 14,W 6 2 14]<|
 .ret) k)<|
 r [M 0 15,C 275 [t 15] 16,J [z0,e0,z0,z0] 4,W 4 4 16]<|
 r [gU [z0,z0,z0,e0,e0,.ai] [(0,1,gJ 1)] 17,J [z0,z0,z0,e0,e0,.ai] 5,W 6 5 17]<|
 q (r [A 0 4 18,K 18 19]<|
 .block 0 (r [D .eql 19 2 25,M 25 24]<|
 c 24 (R [A 2 4 26,K 26 27,gU [z0,z0,e0] [(0,1,gJ 1),(1,1,t 27)] 28,A 1 5 29,W 3 29 28]) (r [D .eql 19 3 31,M 31 30]<|
 c 30 (R [A 1 4 32,K 32 33,gU [z0,z0,e0] [(0,1,gJ 2),(2,1,t 33)] 34,A 1 5 35,W 3 35 34]) (r [D .eql 19 1 37,M 37 36]<|
 c 36 (r [A 1 4 39,K 39 40,C 277 [t 40] 41,M 41 38,E 38 0 42,E 38 1 43,J [z0,z0,e0] 6,W 3 6 42,M 43 7]<|
 q (r [M 7 44,U 44 45,M 45 46,AT 1 4 47 46,KT 47 48 46,CT 66 [t 48] 49 46,UT 49 50 46,P 46 50 51]<|
 c 51 (r [M 0 52,Z 52 53,A 2 53 54,⟨.store 1 (t 54) (.c (.bool true)),none,none⟩]<|
 r [gU [z0,z0,z0,e0,e0,.ai] [] 55,W 6 2 55]<|
 .ret) k)<|
 r [L 3 6 56,A 1 5 57,W 3 57 56]<|
 r [M 7 58,U 58 59]<|
 c 59 (R [A 1 4 60,K 60 61,gU [z0,z0,z0,e0,e0,.ai] [(0,1,gJ 2),(4,1,t 61)] 62,W 6 5 62]) k) (r [M 0 20,Z 20 21,A 2 21 22,⟨.store 1 (t 22) (.c (.bool true)),none,none⟩]<|
 r [gU [z0,z0,z0,e0,e0,.ai] [] 23,W 6 2 23]<|
 .ret)))))<|
 r [M 0 63,Z 63 64,A 1 64 65,K 65 66,D .add 66 1 67,Z 63 68,A 1 68 69,W 1 69 67]<|
 r [L 6 5 70,W 6 2 70]<|
 .ret):=bj Tryz.func256
def yh: Of aD 257 31 [.tmp 4] (r [V z0 4]<|
 q (r [C 278 [] 8,N 8 9,V z0 10]<|
 .block 0 (.loop (r [B .lss 10 9 11]<|
 q (c 11 k (.exit 0))<|
 q (.block 1 (r [I true 3 8 10 12,L 3 12 13,J [z0,e0,z0] 6,W 3 6 13]<|
 r [V (i6 4) 7]<|
 q (r [A 2 6 14,K 14 15,D .lss 15 3 16]<|
 c 16 (R [V (i6 1) 7]) k)<|
 r [A 2 6 17,K 17 18,M 1 19,B .eql 18 19 20,M 20 21,MT 0 22 21,MT 7 23 21,AT 1 6 24 21,KT 24 25 21,CT 254 [t 22,t 23,t 25] 26 21,P 21 26 27]<|
 c 27 (r [A 0 6 28,K 28 29,M 29 4]<|
 .ret) k))<|
 R [D .add 10 1 30,M 30 10])))<|
 r [V z0 4]<|
 .ret):=bj Tryz.func257
def NY: Of aD 258 18 [.tmp 4] (r [gF 4]<|
 q (r [M 1 7,N 7 8,V z0 9]<|
 .block 0 (.loop (r [B .lss 9 8 10]<|
 q (c 10 k (.exit 0))<|
 q (.block 1 (r [I false 1 7 9 11,K 11 12,M 12 6]<|
 r [M 6 13,M 0 14,C 114 [t 13,t 14] 15,U 15 16]<|
 c 16 (r [gF 4]<|
 .ret) k))<|
 R [D .add 9 1 17,M 17 9])))<|
 r [gT 4]<|
 .ret):=bj Tryz.func258
def Ad: Of aD 259 11 [.tmp 4] (r [V z0 4]<|
 r [V z0 5]<|
 gR [M 0 6,M 5 7,B .neq 6 7 8] 8 [M 0 9,M 9 4]<|
 r [M 1 10,M 10 4]<|
 .ret):=bj Tryz.func259
def yj: Of aD 260 9 [.tmp 4] (r [gF 4]<|
 r [M 0 5,M 1 6,C 279 [t 5,t 6] 7,D .geq 7 0 8,M 8 4]<|
 .ret):=bj Tryz.func260
def xy: Of aD 261 9 [.tmp 4] (r [X 1 3,gF 4]<|
 r [M 0 5,L 3 3 6,C 156 [t 5,t 6] 7,D .geq 7 0 8,M 8 4]<|
 .ret):=bj Tryz.func261
def Lb: Of aD 262 18 [.cell 2 true 3] (r [J [z0,e0,z0] 2]<|
 q (r [C 278 [] 5,N 5 6,V z0 7]<|
 .block 0 (.loop (r [B .lss 7 6 8]<|
 q (c 8 k (.exit 0))<|
 q (.block 1 (r [I true 3 5 7 9,L 3 9 10,J [z0,e0,z0] 4,W 3 4 10]<|
 r [A 0 4 11,K 11 12,M 0 13,B .eql 12 13 14]<|
 c 14 (r [L 3 4 15,W 3 2 15]<|
 .ret) k))<|
 R [D .add 7 1 16,M 16 7])))<|
 r [gU [z0,e0,z0] [] 17,W 3 2 17]<|
 .ret):=bj Tryz.func262
def xA: Of aD 263 19 [.tmp 4] (r [V z0 4]<|
 q (r [M 0 6,N 6 7,V z0 8]<|
 .block 0 (.loop (r [B .lss 8 7 9]<|
 q (c 9 k (.exit 0))<|
 q (.block 1 (r [M 8 10,M 10 5]<|
 r [M 1 11,M 0 12,M 5 13,I true 6 12 13 14,L 6 14 15,bq (.call false (t 11) [t 15]) 16]<|
 c 16 (r [M 5 17,M 17 4]<|
 .ret) k))<|
 R [D .add 8 1 18,M 18 8])))<|
 r [V (i6 (-1)) 4]<|
 .ret):=bj Tryz.func263
def uT: Of aD 264 38 [.tmp 4,.tmp 5] (r [V z0 4,V z0 5]<|
 r [M 0 11,C 281 [t 11] 12,M 1 13,C 281 [t 13] 14,C 280 [t 12,t 14] 15,M 15 10,E 10 0 16,E 10 1 17,M 16 6,M 17 7]<|
 r [V (.int .u64 9223372036854775807) 8]<|
 r [M 0 18,D .lss 18 0 19,M 1 20,D .lss 20 0 21,bq (.jD true false [.b] (t 19) (t 21)) 22,M 22 9]<|
 q (r [M 9 23]<|
 c 23 (R [M 8 24,bq (.bin .add (t 24) (.c (.int .u64 1))) 25,M 25 8]) k)<|
 gR [M 6 26,bq (.bin .neq (t 26) (.c (.int .u64 0))) 27,M 27 28,MF 7 29 28,MF 8 30 28,BF .gtr 29 30 31 28,O 28 31 32] 32 [V z0 4,V (i6 15) 5]<|
 q (r [M 9 33]<|
 c 33 (R [M 7 34,bq (.un .neg (t 34)) 35,M 35 7]) k)<|
 r [M 7 36,bq (.jE .i64 (t 36)) 37,M 37 4,V z0 5]<|
 .ret):=bj Tryz.func264
def zf: Of aD 265 19 [.tmp 4,.tmp 5] (r [V z0 4,V z0 5]<|
 q (.block 0 (r [M 1 7,D .eql 7 0 8,M 8 6]<|
 c 6 (r [V z0 4,V (i6 16) 5]<|
 .ret) (r [M 0 10,D .eql 10 (-9223372036854775808) 11,M 11 12,MT 1 13 12,DT .eql 13 (-1) 14 12,P 12 14 15,M 15 9]<|
 c 9 (r [V z0 4,V (i6 15) 5]<|
 .ret) k)))<|
 r [M 0 16,M 1 17,B .quo 16 17 18,M 18 4,V z0 5]<|
 .ret):=bj Tryz.func265
def tA: Of aD 266 58 [] (r [M 2 12,M 1 13,B .sub 12 13 14,M 14 10]<|
 r [M 3 15,M 2 16,B .sub 15 16 17,M 17 11]<|
 q (gL 0 [M 10 18,M 11 19,B .neq 18 19 20] 20 ((
 .block 1 (r [M 10 21,M 11 22,B .gtr 21 22 23]<|
 c 23 (r [M 0 24,M 2 25,M 10 26,B .sub 25 26 27,M 2 28,M 11 29,M 4 30,C 282 [t 24,t 27,t 28,t 29,t 30] 31]<|
 R [M 10 32,M 11 33,B .sub 32 33 34,M 34 10]) (r [M 0 35,M 2 36,M 10 37,B .sub 36 37 38,M 2 39,M 11 40,B .add 39 40 41,M 10 42,B .sub 41 42 43,M 10 44,M 4 45,C 282 [t 35,t 38,t 43,t 44,t 45] 46]<|
 R [M 11 47,M 10 48,B .sub 47 48 49,M 49 11])))))<|
 R [M 0 50,M 2 51,M 10 52,B .sub 51 52 53,M 2 54,M 10 55,M 4 56,C 282 [t 50,t 53,t 54,t 55,t 56] 57]):=bj Tryz.func266
def Ld: Of aD 268 26 [.tmp 2] (r [V z0 2]<|
 q (r [M 0 3]<|
 .block 0 (r [D .eql 3 15 5,M 5 4]<|
 c 4 (r [V (i6 1) 2]<|
 .ret) (r [D .eql 3 14 7,M 7 6]<|
 c 6 (r [V (i6 2) 2]<|
 .ret) (q (r [D .eql 3 8 9,M 9 8]<|
 c 8 k (r [D .eql 3 9 10,M 10 8]<|
 c 8 k (r [D .eql 3 10 11,M 11 8]<|
 c 8 k (r [D .eql 3 11 12,M 12 8]<|
 c 8 k (r [D .eql 3 12 13,M 13 8]<|
 c 8 k (R [D .eql 3 13 14,M 14 8]))))))<|
 c 8 (r [V (i6 3) 2]<|
 .ret) (q (r [D .eql 3 4 16,M 16 15]<|
 c 15 k (R [D .eql 3 5 17,M 17 15]))<|
 c 15 (r [V (i6 4) 2]<|
 .ret) (q (r [D .eql 3 6 19,M 19 18]<|
 c 18 k (R [D .eql 3 7 20,M 20 18]))<|
 c 18 (r [V (i6 5) 2]<|
 .ret) (r [D .eql 3 3 22,M 22 21]<|
 c 21 (r [V (i6 6) 2]<|
 .ret) (q (r [D .eql 3 1 24,M 24 23]<|
 c 23 k (R [D .eql 3 2 25,M 25 23]))<|
 c 23 (r [V (i6 7) 2]<|
 .ret) k))))))))<|
 r [V z0 2]<|
 .ret):=bj Tryz.func268
def Ae: Of aD 269 6 [.tmp 2,.tmp 3] (r [V z0 2,V z0 3]<|
 gR [M 0 4,D .eql 4 1 5] 5 [V (i6 (-9223372036854775808)) 2,V z0 3]<|
 r [V z0 2,V (i6 15) 3]<|
 .ret):=bj Tryz.func269
def Pu: Of aD 270 2 [.tmp 0] (r [V .ai 0]<|
 r [gB false 1 e0 16 [(0,gS [46,46]),(1,gS [33,61]),(2,gS [60,61]),(3,gS [62,61]),(4,gS [40]),(5,gS [41]),(6,gS [91]),(7,gS [93]),(8,gS [44]),(9,gS [43]),(10,gS [45]),(11,gS [42]),(12,gS [47]),(13,gS [61]),(14,gS [60]),(15,gS [62])] 1,M 1 0]<|
 .ret):=bj Tryz.func270
def vN: Of aD 271 19 [.tmp 4] (r [V z0 4]<|
 q (r [M 0 6,N 6 7,V z0 8]<|
 .block 0 (.loop (r [B .lss 8 7 9]<|
 q (c 9 k (.exit 0))<|
 q (.block 1 (r [M 8 10,M 10 5]<|
 r [M 1 11,M 0 12,M 5 13,I false 1 12 13 14,K 14 15,bq (.call false (t 11) [t 15]) 16]<|
 c 16 (r [M 5 17,M 17 4]<|
 .ret) k))<|
 R [D .add 8 1 18,M 18 8])))<|
 r [V (i6 (-1)) 4]<|
 .ret):=bj Tryz.func271
def NZ: Of aD 272 7 [.tmp 3] (r [gF 3]<|
 r [K 1 4,M 0 5,C 273 [t 4,t 5] 6,M 6 3]<|
 .ret):=bj Tryz.func272
def Bm: Of aD 273 8 [.tmp 4] (r [gF 4]<|
 r [M 0 5,M 1 6,C 283 [t 5,t 6] 7,M 7 4]<|
 .ret):=bj Tryz.func273
def xB: Of aD 274 32 [.tmp 6] (r [gF 6]<|
 gR [M 0 10,N 10 11,M 1 12,N 12 13,B .neq 11 13 14] 14 [gF 6]<|
 q (r [M 0 15,N 15 16,V z0 17]<|
 .block 0 (.loop (r [B .lss 17 16 18]<|
 q (c 18 k (.exit 0))<|
 q (.block 1 (r [M 17 19,I true 6 15 17 20,L 6 20 21,J [z0,z0,z0,e0,e0,.ai] 8,M 19 7,W 6 8 21]<|
 r [M 1 22,M 7 23,I true 6 22 23 24,L 6 24 25,J [z0,z0,z0,e0,e0,.ai] 9,W 6 9 25]<|
 r [M 2 26,L 6 8 27,L 6 9 28,bq (.call false (t 26) [t 27,t 28]) 29,U 29 30]<|
 c 30 (r [gF 6]<|
 .ret) k))<|
 R [D .add 17 1 31,M 31 17])))<|
 r [gT 6]<|
 .ret):=bj Tryz.func274
def Bn: Of aD 275 30 [.cell 2 true 4] (r [J [z0,e0,z0,z0] 2]<|
 q (q (.draw [M 0 3,Z 3 4,A 2 4 5,K 5 6,M 6 7,MF 0 8 7,ZF 8 9 7,AF 1 9 10 7,KF 10 11 7,MF 0 12 7,ZF 12 13 7,AF 0 13 14 7,KF 14 15 7,NF 15 16 7,BF .geq 11 16 17 7,O 7 17 18] [])<|
 c 18 (r [gU [z0,e0,z0,z0] [] 19,W 4 2 19]<|
 .ret) k)<|
 q (.draw [M 0 20,Z 20 21,A 0 21 22,K 22 23,M 0 24,Z 24 25,A 1 25 26,K 26 27,I true 4 23 27 28,L 4 28 29,W 4 2 29] [])<|
 .ret):=bj Tryz.func275
def Af: Of aD 276 14 [] (r [M 0 6,M 1 7,M 2 8,C 254 [t 6,t 7,t 8] 9,U 9 10]<|
 c 10 (R [M 0 11,Z 11 12,A 2 12 13,⟨.store 1 (t 13) (.c (.bool true)),none,none⟩]) k):=bj Tryz.func276
def Le: Of aD 277 15 [.cell 2 true 3,.tmp 3] (r [J [z0,z0,e0] 2,gF 3]<|
 q (r [M 0 4]<|
 .block 0 (r [bq (.bin .eql (t 4) (gS [110,117,108,108])) 6,M 6 5]<|
 c 5 (r [gU [z0,z0,e0] [] 7,W 3 2 7,gT 3]<|
 .ret) (r [bq (.bin .eql (t 4) (gS [102,97,108,115,101])) 9,M 9 8]<|
 c 8 (r [gU [z0,z0,e0] [(0,1,gJ 3)] 10,W 3 2 10,gT 3]<|
 .ret) (r [bq (.bin .eql (t 4) (gS [116,114,117,101])) 12,M 12 11]<|
 c 11 (r [gU [z0,z0,e0] [(0,1,gJ 3),(1,1,gJ 1)] 13,W 3 2 13,gT 3]<|
 .ret) k))))<|
 r [gU [z0,z0,e0] [] 14,W 3 2 14,gF 3]<|
 .ret):=bj Tryz.func277
def DQ: Of aD 278 14 [.tmp 0] (r [V .ai 0]<|
 r [gU [z0,e0,z0] [(0,1,gJ 4),(1,1,gS [43]),(2,1,gJ 4)] 1,gU [z0,e0,z0] [(0,1,gJ 5),(1,1,gS [45]),(2,1,gJ 4)] 2,gU [z0,e0,z0] [(0,1,gJ 6),(1,1,gS [42]),(2,1,gJ 5)] 3,gU [z0,e0,z0] [(0,1,gJ 7),(1,1,gS [47]),(2,1,gJ 5)] 4,gU [z0,e0,z0] [(0,1,gJ 8),(1,1,gS [61]),(2,1,gJ 3)] 5,gU [z0,e0,z0] [(0,1,gJ 9),(1,1,gS [33,61]),(2,1,gJ 3)] 6,gU [z0,e0,z0] [(0,1,gJ 10),(1,1,gS [60]),(2,1,gJ 3)] 7,gU [z0,e0,z0] [(0,1,gJ 11),(1,1,gS [60,61]),(2,1,gJ 3)] 8,gU [z0,e0,z0] [(0,1,gJ 12),(1,1,gS [62]),(2,1,gJ 3)] 9,gU [z0,e0,z0] [(0,1,gJ 13),(1,1,gS [62,61]),(2,1,gJ 3)] 10,gU [z0,e0,z0] [(0,1,gJ 14),(1,1,gS [97,110,100]),(2,1,gJ 2)] 11,gU [z0,e0,z0] [(0,1,gJ 15),(1,1,gS [111,114]),(2,1,gJ 1)] 12,gB true 3 (.agg [z0,e0,z0]) 12 [(0,t 1),(1,t 2),(2,t 3),(3,t 4),(4,t 5),(5,t 6),(6,t 7),(7,t 8),(8,t 9),(9,t 10),(10,t 11),(11,t 12)] 13,M 13 0]<|
 .ret):=bj Tryz.func278
def Bo: Of aD 279 19 [.tmp 4] (r [V z0 4]<|
 q (r [M 0 6,N 6 7,V z0 8]<|
 .block 0 (.loop (r [B .lss 8 7 9]<|
 q (c 9 k (.exit 0))<|
 q (.block 1 (r [M 8 10,M 10 5]<|
 r [M 1 11,M 0 12,M 5 13,I false 1 12 13 14,K 14 15,B .eql 11 15 16]<|
 c 16 (r [M 5 17,M 17 4]<|
 .ret) k))<|
 R [D .add 8 1 18,M 18 8])))<|
 r [V (i6 (-1)) 4]<|
 .ret):=bj Tryz.func279
def DR: Of aD 281 10 [.tmp 2] (r [V (.int .u64 0) 2]<|
 gR [M 0 3,D .lss 3 0 4] 4 [M 0 5,bq (.jE .u64 (t 5)) 6,bq (.un .neg (t 6)) 7,M 7 2]<|
 r [M 0 8,bq (.jE .u64 (t 8)) 9,M 9 2]<|
 .ret):=bj Tryz.func281
def rG: Of aD 282 38 [] (r [V z0 10]<|
 gL 0 [M 10 11,M 3 12,B .lss 11 12 13] 13 ((
 q (.block 1 (.draw [M 0 16,M 1 17,M 10 18,B .add 17 18 19,M 0 20,M 2 21,M 10 22,B .add 21 22 23,M 0 24,M 2 25,M 10 26,B .add 25 26 27,I false 1 24 27 28,K 28 29,M 0 30,M 1 31,M 10 32,B .add 31 32 33,I false 1 30 33 34,K 34 35,I false 1 16 19 36,W 1 36 29,I false 1 20 23 37,W 1 37 35] []))<|
 R [M 10 14,D .add 14 1 15,M 15 10]))):=bj Tryz.func282
def rH: Of aD 283 18 [.tmp 4] (r [gF 4]<|
 r [M 0 5,S 5 6,M 1 7,S 7 8,B .geq 6 8 9,M 9 10,MT 0 11 10,MT 1 12 10,ST 12 13 10,⟨.p8 (t 11) none (some (t 13)),(some 14),some (10,true)⟩,MT 1 15 10,BT .eql 14 15 16 10,P 10 16 17,M 17 4]<|
 .ret):=bj Tryz.func283
end Go.Proofs.YthakfmmgnjpmdaaGreat
namespace Go.AM
variable {P:Program}
def aP{p:Prop}(h:False:=by first|omega|(simp_all;done)|(simp_all;omega)): p:=h.elim
def at_{p:Prop}(h:p:=by simp (disch:=omega) only[l7,kO,and_true,go_sem,sK,Pc,Ml,Nat.reduceAdd,Nat.reduceBEq,↓reduceIte,Int.natCast_add,Int.cast_ofNat_Int]<;>(try trivial)<;>(try omega)<;>(try (repeat (first|trivial|(refine And.intro ?_ ?_)|(congr 1;omega))))): p:=h
def bK{p:Prop}(h:p:=by repeat (first|exact aa1 _ _ _|refine aa2 rfl ?_|refine Y0 rfl ?_|(simp only[WL,YV]))): p:=h
def xC{p:Prop}(h:p:=by first|exact bn.refl (by simp)|(repeat (first|exact bn.nil _|refine bn.cons ?_ ?_|exact View.ai _|exact View.refl _ (by simp)|exact View.weak _ _ _ (by simp)|exact View.cell _ _ rfl rfl (by simp)|refine View.fnL ?_ ?_|exact View.vec rfl (by simp) (by simp) (by simp)|refine View.Ky ?_|refine View.n9 ?_))): p:=h
def bs_{K:AV->Prop}{xs:List AV}{m n:Nat}{s:List UInt8}(hk:K (.str s))(hx:xs=s.map fun b=>AV.int .u8 b.toNat)(hm:m=xs.length)(hn:n=xs.length): Uz (some (.vec ⟨false,1⟩ xs)) m 0 n (.mk:Tg K):=UA s hx hm hn hk
def ak {G K : Prop} (k : K) (h : K -> G := by
    first
    |(intro k;simp (disch:=omega) only[go_sem,aq,au,aA];exact k)
    |(intro k;with_reducible refine aaB ?_ k;first|omega|(simp;done)|(simp;omega)|assumption)
    |(intro k;with_reducible exact YZ k)
    |(intro k;with_reducible exact bs_ k rfl (by simp) (by simp))
    |(intro k;with_reducible first|exact uw (by assumption) k|exact wT (by assumption) k)):G:=h k
def gn_ {G K : Prop} (k : K) (h : K -> G := by
    first
    |(intro k;simp (disch:=omega) only[go_sem,aq,au,aA];exact k)
    |(intro k;with_reducible refine aaB ?_ k;first|omega|(simp;done)|(simp;omega)|assumption)
    |(intro k;with_reducible exact bs_ k rfl (by simp) (by simp))):G:=h k
def cc_{t:Bool}{T E p q:Prop}(h:p->T)(h':q->E)(hp:(t=true)=p)(hq:(t=false)=q): Bd (.bool t) (.mk:Tg (T,E)):=by
 subst hp hq;exact aaZ h h'
def gk_{t b:Bool}{T E U p q:Prop}(h:p->T)(h':q->E)(hp:(t=b)=p)(hq:(t = !b)=q): nD (.bool t) b (.mk:Tg (T,E,U)):=by
 subst hp hq;exact YP h h'
def aj {p q T E G : Prop} (h : p -> T) (h' : q -> E) (hg : (p -> T) -> (q -> E) -> G := by
    intro h h';with_reducible first|refine cc_ h h' ?_ ?_|refine gk_ h h' ?_ ?_
    all_goals
     (try simp only[decide_eq_true_eq,decide_eq_false_iff_not,beq_iff_eq,beq_eq_false_iff_ne,cy,Bool.not_eq_false',Bool.not_true,gi,Int.not_lt,Int.not_le,ne_eq,Int.ofNat_lt,Int.ofNat_le,not_true_eq_false,reduceCtorEq,Int.toNat_zero])
     exact rfl):G:=hg h h'
def cW {n : FuncId} {args : List AV} {r : AV} {K G : Prop} (h : aF P n args r) (k : K) (hg : aF P n args r -> K -> G := by
    intro h k;with_reducible first|exact uw h k|exact wT h k):G:=hg h k
def yG {n : FuncId} {args : List AV} {r : AV} {K G : Prop} (h : aF P n args r) (k : K) (hg : aF P n args r -> K -> G := by
    intro h k;with_reducible first|refine aa3 h ?_ k|refine aa4 h ?_ k
    exact xC):G:=hg h k
def Cx {n : FuncId} {args : List AV} {r : AV} {K G : Prop} (h : aF P n args r) (k : K) (hg : aF P n args r -> K -> G := by
    intro h k;with_reducible first|refine Kz h ?_ ?_ k|refine aa5 h ?_ ?_ k
    ·exact xC
    ·simp[AV.flat,AV.yD]):G:=hg h k
def bh {f : FuncId} {off : Nat} {args cs ds : List AV} {r : AV} {K G : Prop} (h : br P f off args cs ds r) (k : K) (hg : br P f off args cs ds r -> K -> G := by
    intro h k;with_reducible first|exact KA h rfl k|exact KD h rfl k|exact KE h rfl k):G:=hg h k
end Go.AM
namespace Go.Proofs.YthakfmmgnjpmdaaGreat
open Go.AM
abbrev aS:=List UInt8
structure aH where
 kind:Int
 n:Int
 s:aS
deriving DecidableEq,Inhabited
structure cg where
 kind:Int
 s:aS
 n:Int
 pos:Int
deriving DecidableEq,Inhabited
inductive Expr where
 | mk (op:Int) (v:aH) (s:aS) (l:List Expr)
instance:Inhabited Expr:=⟨.mk 0 ⟨0,0,[]⟩ [] []⟩
def Expr.op: Expr->Int | .mk op _ _ _=>op
def Expr.v: Expr->aH | .mk _ v _ _=>v
def Expr.s: Expr->aS | .mk _ _ s _=>s
def Expr.l: Expr->List Expr | .mk _ _ _ l=>l
structure Test where
 kind:Int
 a:Expr
 b:Expr
 lo:Bool
 hi:Bool
deriving Inhabited
structure Cell where
 any:Bool
 neg:Bool
 tests:List Test
deriving Inhabited
structure bQ where
 name:aS
 kind:Int
 order:List aH
deriving Inhabited
structure kX where
 cells:List aS
 outs:List aS
deriving Inhabited
structure Table where
 name:aS
 ins:List bQ
 outs:List bQ
 bu:Int
 agg:Int
 rules:List kX
deriving Inhabited
structure pG where
 cells:List Cell
 outs:List Expr
deriving Inhabited
structure Ready where
 table:Table
 lines:List pG
deriving Inhabited
abbrev I(n:Int): AV:= .int .i64 n
abbrev E1: El:=⟨false,1⟩
abbrev EV: El:=⟨true,3⟩
abbrev ET: El:=⟨true,4⟩
abbrev EX: El:=⟨true,6⟩
abbrev ES: El:=⟨true,15⟩
abbrev EC: El:=⟨true,3⟩
abbrev ER: El:=⟨true,2⟩
def bD(v:aH): AV:= .agg [I v.kind,I v.n,.str v.s]
def lT(t:cg): AV:= .agg [I t.kind,.str t.s,I t.n,I t.pos]
def gf(s:aS): AV:= .str s
def aJ: Expr->AV
 | .mk op v s l=> .agg [I op,I v.kind,I v.n,.str v.s,.str s,.aG false EX (l.map aJ)]
def cH(l:List Expr): AV:= .aG false EX (l.map aJ)
def bS(t:Test): AV:= .agg [I t.kind,I t.a.op,I t.a.v.kind,I t.a.v.n,.str t.a.v.s,.str t.a.s,cH t.a.l,I t.b.op,I t.b.v.kind,I t.b.v.n,.str t.b.v.s,.str t.b.s,cH t.b.l,.bool t.lo,.bool t.hi]
def gG(l:List Test): AV:= .aG false ES (l.map bS)
def bY(c:Cell): AV:= .agg [.bool c.any,.bool c.neg,gG c.tests]
def aL(l:List aH): AV:= .aG false EV (l.map bD)
def pT(l:List cg): AV:= .aG false ET (l.map lT)
def lJ(l:List aS): AV:= .aG false E1 (l.map gf)
def bW(c:bQ): AV:= .agg [.str c.name,I c.kind,aL c.order]
def aY(l:List bQ): AV:= .aG false EC (l.map bW)
def dN(r:kX): AV:= .agg [lJ r.cells,lJ r.outs]
def dy(l:List kX): AV:= .aG false ER (l.map dN)
def eJ(t:Table): List AV:=[.str t.name,aY t.ins,aY t.outs,I t.bu,I t.agg,dy t.rules]
def cI(t:Table): AV:= .agg (eJ t)
def nG(l:List Cell): AV:= .aG false EC (l.map bY)
def jb(l:pG): AV:= .agg [nG l.cells,cH l.outs]
def l9(l:List pG): AV:= .aG false ER (l.map jb)
def iZ(r:Ready): AV:= .agg [.str r.table.name,aY r.table.ins,aY r.table.outs,I r.table.bu,I r.table.agg,dy r.table.rules,l9 r.lines]
def aU(x:Expr): aJ x = .agg [I x.op,I x.v.kind,I x.v.n,.str x.v.s,.str x.s,.aG false EX (x.l.map aJ)]:=by
 cases x;simp only[aJ];rfl
def Expr.ind{C:Expr->Prop}(h:∀ op v s l,(∀ y ∈ l,C y)->C (.mk op v s l)): ∀ x,C x
 | .mk op v s l=>h op v s l fun y _=>Expr.ind h y
attribute [go_sem] aU bD lT bS bY bW dN eJ cI jb iZ gf cH gG aL pT lJ aY dy nG l9
@[go_sem] def Expr.ahA (op:Int) (v:aH) (s:aS) (l:List Expr):(Expr.mk op v s l).op=op:=_root_.id rfl
@[go_sem] def Expr.ahJ (op:Int) (v:aH) (s:aS) (l:List Expr):(Expr.mk op v s l).v=v:=_root_.id rfl
@[go_sem] def Expr.ahK (op:Int) (v:aH) (s:aS) (l:List Expr):(Expr.mk op v s l).s=s:=_root_.id rfl
@[go_sem] def Expr.ahL (op:Int) (v:aH) (s:aS) (l:List Expr):(Expr.mk op v s l).l=l:=_root_.id rfl
def xD(v:aH): (bD v).cQ=true:=rfl
def Hp(t:cg): (lT t).cQ=true:=rfl
def dR(x:Expr): (aJ x).cQ=true:=by
 induction x using Expr.ind with
 | h op v s l ih =>
   simp only[aJ,AV.cQ,AV.bG,dG,Bool.and_true];rw[qd];intro a ha;obtain⟨y,hy,rfl⟩:=eZ.1 ha;exact ih y hy
def qN(l:List Expr): (cH l).cQ=true:=by simp only[cH,AV.cQ];exact gk _ _ dR
def DS(t:Test): (bS t).cQ=true:=by simp[bS,AV.cQ,AV.bG,qN]
def wA(l:List Test): (gG l).cQ=true:=by simp only[gG,AV.cQ];exact gk _ _ DS
def yH(c:Cell): (bY c).cQ=true:=by simp[bY,AV.cQ,AV.bG,wA]
def sL(l:List aH): (aL l).cQ=true:=by simp only[aL,AV.cQ];exact gk _ _ xD
def WS(l:List cg): (pT l).cQ=true:=by simp only[pT,AV.cQ];exact gk _ _ Hp
def DU(l:List aS): (lJ l).cQ=true:=by simp only[lJ,AV.cQ];exact gk _ _ (fun _=>rfl)
def Bp(c:bQ): (bW c).cQ=true:=by simp[bW,AV.cQ,AV.bG,sL]
def ie(l:List bQ): (aY l).cQ=true:=by simp only[aY,AV.cQ];exact gk _ _ Bp
def DV(r:kX): (dN r).cQ=true:=by simp[dN,AV.cQ,AV.bG,DU]
def qO(l:List kX): (dy l).cQ=true:=by simp only[dy,AV.cQ];exact gk _ _ DV
def I9(t:Table): (cI t).cQ=true:=by simp[cI,eJ,AV.cQ,AV.bG,ie,qO]
def I_(l:List Cell): (nG l).cQ=true:=by simp only[nG,AV.cQ];exact gk _ _ yH
def Mm(l:pG): (jb l).cQ=true:=by simp[jb,AV.cQ,AV.bG,I_,qN]
def vq(l:List Expr): AV.bG (l.map aJ)=true:=gk _ _ dR
def WT(l:List aH): AV.bG (l.map bD)=true:=gk _ _ xD
def Ja(l:List cg): AV.bG (l.map lT)=true:=gk _ _ Hp
def acY(l:List aS): AV.bG (l.map gf)=true:=gk _ _ (fun _=>rfl)
def Mn(l:List Test): AV.bG (l.map bS)=true:=gk _ _ DS
def jf(l:List Cell): AV.bG (l.map bY)=true:=gk _ _ yH
def Za(l:List bQ): AV.bG (l.map bW)=true:=gk _ _ Bp
def WU(l:List kX): AV.bG (l.map dN)=true:=gk _ _ DV
def DW(l:List pG): AV.bG (l.map jb)=true:=gk _ _ Mm
attribute [simp] AV.cQ AV.bG xD Hp dR qN DS wA yH sL WS DU Bp ie DV qO I9 I_ Mm vq WT Ja acY Mn jf Za WU DW
def aO{α : Type}[Inhabited α]{l:List α}{i:Nat}(h:i<l.length): l.getD i default ∈ l:=by
 rw[aB,aE h];exact eW h
def kz(c:UInt8): Bool:=decide (32<=c.toNat) && decide (c.toNat<=126)
def nq(c:UInt8): Bool:=(decide (97<=c.toNat) && decide (c.toNat<=122)) ||(decide (65<=c.toNat) && decide (c.toNat<=90)) || decide (c.toNat=95)
def dZ(c:UInt8): Bool:=decide (48<=c.toNat) && decide (c.toNat<=57)
def qP(c:UInt8): Bool:=nq c || dZ c
def lA(s:aS): Bool:=decide (s.length<=40) && s.all kz
def bp(v:aH): Bool :=
 if v.kind=0 then decide (v.n=0) && decide (v.s=[])
 else if v.kind=1 then decide (v.s=[])
 else if v.kind=2 then decide (v.n=0) && lA v.s
 else if v.kind=3 then decide (v.s=[]) && (decide (v.n=0) || decide (v.n=1))
 else false
end Go.Proofs.YthakfmmgnjpmdaaGreat
namespace Go.Proofs.YthakfmmgnjpmdaaGreat
open Go.AM
def mh(s:aS): Nat:=match s with
 | []=>0
 | c::_=>if nq c then(s.takeWhile qP).length else 0
structure PR where
 kind:Int
 s:aS
 n:Int
 len:Nat
 e:Int
deriving Inhabited,DecidableEq
def S9(p:PR): AV:= .bJ [.agg [I p.kind,.str p.s,I p.n,I 0,I p.len],I p.e]
def WV(p:PR): AV:= .bJ [.agg [I p.kind,.str p.s,I p.n,I 0],I p.len,I p.e]
attribute [go_sem] S9 WV
def PR.err(e:Int): PR:=⟨0,[],0,0,e⟩
def yI(s:aS): PR:=if 16<mh s then .err 5 else⟨1,s.take (mh s),0,mh s,0⟩
def tB: aS->Int->Option Int
 | [],v=>some v
 | c::r,v=>if v>(9223372036854775807-((c.toNat:Int)-48)) / 10 then none else tB r (v*10+((c.toNat:Int)-48))
def nr(s:aS): PR :=
 let n:=(s.takeWhile dZ).length
 if 1<n/\(s.getD 0 0).toNat=48 then .err 11
 else match tB (s.takeWhile dZ) 0 with
  | none=> .err 15
  | some v=>⟨2,[],v,n,0⟩
def kj: aS->aS->Nat->PR
 | [],_,_=> .err 11
 | c :: r, b, i =>
   if c.toNat=34 then(if 40<b.length then .err 5 else⟨3,b,0,i+1,0⟩)
   else if c.toNat=92 then
    match r with
    | []=> .err 11
    | d::r'=>if d.toNat=34\/d.toNat=92 then kj r' (b++[d]) (i+2)else .err 11
   else if kz c then kj r (b++[c]) (i+1)else .err 11
def fV (c : UInt8) (r b : aS) (i : Nat) : kj (c :: r) b i =
    if c.toNat=34 then(if 40<b.length then .err 5 else⟨3,b,0,i+1,0⟩)
    else if c.toNat=92 then
     match r with
     | []=> .err 11
     | d::r'=>if d.toNat=34\/d.toNat=92 then kj r' (b++[d]) (i+2)else .err 11
    else if kz c then kj r (b++[c]) (i+1)else .err 11:=by
 rw[kj.eq_def];rfl
def oR: List aS:=[[46,46],[33,61],[60,61],[62,61],[40],[41],[91],[93],[44],[43],[45],[42],[47],[61],[60],[62]]
def rZ(s:aS): PR:=match oR.find? (fun m=>m.isPrefixOf s)with
 | some m=>⟨4,m,0,m.length,0⟩
 | none=> .err 11
def i_(s:aS): PR :=
 let c:=s.getD 0 0
 if nq c then yI s else if dZ c then nr s else if c.toNat=34 then kj (s.drop 1) [] 1 else rZ s
def su: Nat->aS->Nat->List cg->List cg × Int × Int
 | 0,_,_,acc=>(acc,0,0)
 | _+1,[],_,acc=>(acc,0,0)
 | f + 1, c :: r, pos, acc =>
   if c.toNat=32 then su f r (pos+1) acc
   else if(i_ (c::r)).e=0 then su f ((c::r).drop (i_ (c::r)).len) (pos+(i_ (c::r)).len) (acc++[⟨(i_ (c::r)).kind,(i_ (c::r)).s,(i_ (c::r)).n,pos⟩])
   else([],pos,(i_ (c::r)).e)
def bF(s:aS): List cg × Int × Int:=if 200<s.length then([],0,5)else su (s.length+1) s 0 []
def sM: List aS:=[[97,110,100],[111,114],[110,111,116],[105,102],[116,104,101,110],[101,108,115,101],[116,114,117,101],[102,97,108,115,101],[110,117,108,108]]
def sN(s:aS): Bool:=sM.contains s
def jH(s:aS): Bool:=decide (s≠[]) && decide (mh s=s.length) && decide (s.length<=16) && !sN s
def tC{p:UInt8->Bool}(s:aS): (s.takeWhile p).length<=s.length:=by
 induction s with
 | nil=>simp
 | cons c s ih=>simp only[fg];split<;>simp;omega
def Hq(s:aS): mh s<=s.length:=by
 unfold mh;split
 ·simp
 ·split
  ·exact tC _
  ·simp
def WW{s:aS}(h:nq (s.getD 0 0)=true)(hs:s≠[]): 1<=mh s:=by
 cases s with
 | nil=>exact absurd rfl hs
 | cons c r =>
   simp only[dn]at h;simp only[mh,h,if_true,fg,qP,Bool.true_or];simp
def WX(r b:aS)(i:Nat): (kj r b i).e=0->i+1<=(kj r b i).len/\(kj r b i).len<=i+r.length:=by
 fun_induction kj r b i<;>simp_all[PR.err]<;>omega
def RG{s:aS}(h:(nr s).e=0): (nr s).len=(s.takeWhile dZ).length:=by
 unfold nr at *;simp only at *;split at h
 ·simp[PR.err]at h
 ·rename_i h1;rw[if_neg h1];split at h
  ·simp[PR.err]at h
  ·rfl
def WY{s:aS}(h:(rZ s).e=0): 1<=(rZ s).len/\(rZ s).len<=s.length:=by
 unfold rZ at *;split at h
 ·rename_i m hm;have h1:=List.find?_some hm;have h2:=List.mem_of_find?_eq_some hm;refine⟨?_,(gQ.1 h1).length_le⟩;show 1<=m.length;simp only[oR,List.mem_cons,List.not_mem_nil,or_false]at h2;rcases h2 with h|h|h|h|h|h|h|h|h|h|h|h|h|h|h|h<;>subst h<;>simp
 ·simp[PR.err]at h
def Hr{s:aS}(hs:s≠[])(h:(i_ s).e=0): 1<=(i_ s).len/\(i_ s).len<=s.length:=by
 unfold i_ at *;simp only at *;split at h
 ·rename_i h1;rw[if_pos h1];unfold yI at *;split at h
  ·simp[PR.err]at h
  ·rename_i h2;rw[if_neg h2];exact⟨WW h1 hs,Hq s⟩
 ·rename_i h1;rw[if_neg h1];split at h
  ·rename_i h2;rw[if_pos h2,RG h];refine⟨?_,tC _⟩;cases s with
   | nil=>exact absurd rfl hs
   | cons c r=>simp only[dn]at h2;simp[fg,h2]
  ·rename_i h2;rw[if_neg h2];split at h
   ·rename_i h3;rw[if_pos h3];have:=WX _ _ _ h;have h4:1<=s.length:=by cases s with|nil=>exact absurd rfl hs|cons=>simp
    rw[List.length_drop]at this;omega
   ·rename_i h3;rw[if_neg h3];exact WY h
