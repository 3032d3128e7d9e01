/- Part. -/
import Derived.Test.YtcjcnfcedihckaaGreatDoorW17
import Derived.KernelRfl
set_option linter.all false
namespace Go.Proofs.YtcjcnfcedihckaaGreatDoor
open Go.AM Go.AM.W
set_option maxRecDepth 10000
def Mq: Of aK 214 16 [.tmp 4] (r [gF 4]<|
 r [M 0 5,M 1 6,B .eql 5 6 7,M 7 8,MF 0 9 8,DF .eql 9 0 10 8,O 8 10 11,M 11 12,MF 1 13 12,DF .eql 13 0 14 12,O 12 14 15,M 15 4]<|
 .ret):=bV Tryz.func214
def Hh: Of aK 222 52 [.tmp 2,.tmp 3,.tmp 4] (r [V .au 2,V z0 3,V z0 4]<|
 .scope 0 (gR [M 0 9,S 9 10,D .gtr 10 200 11] 11 [V .au 2,V z0 3,V (i6 5) 4]<|
 r [bw (.lp ⟨true,4⟩) 5]<|
 r [V z0 6]<|
 q (.label 0)<|
 q (.block 0 (.loop (.block 1 (q (gL 2 [M 6 12,M 0 13,S 13 14,B .lss 12 14 15,M 15 16,MT 0 17 16,MT 6 18 16,⟨.j_ (t 17) (t 18),(some 19),some (16,true)⟩,⟨.bin .eql (t 19) (.c (.int .u8 32)),(some 20),some (16,true)⟩,P 16 20 21] 21 ((
 .block 3 (R [M 6 22,D .add 22 1 23,M 23 6]))))<|
 q (r [M 6 24,M 0 25,S 25 26,B .eql 24 26 27]<|
 c 27 (.exit 0) k)<|
 r [M 0 29,M 6 30,bw (.pH (t 29) (some (t 30)) none) 31,C 256 [t 31] 32,M 32 28,E 28 0 33,E 28 1 34,J [z0,e0,z0,z0,z0] 7,W 5 7 33,M 34 8]<|
 gR [M 8 35,D .neq 35 0 36] 36 [M 6 37,M 8 38,V .au 2,M 37 3,M 38 4]<|
 r [M 6 39,A 0 7 40,A 3 40 41,W 1 41 39]<|
 r [M 5 42,A 0 7 43,L 4 43 44,gB true 4 (.agg [z0,e0,z0,z0]) 1 [(0,t 44)] 45,gA true 4 42 45 46,M 46 5]<|
 R [M 6 47,A 4 7 48,K 48 49,B .add 47 49 50,M 50 6]))))<|
 r [M 5 51,M 51 2,V z0 3,V z0 4]<|
 .ret) (.seq k <|
 q (.block 0 (.loop (.block 1 (q (gL 2 [M 6 12,M 0 13,S 13 14,B .lss 12 14 15,M 15 16,MT 0 17 16,MT 6 18 16,⟨.j_ (t 17) (t 18),(some 19),some (16,true)⟩,⟨.bin .eql (t 19) (.c (.int .u8 32)),(some 20),some (16,true)⟩,P 16 20 21] 21 ((
 .block 3 (R [M 6 22,D .add 22 1 23,M 23 6]))))<|
 q (r [M 6 24,M 0 25,S 25 26,B .eql 24 26 27]<|
 c 27 (.exit 0) k)<|
 r [M 0 29,M 6 30,bw (.pH (t 29) (some (t 30)) none) 31,C 256 [t 31] 32,M 32 28,E 28 0 33,E 28 1 34,J [z0,e0,z0,z0,z0] 7,W 5 7 33,M 34 8]<|
 gR [M 8 35,D .neq 35 0 36] 36 [M 6 37,M 8 38,V .au 2,M 37 3,M 38 4]<|
 r [M 6 39,A 0 7 40,A 3 40 41,W 1 41 39]<|
 r [M 5 42,A 0 7 43,L 4 43 44,gB true 4 (.agg [z0,e0,z0,z0]) 1 [(0,t 44)] 45,gA true 4 42 45 46,M 46 5]<|
 R [M 6 47,A 4 7 48,K 48 49,B .add 47 49 50,M 50 6]))))<|
 r [M 5 51,M 51 2,V z0 3,V z0 4]<|
 .ret)):=pN ⟨[],[],[(5,⟨true,4⟩)],[],[],[]⟩ Tryz.func222
def vU: Of aK 227 41 [.tmp 2] (r [V z0 2]<|
 gR [M 0 5,N 5 6,D .gtr 6 6 7] 7 [V (i6 24) 2]<|
 q (r [M 0 8,N 8 9,V z0 10]<|
 .block 0 (.loop (r [B .lss 10 9 11]<|
 q (c 11 k (.exit 0))<|
 q (.block 1 (r [M 10 12,I true 3 8 10 13,L 3 13 14,J [e0,z0,.au] 4,M 12 3,W 3 4 14]<|
 gR [A 0 4 15,K 15 16,C 38 [t 16] 17,U 17 18,M 18 19,MF 0 20 19,AF 0 4 21 19,KF 21 22 19,CF 261 [t 20,t 22] 23 19,MF 3 24 19,BF .neq 23 24 25 19,O 19 25 26] 26 [V (i6 13) 2]<|
 r [A 1 4 27,K 27 28,D .neq 28 1 29,M 29 30,AT 1 4 31 30,KT 31 32 30,DT .neq 32 2 33 30,P 30 33 34,M 34 35,AT 1 4 36 35,KT 36 37 35,DT .neq 37 3 38 35,P 35 38 39]<|
 c 39 (r [V (i6 14) 2]<|
 .ret) k))<|
 R [D .add 10 1 40,M 40 10])))<|
 r [V z0 2]<|
 .ret):=bV Tryz.func227
def tR: Of aK 228 9 [.tmp 4] (r [gF 4]<|
 r [M 0 5,M 1 6,C 262 [t 5,t 6] 7,D .geq 7 0 8,M 8 4]<|
 .ret):=bV Tryz.func228
def BL: Of aK 229 8 [.tmp 3] (r [X 0 2,gF 3]<|
 r [L 3 2 4,K 1 5,C 230 [t 4,t 5] 6,U 6 7,M 7 3]<|
 .ret):=bV Tryz.func229
def yd: Of aK 230 50 [.tmp 4] (r [X 0 2,gF 4]<|
 gR [M 1 7,U 7 8] 8 [A 2 2 9,K 9 10,N 10 11,D .eql 11 0 12,M 12 4]<|
 q (r [A 2 2 13,K 13 14,N 14 15,V z0 16]<|
 .block 0 (.loop (r [B .lss 16 15 17]<|
 q (c 17 k (.exit 0))<|
 q (.block 1 (r [M 16 18,I true 3 14 16 19,L 3 19 20,J [z0,z0,e0] 6,M 18 5,W 3 6 20]<|
 r [L 3 6 21,C 85 [t 21] 22,D .neq 22 0 23,M 23 24,AF 0 6 25 24,KF 25 26 24,AF 1 2 27 24,KF 27 28 24,BF .neq 26 28 29 24,O 24 29 30,M 30 31,AF 2 2 32 31,KF 32 33 31,LF 3 6 34 31,CF 263 [t 33,t 34] 35 31,MF 5 36 31,BF .neq 35 36 37 31,O 31 37 38]<|
 c 38 (r [gF 4]<|
 .ret) k))<|
 R [D .add 16 1 39,M 39 16])))<|
 r [A 2 2 40,K 40 41,N 41 42,D .geq 42 1 43,M 43 44,AT 2 2 45 44,KT 45 46 44,NT 46 47 44,DT .leq 47 8 48 44,P 44 48 49,M 49 4]<|
 .ret):=bV Tryz.func230
def lI: Of aK 231 77 [.cell 2 true 3,.tmp 3,.tmp 4] (r [J [.bool false,.bool false,.au] 2,V z0 3,V z0 4]<|
 r [M 0 11,C 222 [t 11] 12,M 12 10,E 10 0 13,E 10 1 14,E 10 2 15,M 13 5,M 14 6,M 15 7]<|
 gR [M 7 16,D .neq 16 0 17] 17 [gU [.bool false,.bool false,.au] [] 18,M 6 19,M 7 20,W 3 2 18,M 19 3,M 20 4]<|
 r [M 5 21,gU [.au,z0] [(0,1,t 21)] 22,gU [.au,z0,.bool false] [(0,2,t 22)] 23,X 23 24,M 24 8]<|
 gR [M 5 25,N 25 26,D .eql 26 1 27,M 27 28,MT 8 29 28,ZT 29 30 28,AT 0 30 31 28,CT 264 [t 31] 32 28,⟨.bin .eql (t 32) (gS [45]),(some 33),some (28,true)⟩,P 28 33 34] 34 [gU [.bool false,.bool false,.au] [(0,1,(.c (.bool true)))] 35,W 3 2 35,V z0 3,V z0 4]<|
 r [M 8 36,C 265 [t 36] 37,J [.bool false,.bool false,.au] 9,W 3 9 37]<|
 q (.block 0 (r [M 8 39,Z 39 40,A 0 40 41,A 1 41 42,K 42 43,M 5 44,N 44 45,B .lss 43 45 46,M 46 38]<|
 c 38 (q (.draw [gU [.bool false,.bool false,.au] [] 47,M 5 48,M 8 49,Z 49 50,A 0 50 51,A 1 51 52,K 52 53,I true 4 48 53 54,A 3 54 55,K 55 56,W 3 2 47,M 56 3,V (i6 11) 4] [(t 52,t 2),(t 55,t 2)])<|
 .ret) (r [M 8 58,Z 58 59,A 2 59 60,K 60 61,M 61 57]<|
 c 57 (r [gU [.bool false,.bool false,.au] [] 62,M 0 63,S 63 64,W 3 2 62,M 64 3,V (i6 11) 4]<|
 .ret) (r [A 2 9 66,K 66 67,N 67 68,D .gtr 68 12 69,M 69 65]<|
 c 65 (r [gU [.bool false,.bool false,.au] [] 70,W 3 2 70,V z0 3,V (i6 24) 4]<|
 .ret) (r [L 3 9 72,C 154 [t 72] 73,D .neq 73 0 74,M 74 71]<|
 c 71 (r [gU [.bool false,.bool false,.au] [] 75,W 3 2 75,V z0 3,V (i6 12) 4]<|
 .ret) k)))))<|
 r [L 3 9 76,W 3 2 76,V z0 3,V z0 4]<|
 .ret):=bV Tryz.func231
def Bo: Of aK 232 54 [.tmp 6] (r [X 0 3,V z0 6]<|
 q (r [L 3 3 15,C 154 [t 15] 16,M 16 7]<|
 r [M 7 17,D .neq 17 0 18]<|
 c 18 (r [M 7 19,M 19 6]<|
 .ret) k)<|
 q (r [A 2 3 20,K 20 21,N 21 22,V z0 23]<|
 .block 0 (.loop (r [B .lss 23 22 24]<|
 q (c 24 k (.exit 0))<|
 q (.block 1 (r [I true 15 21 23 25,L 15 25 26,J [z0,z0,z0,z0,e0,e0,.au,z0,z0,z0,e0,e0,.au,.bool false,.bool false] 9,W 15 9 26]<|
 r [gT 10]<|
 q (r [L 15 9 27,C 266 [t 27] 28,N 28 29,V z0 30]<|
 .block 2 (.loop (r [B .lss 30 29 31]<|
 q (c 31 k (.exit 2))<|
 q (.block 3 (r [I true 6 28 30 32,L 6 32 33,J [z0,z0,z0,e0,e0,.au] 12,W 6 12 33]<|
 r [L 6 12 35,M 2 36,C 234 [t 35,t 36] 37,M 37 34,E 34 0 38,E 34 1 39,M 38 13,M 39 14]<|
 gR [M 14 40,D .neq 40 0 41] 41 [M 14 42,M 42 6]<|
 R [M 10 43,M 43 44,LT 15 9 45 44,MT 1 46 44,MT 13 47 44,CT 267 [t 45,t 46,t 47] 48 44,P 44 48 49,M 49 10]))<|
 R [D .add 30 1 50,M 50 30])))<|
 r [M 10 51,U 51 52]<|
 c 52 (r [V (i6 14) 6]<|
 .ret) k))<|
 R [D .add 23 1 53,M 53 23])))<|
 r [V z0 6]<|
 .ret):=bV Tryz.func232
def mW: Of aK 233 51 [.cell 2 true 6,.tmp 3,.tmp 4] (r [J [z0,z0,z0,e0,e0,.au] 2,V z0 3,V z0 4]<|
 r [M 0 11,C 222 [t 11] 12,M 12 10,E 10 0 13,E 10 1 14,E 10 2 15,M 13 5,M 14 6,M 15 7]<|
 gR [M 7 16,D .neq 16 0 17] 17 [gU [z0,z0,z0,e0,e0,.au] [] 18,M 6 19,M 7 20,W 6 2 18,M 19 3,M 20 4]<|
 r [M 5 22,C 268 [t 22,.c z0,.c z0] 23,M 23 21,E 21 0 24,E 21 1 25,E 21 2 26,J [z0,z0,z0,e0,e0,.au] 8,W 6 8 24,M 25 9,M 26 7]<|
 q (.block 0 (r [M 9 28,M 5 29,N 29 30,B .lss 28 30 31,M 31 27]<|
 c 27 (q (.draw [gU [z0,z0,z0,e0,e0,.au] [] 32,M 5 33,M 9 34,I true 4 33 34 35,A 3 35 36,K 36 37,W 6 2 32,M 37 3,V (i6 11) 4] [(t 36,t 2)])<|
 .ret) (r [M 7 39,D .neq 39 0 40,M 40 38]<|
 c 38 (r [gU [z0,z0,z0,e0,e0,.au] [] 41,M 0 42,S 42 43,M 7 44,W 6 2 41,M 43 3,M 44 4]<|
 .ret) (r [L 6 8 46,C 157 [t 46] 47,D .gtr 47 12 48,M 48 45]<|
 c 45 (r [gU [z0,z0,z0,e0,e0,.au] [] 49,W 6 2 49,V z0 3,V (i6 12) 4]<|
 .ret) k))))<|
 r [L 6 8 50,W 6 2 50,V z0 3,V z0 4]<|
 .ret):=bV Tryz.func233
def zm: Of aK 234 17 [.tmp 4,.tmp 5] (r [X 0 2,V z0 4,V z0 5]<|
 q (r [L 6 2 7,C 269 [t 7] 8,M 8 6]<|
 r [M 6 9,D .neq 9 0 10]<|
 c 10 (r [M 6 11,V z0 4,M 11 5]<|
 .ret) k)<|
 r [L 6 2 12,M 1 13,C 270 [t 12,t 13] 14,E 14 0 15,E 14 1 16,M 15 4,M 16 5]<|
 .ret):=bV Tryz.func234
def Jp: Of aK 235 16 [.tmp 4] (r [gF 4]<|
 r [M 0 5,M 1 6,B .eql 5 6 7,M 7 8,MF 0 9 8,DF .eql 9 0 10 8,O 8 10 11,M 11 12,MF 1 13 12,DF .eql 13 0 14 12,O 12 14 15,M 15 4]<|
 .ret):=bV Tryz.func235
def xe: Of aK 236 19 [.tmp 4] (r [V z0 4]<|
 q (r [M 0 6,N 6 7,V z0 8]<|
 .block 0 (.loop (r [B .lss 8 7 9]<|
 q (c 9 k (.exit 0))<|
 q (.block 1 (r [M 8 10,M 10 5]<|
 r [M 1 11,M 0 12,M 5 13,I true 15 12 13 14,L 15 14 15,bw (.call false (t 11) [t 15]) 16]<|
 c 16 (r [M 5 17,M 17 4]<|
 .ret) k))<|
 R [D .add 8 1 18,M 18 8])))<|
 r [V (i6 (-1)) 4]<|
 .ret):=bV Tryz.func236
def Nw: Of aK 237 11 [.tmp 2] (r [X 0 1,gF 2]<|
 r [L 6 1 3,C 269 [t 3] 4,D .eql 4 0 5,M 5 6,LT 6 1 7 6,CT 157 [t 7] 8 6,DT .leq 8 12 9 6,P 6 9 10,M 10 2]<|
 .ret):=bV Tryz.func237
def Jq: Of aK 238 31 [.tmp 4] (r [X 0 2,X 1 3,gF 4]<|
 r [A 0 2 5,K 5 6,A 0 3 7,K 7 8,B .eql 6 8 9,M 9 10,AT 1 2 11 10,LT 3 11 12 10,AT 1 3 13 10,LT 3 13 14 10,⟨.r_ false true [.i,.i,.s] (t 12) (t 14),(some 15),some (10,true)⟩,P 10 15 16,M 16 17,AT 4 2 18 17,KT 18 19 17,AT 4 3 20 17,KT 20 21 17,BT .eql 19 21 22 17,P 17 22 23,M 23 24,AT 5 2 25 24,KT 25 26 24,AT 5 3 27 24,KT 27 28 24,CT 271 [t 26,t 28,(.c (.fn (.func 238) [] []))] 29 24,P 24 29 30,M 30 4]<|
 .ret):=bV Tryz.func238
def SR: Of aK 239 8 [.cell 2 true 2] (r [X 0 1,J [.bool false,.bool false] 2]<|
 r [A 13 1 3,K 3 4,A 14 1 5,K 5 6,gU [.bool false,.bool false] [(0,1,t 4),(1,1,t 6)] 7,W 2 2 7]<|
 .ret):=bV Tryz.func239
def xg: Of aK 240 19 [.tmp 4] (r [V z0 4]<|
 q (r [M 0 6,N 6 7,V z0 8]<|
 .block 0 (.loop (r [B .lss 8 7 9]<|
 q (c 9 k (.exit 0))<|
 q (.block 1 (r [M 8 10,M 10 5]<|
 r [M 1 11,M 0 12,M 5 13,I true 6 12 13 14,L 6 14 15,bw (.call false (t 11) [t 15]) 16]<|
 c 16 (r [M 5 17,M 17 4]<|
 .ret) k))<|
 R [D .add 8 1 18,M 18 8])))<|
 r [V (i6 (-1)) 4]<|
 .ret):=bV Tryz.func240
def Cw: Of aK 241 14 [.tmp 0] (r [V .au 0]<|
 r [gU [z0,e0,z0] [(0,1,gJ 4),(1,1,gS [43]),(2,1,gJ 4)] 1,gU [z0,e0,z0] [(0,1,gJ 5),(1,1,gS [45]),(2,1,gJ 4)] 2,gU [z0,e0,z0] [(0,1,gJ 6),(1,1,gS [42]),(2,1,gJ 5)] 3,gU [z0,e0,z0] [(0,1,gJ 7),(1,1,gS [47]),(2,1,gJ 5)] 4,gU [z0,e0,z0] [(0,1,gJ 8),(1,1,gS [61]),(2,1,gJ 3)] 5,gU [z0,e0,z0] [(0,1,gJ 9),(1,1,gS [33,61]),(2,1,gJ 3)] 6,gU [z0,e0,z0] [(0,1,gJ 10),(1,1,gS [60]),(2,1,gJ 3)] 7,gU [z0,e0,z0] [(0,1,gJ 11),(1,1,gS [60,61]),(2,1,gJ 3)] 8,gU [z0,e0,z0] [(0,1,gJ 12),(1,1,gS [62]),(2,1,gJ 3)] 9,gU [z0,e0,z0] [(0,1,gJ 13),(1,1,gS [62,61]),(2,1,gJ 3)] 10,gU [z0,e0,z0] [(0,1,gJ 14),(1,1,gS [97,110,100]),(2,1,gJ 2)] 11,gU [z0,e0,z0] [(0,1,gJ 15),(1,1,gS [111,114]),(2,1,gJ 1)] 12,gB true 3 (.agg [z0,e0,z0]) 12 [(0,t 1),(1,t 2),(2,t 3),(3,t 4),(4,t 5),(5,t 6),(6,t 7),(7,t 8),(8,t 9),(9,t 10),(10,t 11),(11,t 12)] 13,M 13 0]<|
 .ret):=bV Tryz.func241
def vG: Of aK 244 16 [.tmp 4] (r [V .au 4]<|
 gR [M 1 5,bw (.nw .u32 (t 5)) 6,bw (.bin .leq (t 6) (.c (.int .u32 127))) 7] 7 [M 0 8,M 1 9,bw (.nw .u8 (t 9)) 10,gB false 1 (.int .u8 0) 1 [(0,t 10)] 11,bw (.app (some 5) ⟨false,1⟩ (t 8) (t 11)) 12,M 12 4]<|
 r [M 0 13,M 1 14,C 272 [t 13,t 14] 15,M 15 4]<|
 .ret):=pN ⟨[],[],[],[12],[],[]⟩ Tryz.func244
def zn: Of aK 246 64 [.tmp 4] (r [X 0 2,gF 4]<|
 gR [M 1 7,U 7 8] 8 [A 2 2 9,K 9 10,N 10 11,D .eql 11 0 12,M 12 4]<|
 q (r [V z0 5]<|
 gL 0 [M 5 13,A 2 2 14,K 14 15,N 15 16,B .lss 13 16 17] 17 ((
 q (.block 1 (q (q (.draw [A 2 2 20,K 20 21,M 5 22,I true 3 21 22 23,L 3 23 24,Q 97 [t 24] 25,U 25 26,M 26 27,AF 2 2 28 27,KF 28 29 27,MF 5 30 27,IF true 3 29 30 31 27,AF 0 31 32 27,KF 32 33 27,AF 1 2 34 27,KF 34 35 27,BF .neq 33 35 36 27,O 27 36 37] [])<|
 c 37 (r [gF 4]<|
 .ret) k)<|
 r [V z0 6]<|
 gL 2 [M 6 38,M 5 39,B .lss 38 39 40] 40 ((
 q (.block 3 (q (.draw [A 2 2 43,K 43 44,M 6 45,I true 3 44 45 46,L 3 46 47,A 2 2 48,K 48 49,M 5 50,I true 3 49 50 51,L 3 51 52,bw (.r_ false true [.i,.i,.s] (t 47) (t 52)) 53] [])<|
 c 53 (r [gF 4]<|
 .ret) k))<|
 R [M 6 41,D .add 41 1 42,M 42 6]))))<|
 R [M 5 18,D .add 18 1 19,M 19 5])))<|
 r [A 2 2 54,K 54 55,N 55 56,D .geq 56 1 57,M 57 58,AT 2 2 59 58,KT 59 60 58,NT 60 61 58,DT .leq 61 8 62 58,P 58 62 63,M 63 4]<|
 .ret):=bV Tryz.func246
def rF: Of aK 253 61 [.tmp 4,.tmp 5] (r [X 0 2,V z0 4,V z0 5]<|
 q (r [A 0 2 11,K 11 12]<|
 .block 0 (r [D .eql 12 1 14,M 14 13]<|
 c 13 (r [A 1 2 15,A 0 15 16,K 16 17,M 17 4,V z0 5]<|
 .ret) (r [D .eql 12 2 19,M 19 18]<|
 c 18 (r [M 1 20,A 4 2 21,K 21 22,C 273 [t 20,t 22] 23,M 23 6]<|
 gR [M 6 24,D .lss 24 0 25] 25 [V z0 4,V (i6 13) 5]<|
 r [M 1 26,M 6 27,I true 3 26 27 28,A 1 28 29,K 29 30,M 30 4,V z0 5]<|
 .ret) k)))<|
 r [bw (.lp ⟨false,1⟩) 7]<|
 q (r [V z0 8]<|
 gL 1 [M 8 31,A 5 2 32,K 32 33,N 33 34,B .lss 31 34 35] 35 ((
 q (.block 2 (r [A 5 2 39,K 39 40,M 8 41,I true 6 40 41 42,L 6 42 43,M 1 44,C 253 [t 43,t 44] 45,M 45 38,E 38 0 46,E 38 1 47,M 46 9,M 47 10]<|
 gR [M 10 48,D .neq 48 0 49] 49 [M 10 50,V z0 4,M 50 5]<|
 R [M 7 51,M 9 52,gB false 1 z0 1 [(0,t 52)] 53,gA false 1 51 53 54,M 54 7]))<|
 R [M 8 36,D .add 36 1 37,M 37 8])))<|
 r [A 0 2 55,K 55 56,M 7 57,C 277 [t 56,t 57] 58,E 58 0 59,E 58 1 60,M 59 4,M 60 5]<|
 .ret):=pN ⟨[],[],[(7,⟨false,1⟩)],[],[],[]⟩ Tryz.func253
def PG: Of aK 256 32 [.cell 2 true 5,.tmp 3] (r [J [z0,e0,z0,z0,z0] 2,V z0 3]<|
 q (r [M 0 5,bw (.j_ (t 5) (.c z0)) 6,M 6 4]<|
 .block 0 (r [M 4 8,C 124 [t 8] 9,M 9 7]<|
 c 7 (r [M 0 10,C 278 [t 10] 11,E 11 0 12,E 11 1 13,W 5 2 12,M 13 3]<|
 .ret) (r [M 4 15,C 127 [t 15] 16,M 16 14]<|
 c 14 (r [M 0 17,C 279 [t 17] 18,E 18 0 19,E 18 1 20,W 5 2 19,M 20 3]<|
 .ret) (r [M 4 22,bw (.bin .eql (t 22) (.c (.int .u8 34))) 23,M 23 21]<|
 c 21 (r [M 0 24,C 280 [t 24] 25,E 25 0 26,E 25 1 27,W 5 2 26,M 27 3]<|
 .ret) k))))<|
 r [M 0 28,C 281 [t 28] 29,E 29 0 30,E 29 1 31,W 5 2 30,M 31 3]<|
 .ret):=bV Tryz.func256
def Nx: Of aK 261 8 [.tmp 4] (r [X 1 3,V z0 4]<|
 r [M 0 5,bw (.wS (.func 287) [] [t 3]) 6,C 262 [t 5,t 6] 7,M 7 4]<|
 .ret):=bV Tryz.func261
def vH: Of aK 262 19 [.tmp 4] (r [V z0 4]<|
 q (r [M 0 6,N 6 7,V z0 8]<|
 .block 0 (.loop (r [B .lss 8 7 9]<|
 q (c 9 k (.exit 0))<|
 q (.block 1 (r [M 8 10,M 10 5]<|
 r [M 1 11,M 0 12,M 5 13,I true 3 12 13 14,L 3 14 15,bw (.call false (t 11) [t 15]) 16]<|
 c 16 (r [M 5 17,M 17 4]<|
 .ret) k))<|
 R [D .add 8 1 18,M 18 8])))<|
 r [V (i6 (-1)) 4]<|
 .ret):=bV Tryz.func262
def zo: Of aK 263 19 [.tmp 4] (r [X 1 3,V z0 4]<|
 q (r [M 0 6,N 6 7,V z0 8]<|
 .block 0 (.loop (r [B .lss 8 7 9]<|
 q (c 9 k (.exit 0))<|
 q (.block 1 (r [M 8 10,M 10 5]<|
 q (.draw [L 3 3 11,M 0 12,M 5 13,I true 3 12 13 14,L 3 14 15,bw (.r_ false true [.i,.i,.s] (t 11) (t 15)) 16] [])<|
 c 16 (r [M 5 17,M 17 4]<|
 .ret) k))<|
 R [D .add 8 1 18,M 18 8])))<|
 r [V (i6 (-1)) 4]<|
 .ret):=bV Tryz.func263
def tU: Of aK 264 38 [.tmp 2] (r [V e0 2]<|
 q (q (.draw [M 0 3,Z 3 4,A 1 4 5,K 5 6,M 0 7,Z 7 8,A 0 8 9,K 9 10,N 10 11,B .lss 6 11 12,M 12 13,MT 0 14 13,ZT 14 15 13,AT 0 15 16 13,KT 16 17 13,MT 0 18 13,ZT 18 19 13,AT 1 19 20 13,KT 20 21 13,IT true 4 17 21 22 13,AT 0 22 23 13,KT 23 24 13,DT .eql 24 4 25 13,P 13 25 26] [])<|
 c 26 (q (.draw [M 0 27,Z 27 28,A 0 28 29,K 29 30,M 0 31,Z 31 32,A 1 32 33,K 33 34,I true 4 30 34 35,A 1 35 36,K 36 37,M 37 2] [])<|
 .ret) k)<|
 r [V e0 2]<|
 .ret):=bV Tryz.func264
def BM: Of aK 265 32 [.cell 2 true 3] (r [J [.bool false,.bool false,.au] 2]<|
 r [J [.bool false,.bool false,.au] 3]<|
 q (r [M 0 4,Z 4 5,A 0 5 6,A 0 6 7,K 7 8,C 288 [t 8] 9,A 1 3 10,W 1 10 9]<|
 r [A 1 3 11,K 11 12]<|
 c 12 (R [M 0 13,Z 13 14,A 0 14 15,A 1 15 16,⟨.store 1 (t 16) (gJ 2),none,none⟩]) k)<|
 q (.block 0 (.loop (.block 1 (q (.draw [A 2 3 17,K 17 18,M 0 19,bw (.rL (.c (.fn (.func 289) [] [])) [t 19]) 20,gB true 15 (.agg [z0,z0,z0,z0,e0,e0,.au,z0,z0,z0,e0,e0,.au,.bool false,.bool false]) 1 [(0,t 20)] 21,gA true 15 18 21 22,A 2 3 23,W 1 23 22] [(t 17,t 19)])<|
 r [M 0 24,C 290 [t 24,gS [44]] 25,U 25 26]<|
 c 26 (.exit 0) k))))<|
 q (r [A 1 3 27,K 27 28]<|
 c 28 (R [M 0 29,C 291 [t 29,gS [41]] 30]) k)<|
 r [L 3 3 31,W 3 2 31]<|
 .ret):=pN ⟨[],[],[],[],[20],[]⟩ Tryz.func265
def Bp: Of aK 266 14 [.tmp 2] (r [X 0 1,V .au 2]<|
 gR [A 0 1 3,K 3 4,D .eql 4 6 5] 5 [A 1 1 6,L 6 6 7,A 7 1 8,L 6 8 9,gB true 6 (.agg [z0,z0,z0,e0,e0,.au]) 2 [(0,t 7),(1,t 9)] 10,M 10 2]<|
 r [A 1 1 11,L 6 11 12,gB true 6 (.agg [z0,z0,z0,e0,e0,.au]) 1 [(0,t 12)] 13,M 13 2]<|
 .ret):=bV Tryz.func266
def Ny: Of aK 267 23 [.tmp 6] (r [X 0 3,gF 6]<|
 r [M 1 7,M 2 8,C 235 [t 7,t 8] 9,M 9 10,AT 0 3 11 10,KT 11 12 10,DT .eql 12 1 13 10,MT 13 14 10,MF 1 15 14,DF .neq 15 3 16 14,MF 16 17 14,MT 2 18 17,DT .neq 18 3 19 17,PF 17 19 20 14,OT 14 20 21 10,P 10 21 22,M 22 6]<|
 .ret):=bV Tryz.func267
def uu: Of aK 268 49 [.cell 6 true 6,.tmp 7,.tmp 8] (r [J [z0,z0,z0,e0,e0,.au] 6,V z0 7,V z0 8]<|
 gR [M 1 11,D .lss 11 0 12,M 12 13,MF 1 14 13,MF 0 15 13,NF 15 16 13,BF .gtr 14 16 17 13,O 13 17 18,M 18 19,MF 2 20 19,DF .lss 20 0 21 19,O 19 21 22,M 22 23,MF 2 24 23,DF .gtr 24 7 25 23,O 23 25 26] 26 [gU [z0,z0,z0,e0,e0,.au] [] 27,W 6 6 27,V z0 7,V (i6 2) 8]<|
 r [M 0 28,M 1 29,gU [.au,z0,.bool false] [(0,1,t 28),(1,1,t 29)] 30,X 30 31,M 31 9]<|
 r [M 9 32,M 2 33,C 292 [t 32,t 33] 34,J [z0,z0,z0,e0,e0,.au] 10,W 6 10 34]<|
 q (r [M 9 35,Z 35 36,A 2 36 37,K 37 38]<|
 c 38 (q (.draw [gU [z0,z0,z0,e0,e0,.au] [] 39,M 9 40,Z 40 41,A 1 41 42,K 42 43,W 6 6 39,M 43 7,V (i6 11) 8] [(t 42,t 6)])<|
 .ret) k)<|
 q (.draw [L 6 10 44,M 9 45,Z 45 46,A 1 46 47,K 47 48,W 6 6 44,M 48 7,V z0 8] [(t 47,t 6)])<|
 .ret):=bV Tryz.func268
def Hi: Of aK 269 6 [.tmp 2] (r [X 0 1,V z0 2]<|
 gR [L 6 1 3,C 156 [t 3] 4,U 4 5] 5 [V (i6 2) 2]<|
 r [V z0 2]<|
 .ret):=bV Tryz.func269
def qp: Of aK 270 65 [.tmp 4,.tmp 5] (r [X 0 2,V z0 4,V z0 5]<|
 q (r [A 0 2 14,K 14 15]<|
 .block 0 (r [D .eql 15 1 17,M 17 16]<|
 c 16 (r [A 1 2 18,A 0 18 19,K 19 20,M 20 4,V z0 5]<|
 .ret) (r [D .eql 15 2 22,M 22 21]<|
 c 21 (r [M 1 23,A 4 2 24,K 24 25,C 261 [t 23,t 25] 26,M 26 6]<|
 gR [M 6 27,D .lss 27 0 28] 28 [V z0 4,V (i6 13) 5]<|
 r [M 1 29,M 6 30,I true 3 29 30 31,A 1 31 32,K 32 33,M 33 4,V z0 5]<|
 .ret) k)))<|
 r [bw (.lp ⟨false,1⟩) 7]<|
 q (r [A 5 2 34,K 34 35,N 35 36,V z0 37]<|
 .block 1 (.loop (r [B .lss 37 36 38]<|
 q (c 38 k (.exit 1))<|
 q (.block 2 (r [I true 6 35 37 39,L 6 39 40,J [z0,z0,z0,e0,e0,.au] 9,W 6 9 40]<|
 r [L 6 9 42,M 1 43,C 270 [t 42,t 43] 44,M 44 41,E 41 0 45,E 41 1 46,M 45 10,M 46 11]<|
 gR [M 11 47,D .neq 47 0 48] 48 [M 11 49,V z0 4,M 49 5]<|
 R [M 7 50,M 10 51,gB false 1 z0 1 [(0,t 51)] 52,gA false 1 50 52 53,M 53 7]))<|
 R [D .add 37 1 54,M 54 37])))<|
 r [A 0 2 56,K 56 57,M 7 58,C 293 [t 57,t 58] 59,M 59 55,E 55 0 60,E 55 1 61,M 60 12,M 61 13]<|
 gR [M 13 62,U 62 63] 63 [V z0 4,V (i6 14) 5]<|
 r [M 12 64,M 64 4,V z0 5]<|
 .ret):=pN ⟨[],[],[(7,⟨false,1⟩)],[],[],[]⟩ Tryz.func270
def xh: Of aK 271 32 [.tmp 6] (r [gF 6]<|
 gR [M 0 10,N 10 11,M 1 12,N 12 13,B .neq 11 13 14] 14 [gF 6]<|
 q (r [M 0 15,N 15 16,V z0 17]<|
 .block 0 (.loop (r [B .lss 17 16 18]<|
 q (c 18 k (.exit 0))<|
 q (.block 1 (r [M 17 19,I true 6 15 17 20,L 6 20 21,J [z0,z0,z0,e0,e0,.au] 8,M 19 7,W 6 8 21]<|
 r [M 1 22,M 7 23,I true 6 22 23 24,L 6 24 25,J [z0,z0,z0,e0,e0,.au] 9,W 6 9 25]<|
 r [M 2 26,L 6 8 27,L 6 9 28,bw (.call false (t 26) [t 27,t 28]) 29,U 29 30]<|
 c 30 (r [gF 6]<|
 .ret) k))<|
 R [D .add 17 1 31,M 31 17])))<|
 r [gT 6]<|
 .ret):=bV Tryz.func271
def PJ: Of aK 273 20 [.tmp 4] (r [V z0 4]<|
 q (r [V z0 5]<|
 gL 0 [M 5 6,M 0 7,N 7 8,B .lss 6 8 9] 9 ((
 q (.block 1 (r [M 0 12,M 5 13,I true 3 12 13 14,A 0 14 15,K 15 16,M 1 17,B .eql 16 17 18]<|
 c 18 (r [M 5 19,M 19 4]<|
 .ret) k))<|
 R [M 5 10,D .add 10 1 11,M 11 5])))<|
 r [V (i6 (-1)) 4]<|
 .ret):=bV Tryz.func273
def yR: Of aK 277 123 [.tmp 4,.tmp 5] (r [V z0 4,V z0 5]<|
 r [gF 6]<|
 r [V (i6 3) 7]<|
 q (r [M 0 8]<|
 .block 0 (r [D .eql 8 3 10,M 10 9]<|
 c 9 (r [M 1 11,gI false 1 11 0 12,K 12 13,C 214 [t 13,gJ 1] 14,M 14 6]<|
 R [V (i6 1) 7]) (q (r [D .eql 8 5 16,M 16 15]<|
 c 15 k (r [D .eql 8 6 17,M 17 15]<|
 c 15 k (R [D .eql 8 7 18,M 18 15])))<|
 c 15 (r [M 1 19,gI false 1 19 0 20,K 20 21,C 214 [t 21,gJ 1] 22,M 22 23,MT 1 24 23,⟨.gG ⟨false,1⟩ none (t 24) (gJ 1),(some 25),some (23,true)⟩,KT 25 26 23,CT 214 [t 26,gJ 1] 27 23,P 23 27 28,M 28 6]<|
 R [V (i6 1) 7]) (r [D .eql 8 4 30,M 30 29]<|
 c 29 (r [V (i6 1) 7]<|
 q (q (.draw [M 1 31,gI false 1 31 0 32,K 32 33,M 1 34,gI false 1 34 1 35,K 35 36,Q 302 [t 33,t 36] 37,D .eql 37 2 38] [])<|
 c 38 (R [V (i6 2) 7]) k)<|
 R [M 1 39,gI false 1 39 0 40,K 40 41,M 7 42,C 214 [t 41,t 42] 43,M 43 44,MT 1 45 44,⟨.gG ⟨false,1⟩ none (t 45) (gJ 1),(some 46),some (44,true)⟩,KT 46 47 44,MT 7 48 44,CT 214 [t 47,t 48] 49 44,P 44 49 50,M 50 6]) (q (r [D .eql 8 8 52,M 52 51]<|
 c 51 k (R [D .eql 8 9 53,M 53 51]))<|
 c 51 (.draw [M 1 54,gI false 1 54 0 55,K 55 56,M 1 57,gI false 1 57 1 58,K 58 59,Q 214 [t 56,t 59] 60,M 60 6] []) (q (r [D .eql 8 10 62,M 62 61]<|
 c 61 k (r [D .eql 8 11 63,M 63 61]<|
 c 61 k (r [D .eql 8 12 64,M 64 61]<|
 c 61 k (R [D .eql 8 13 65,M 65 61]))))<|
 c 61 (.draw [M 1 66,gI false 1 66 0 67,K 67 68,M 1 69,gI false 1 69 1 70,K 70 71,Q 214 [t 68,t 71] 72,M 72 73,MT 1 74 73,⟨.gG ⟨false,1⟩ none (t 74) (.c z0),(some 75),some (73,true)⟩,KT 75 76 73,DT .neq 76 3 77 73,P 73 77 78,M 78 79,MT 1 80 79,⟨.gG ⟨false,1⟩ none (t 80) (gJ 1),(some 81),some (79,true)⟩,KT 81 82 79,DT .neq 82 3 83 79,P 79 83 84,M 84 6] []) (q (r [D .eql 8 14 86,M 86 85]<|
 c 85 k (R [D .eql 8 15 87,M 87 85]))<|
 c 85 (R [M 1 88,gI false 1 88 0 89,K 89 90,C 214 [t 90,gJ 3] 91,M 91 92,MT 1 93 92,⟨.gG ⟨false,1⟩ none (t 93) (gJ 1),(some 94),some (92,true)⟩,KT 94 95 92,CT 214 [t 95,gJ 3] 96 92,P 92 96 97,M 97 6]) (r [D .eql 8 16 99,M 99 98]<|
 c 98 (q (.draw [M 1 100,gI false 1 100 0 101,K 101 102,Q 214 [t 102,gJ 3] 103,M 103 104,MT 1 105 104,⟨.gG ⟨false,1⟩ none (t 105) (gJ 1),(some 106),some (104,true)⟩,KT 106 107 104,MT 1 108 104,⟨.gG ⟨false,1⟩ none (t 108) (gJ 2),(some 109),some (104,true)⟩,KT 109 110 104,QT 214 [t 107,t 110] 111 104,P 104 111 112,M 112 6] [])<|
 .draw [M 1 113,gI false 1 113 1 114,K 114 115,M 1 116,gI false 1 116 2 117,K 117 118,Q 302 [t 115,t 118] 119,M 119 7] []) (R [gF 6])))))))))<|
 gR [M 6 120,U 120 121] 121 [V z0 4,V (i6 14) 5]<|
 r [M 7 122,M 122 4,V z0 5]<|
 .ret):=bV Tryz.func277
def PK: Of aK 278 16 [.cell 2 true 5,.tmp 3] (r [J [z0,e0,z0,z0,z0] 2,V z0 3]<|
 r [M 0 5,C 81 [t 5] 6,M 6 4]<|
 gR [M 4 7,D .gtr 7 16 8] 8 [gU [z0,e0,z0,z0,z0] [] 9,W 5 2 9,V (i6 5) 3]<|
 r [M 0 10,M 4 11,bw (.pH (t 10) none (some (t 11))) 12,gU [z0,e0,z0,z0] [(0,1,gJ 1),(1,1,t 12)] 13,M 4 14,gU [z0,e0,z0,z0,z0] [(0,4,t 13),(4,1,t 14)] 15,W 5 2 15,V z0 3]<|
 .ret):=bV Tryz.func278
def Mr: Of aK 279 42 [.cell 2 true 5,.tmp 3] (r [J [z0,e0,z0,z0,z0] 2,V z0 3]<|
 r [M 0 8,C 125 [t 8,(.c (.fn (.func 127) [] []))] 9,M 9 4]<|
 gR [M 4 10,D .gtr 10 1 11,M 11 12,MT 0 13 12,⟨.j_ (t 13) (.c z0),(some 14),some (12,true)⟩,⟨.bin .eql (t 14) (.c (.int .u8 48)),(some 15),some (12,true)⟩,P 12 15 16] 16 [gU [z0,e0,z0,z0,z0] [] 17,W 5 2 17,V (i6 11) 3]<|
 r [V z0 5]<|
 q (r [M 4 18,V z0 19]<|
 .block 0 (.loop (r [B .lss 19 18 20]<|
 q (c 20 k (.exit 0))<|
 q (.block 1 (r [M 19 21,M 21 6]<|
 r [M 0 22,M 6 23,bw (.j_ (t 22) (t 23)) 24,bw (.bin .sub (t 24) (.c (.int .u8 48))) 25,bw (.nw .i64 (t 25)) 26,M 26 7]<|
 gR [M 5 27,M 7 28,bw (.bin .sub (gJ 9223372036854775807) (t 28)) 29,D .quo 29 10 30,B .gtr 27 30 31] 31 [gU [z0,e0,z0,z0,z0] [] 32,W 5 2 32,V (i6 15) 3]<|
 R [M 5 33,D .mul 33 10 34,M 7 35,B .add 34 35 36,M 36 5]))<|
 R [D .add 19 1 37,M 37 19])))<|
 r [M 5 38,gU [z0,e0,z0,z0] [(0,1,gJ 2),(2,1,t 38)] 39,M 4 40,gU [z0,e0,z0,z0,z0] [(0,4,t 39),(4,1,t 40)] 41,W 5 2 41,V z0 3]<|
 .ret):=bV Tryz.func279
def PL: Of aK 280 71 [.cell 2 true 5,.tmp 3] (r [J [z0,e0,z0,z0,z0] 2,V z0 3]<|
 r [bw (.lp ⟨false,1⟩) 4]<|
 q (r [V (i6 1) 5]<|
 gL 0 [M 5 7,M 0 8,S 8 9,B .lss 7 9 10] 10 ((
 q (.block 1 (r [M 0 13,M 5 14,bw (.j_ (t 13) (t 14)) 15,M 15 6]<|
 q (.block 2 (r [M 6 17,bw (.bin .eql (t 17) (.c (.int .u8 34))) 18,M 18 19,MT 4 20 19,NT 20 21 19,DT .gtr 21 40 22 19,P 19 22 23,M 23 16]<|
 c 16 (r [gU [z0,e0,z0,z0,z0] [] 24,W 5 2 24,V (i6 5) 3]<|
 .ret) (r [M 6 26,bw (.bin .eql (t 26) (.c (.int .u8 34))) 27,M 27 25]<|
 c 25 (r [M 4 28,bw (.uZ (t 28)) 29,gU [z0,e0,z0,z0] [(0,1,gJ 3),(1,1,t 29)] 30,M 5 31,D .add 31 1 32,gU [z0,e0,z0,z0,z0] [(0,4,t 30),(4,1,t 32)] 33,W 5 2 33,V z0 3]<|
 .ret) (r [M 6 35,bw (.bin .eql (t 35) (.c (.int .u8 92))) 36,M 36 34]<|
 c 34 (r [M 5 37,D .add 37 1 38,M 38 5]<|
 r [M 5 39,M 0 40,S 40 41,B .eql 39 41 42,M 42 43,MF 0 44 43,MF 5 45 43,⟨.j_ (t 44) (t 45),(some 46),some (43,false)⟩,⟨.bin .neq (t 46) (.c (.int .u8 34)),(some 47),some (43,false)⟩,MF 47 48 43,MT 0 49 48,MT 5 50 48,⟨.j_ (t 49) (t 50),(some 51),some (48,true)⟩,⟨.bin .neq (t 51) (.c (.int .u8 92)),(some 52),some (48,true)⟩,PF 48 52 53 43,O 43 53 54]<|
 c 54 (r [gU [z0,e0,z0,z0,z0] [] 55,W 5 2 55,V (i6 11) 3]<|
 .ret) k) (r [M 6 57,bw (.bin .lss (t 57) (.c (.int .u8 32))) 58,M 58 59,MF 6 60 59,⟨.bin .gtr (t 60) (.c (.int .u8 126)),(some 61),some (59,false)⟩,O 59 61 62,M 62 56]<|
 c 56 (r [gU [z0,e0,z0,z0,z0] [] 63,W 5 2 63,V (i6 11) 3]<|
 .ret) k)))))<|
 R [M 4 64,M 0 65,M 5 66,bw (.j_ (t 65) (t 66)) 67,gB false 1 (.int .u8 0) 1 [(0,t 67)] 68,gA false 1 64 68 69,M 69 4]))<|
 R [M 5 11,D .add 11 1 12,M 12 5])))<|
 r [gU [z0,e0,z0,z0,z0] [] 70,W 5 2 70,V (i6 11) 3]<|
 .ret):=pN ⟨[],[],[(4,⟨false,1⟩)],[],[],[]⟩ Tryz.func280
def ED: Of aK 281 24 [.cell 2 true 5,.tmp 3] (r [X 0 1,J [z0,e0,z0,z0,z0] 2,V z0 3]<|
 r [C 303 [] 6,M 6 4]<|
 r [M 4 7,bw (.wS (.func 305) [] [t 1]) 8,C 304 [t 7,t 8] 9,M 9 5]<|
 gR [M 5 10,D .lss 10 0 11] 11 [gU [z0,e0,z0,z0,z0] [] 12,W 5 2 12,V (i6 11) 3]<|
 q (.draw [M 4 13,M 5 14,I false 1 13 14 15,K 15 16,gU [z0,e0,z0,z0] [(0,1,gJ 4),(1,1,t 16)] 17,M 4 18,M 5 19,I false 1 18 19 20,K 20 21,S 21 22,gU [z0,e0,z0,z0,z0] [(0,4,t 17),(4,1,t 22)] 23,W 5 2 23,V z0 3] [])<|
 .ret):=bV Tryz.func281
def Jr: Of aK 287 8 [.tmp 3] (r [X 0 2,gF 3]<|
 r [A 0 2 4,K 4 5,K 1 6,B .eql 5 6 7,M 7 3]<|
 .ret):=bV Tryz.func287
def PN: Of aK 288 34 [.tmp 2] (r [gF 2]<|
 r [M 0 3,N 3 4,D .gtr 4 1 5,M 5 6,MT 0 7 6,⟨.gG ⟨true,4⟩ none (t 7) (.c z0),(some 8),some (6,true)⟩,AT 0 8 9 6,KT 9 10 6,DT .eql 10 1 11 6,P 6 11 12,M 12 13,MT 0 14 13,⟨.gG ⟨true,4⟩ none (t 14) (.c z0),(some 15),some (13,true)⟩,AT 1 15 16 13,KT 16 17 13,⟨.bin .eql (t 17) (gS [110,111,116]),(some 18),some (13,true)⟩,P 13 18 19,M 19 20,MT 0 21 20,⟨.gG ⟨true,4⟩ none (t 21) (gJ 1),(some 22),some (20,true)⟩,AT 0 22 23 20,KT 23 24 20,DT .eql 24 4 25 20,P 20 25 26,M 26 27,MT 0 28 27,⟨.gG ⟨true,4⟩ none (t 28) (gJ 1),(some 29),some (27,true)⟩,AT 1 29 30 27,KT 30 31 27,⟨.bin .eql (t 31) (gS [40]),(some 32),some (27,true)⟩,P 27 32 33,M 33 2]<|
 .ret):=bV Tryz.func288
def BN: Of aK 289 51 [.cell 2 true 15] (r [J [z0,z0,z0,z0,e0,e0,.au,z0,z0,z0,e0,e0,.au,.bool false,.bool false] 2]<|
 q (r [V (i6 2) 3]<|
 gL 0 [M 3 5,D .leq 5 5 6] 6 ((
 q (.block 1 (r [M 0 9,M 3 10,C 194 [t 10] 11,C 290 [t 9,t 11] 12]<|
 c 12 (r [M 3 13,M 0 14,C 309 [t 14] 15,gU [z0,z0,z0,z0,e0,e0,.au,z0,z0,z0,e0,e0,.au,.bool false,.bool false] [(0,1,t 13),(1,6,t 15)] 16,W 15 2 16]<|
 .ret) k))<|
 R [M 3 7,D .add 7 1 8,M 8 3])))<|
 r [M 0 17,Z 17 18,A 0 18 19,C 264 [t 19] 20,bw (.bin .eql (t 20) (gS [93])) 21,gU [z0,z0,z0,z0,e0,e0,.au,z0,z0,z0,e0,e0,.au,.bool false,.bool false] [(0,1,gJ 6),(13,1,t 21)] 22,J [z0,z0,z0,z0,e0,e0,.au,z0,z0,z0,e0,e0,.au,.bool false,.bool false] 4,W 15 4 22]<|
 gR [M 0 23,C 290 [t 23,gS [91]] 24,U 24 25,M 25 26,MT 0 27 26,CT 290 [t 27,gS [93]] 28 26,UT 28 29 26,P 26 29 30] 30 [M 0 31,C 309 [t 31] 32,gU [z0,z0,z0,z0,e0,e0,.au,z0,z0,z0,e0,e0,.au,.bool false,.bool false] [(0,1,gJ 1),(1,6,t 32)] 33,W 15 2 33]<|
 r [M 0 34,C 309 [t 34] 35,A 1 4 36,W 6 36 35]<|
 r [M 0 37,C 291 [t 37,gS [46,46]] 38]<|
 r [M 0 39,C 309 [t 39] 40,A 7 4 41,W 6 41 40]<|
 q (r [M 0 42,C 290 [t 42,gS [91]] 43,A 14 4 44,W 1 44 43]<|
 r [A 14 4 45,K 45 46,U 46 47]<|
 c 47 (R [M 0 48,C 291 [t 48,gS [93]] 49]) k)<|
 r [L 15 4 50,W 15 2 50]<|
 .ret):=bV Tryz.func289
def Eo: Of aK 290 26 [.tmp 4] (r [gF 4]<|
 gR [M 0 5,Z 5 6,A 2 6 7,K 7 8,M 8 9,MF 0 10 9,ZF 10 11 9,AF 0 11 12 9,CF 264 [t 12] 13 9,MF 1 14 9,BF .neq 13 14 15 9,O 9 15 16] 16 [gF 4]<|
 r [M 0 17,Z 17 18,A 0 18 19,A 1 19 20,K 20 21,D .add 21 1 22,Z 17 23,A 0 23 24,A 1 24 25,W 1 25 22]<|
 r [gT 4]<|
 .ret):=bV Tryz.func290
def BO: Of aK 291 11 [] (r [M 0 4,M 1 5,C 290 [t 4,t 5] 6,U 6 7]<|
 c 7 (R [M 0 8,Z 8 9,A 2 9 10,⟨.store 1 (t 10) (.c (.bool true)),none,none⟩]) k):=bV Tryz.func291
def fF: Of aK 292 71 [.cell 4 true 6] (r [J [z0,z0,z0,e0,e0,.au] 4]<|
 .scope 0 (q (.block 0 (r [M 0 8,Z 8 9,A 2 9 10,K 10 11,M 11 7]<|
 c 7 (r [gU [z0,z0,z0,e0,e0,.au] [] 12,W 6 4 12]<|
 .ret) (r [M 1 14,D .eql 14 0 15,M 15 16,MT 0 17 16,CT 310 [t 17,gJ 1,gS [105,102]] 18 16,P 16 18 19,M 19 13]<|
 c 13 (r [M 0 20,C 311 [t 20] 21,W 6 4 21]<|
 .ret) (r [M 1 23,D .eql 23 0 24,M 24 22]<|
 c 22 (r [M 0 25,C 292 [t 25,gJ 1] 26,W 6 4 26]<|
 .ret) (r [M 1 28,D .eql 28 6 29,M 29 30,MT 0 31 30,CT 310 [t 31,gJ 4,gS [45]] 32 30,P 30 32 33,M 33 27]<|
 c 27 (r [M 0 34,C 292 [t 34,gJ 6] 35,gB true 6 (.agg [z0,z0,z0,e0,e0,.au]) 1 [(0,t 35)] 36,gU [z0,z0,z0,e0,e0,.au] [(0,1,gJ 3),(5,1,t 36)] 37,W 6 4 37]<|
 .ret) (r [M 1 39,D .geq 39 6 40,M 40 38]<|
 c 38 (r [M 0 41,C 312 [t 41] 42,W 6 4 42]<|
 .ret) k))))))<|
 r [M 0 43,M 1 44,D .add 44 1 45,C 292 [t 43,t 45] 46,J [z0,z0,z0,e0,e0,.au] 5,W 6 5 46]<|
 q (.label 0)<|
 r [M 0 47,M 1 48,C 313 [t 47,t 48] 49,M 49 6]<|
 gR [M 6 50,D .eql 50 0 51] 51 [L 6 5 52,W 6 4 52]<|
 q (.draw [M 6 53,L 6 5 54,M 0 55,M 1 56,D .add 56 1 57,bw (.rL (.c (.fn (.func 292) [] [])) [t 55,t 57]) 58,gB true 6 (.agg [z0,z0,z0,e0,e0,.au]) 2 [(0,t 54),(1,t 58)] 59,gU [z0,z0,z0,e0,e0,.au] [(0,1,t 53),(5,1,t 59)] 60,W 6 5 60] [(t 5,t 55)])<|
 q (r [M 1 61,D .neq 61 3 62,M 62 63,MT 0 64 63,ZT 64 65 63,AT 2 65 66 63,KT 66 67 63,UT 67 68 63,P 63 68 69]<|
 c 69 (.goto 0) k)<|
 r [L 6 5 70,W 6 4 70]<|
 .ret) (.seq k <|
 r [M 0 47,M 1 48,C 313 [t 47,t 48] 49,M 49 6]<|
 gR [M 6 50,D .eql 50 0 51] 51 [L 6 5 52,W 6 4 52]<|
 q (.draw [M 6 53,L 6 5 54,M 0 55,M 1 56,D .add 56 1 57,bw (.rL (.c (.fn (.func 292) [] [])) [t 55,t 57]) 58,gB true 6 (.agg [z0,z0,z0,e0,e0,.au]) 2 [(0,t 54),(1,t 58)] 59,gU [z0,z0,z0,e0,e0,.au] [(0,1,t 53),(5,1,t 59)] 60,W 6 5 60] [(t 5,t 55)])<|
 q (r [M 1 61,D .neq 61 3 62,M 62 63,MT 0 64 63,ZT 64 65 63,AT 2 65 66 63,KT 66 67 63,UT 67 68 63,P 63 68 69]<|
 c 69 (.goto 0) k)<|
 r [L 6 5 70,W 6 4 70]<|
 .ret)):=pN ⟨[],[],[],[],[58],[]⟩ Tryz.func292
def uv: Of aK 293 82 [.tmp 4,.tmp 5] (r [V z0 4,gF 5]<|
 q (r [M 0 7]<|
 .block 0 (q (r [D .eql 7 3 9,M 9 8]<|
 c 8 k (r [D .eql 7 5 10,M 10 8]<|
 c 8 k (r [D .eql 7 6 11,M 11 8]<|
 c 8 k (R [D .eql 7 7 12,M 12 8]))))<|
 c 8 (r [M 1 13,C 314 [gJ 1,t 13] 14,V (i6 1) 4,M 14 5]<|
 .ret) (r [D .eql 7 4 16,M 16 15]<|
 c 15 (q (.draw [M 1 17,gI false 1 17 0 18,K 18 19,M 1 20,gI false 1 20 1 21,K 21 22,Q 315 [t 19,t 22] 23,M 23 6] [])<|
 q (r [M 6 24,D .neq 24 2 25]<|
 c 25 (R [V (i6 1) 6]) k)<|
 r [M 6 26,M 6 27,M 1 28,C 314 [t 27,t 28] 29,M 26 4,M 29 5]<|
 .ret) (q (r [D .eql 7 8 31,M 31 30]<|
 c 30 k (R [D .eql 7 9 32,M 32 30]))<|
 c 30 (q (.draw [M 1 33,gI false 1 33 0 34,K 34 35,M 1 36,gI false 1 36 1 37,K 37 38,Q 235 [t 35,t 38] 39,V (i6 3) 4,M 39 5] [])<|
 .ret) (q (r [D .eql 7 10 41,M 41 40]<|
 c 40 k (r [D .eql 7 11 42,M 42 40]<|
 c 40 k (r [D .eql 7 12 43,M 43 40]<|
 c 40 k (R [D .eql 7 13 44,M 44 40]))))<|
 c 40 (q (.draw [M 1 45,gI false 1 45 0 46,K 46 47,M 1 48,gI false 1 48 1 49,K 49 50,Q 235 [t 47,t 50] 51,M 51 52,MT 1 53 52,QT 316 [t 53,gJ 3] 54 52,UT 54 55 52,P 52 55 56,V (i6 3) 4,M 56 5] [])<|
 .ret) (q (r [D .eql 7 14 58,M 58 57]<|
 c 57 k (R [D .eql 7 15 59,M 59 57]))<|
 c 57 (r [M 1 60,C 314 [gJ 3,t 60] 61,V (i6 3) 4,M 61 5]<|
 .ret) k))))))<|
 q (.draw [M 1 62,gI false 1 62 1 63,K 63 64,M 1 65,gI false 1 65 2 66,K 66 67,Q 315 [t 64,t 67] 68,M 1 69,gI false 1 69 0 70,K 70 71,Q 235 [t 71,gJ 3] 72,M 72 73,MT 1 74 73,⟨.gG ⟨false,1⟩ none (t 74) (gJ 1),(some 75),some (73,true)⟩,KT 75 76 73,MT 1 77 73,⟨.gG ⟨false,1⟩ none (t 77) (gJ 2),(some 78),some (73,true)⟩,KT 78 79 73,QT 235 [t 76,t 79] 80 73,P 73 80 81,M 68 4,M 81 5] [])<|
 .ret):=bV Tryz.func293
