/- Part. -/
import Derived.Test.YtdohdkdejmhgnaaGreatDoorY06
import Derived.KernelRfl
set_option linter.all false
namespace Go.Proofs.YtdohdkdejmhgnaaGreatDoor
open Go.AM Go.AM.W
set_option maxRecDepth 10000
def CK: Of aM 396 14 [.tmp 2] (r [X 0 1,V .aP 2]<|
 gR [A 0 1 3,K 3 4,D .eql 4 6 5] 5 [A 1 1 6,L 6 6 7,A 7 1 8,L 6 8 9,gB true 6 (.agg jn) 2 [(0,t 7),(1,t 9)] 10,M 10 2]<|
 r [A 1 1 11,L 6 11 12,gB true 6 (.agg jn) 1 [(0,t 12)] 13,M 13 2]<|
 .ret):=cu
def OR: Of aM 397 23 [.tmp 6] (r [X 0 3,gF 6]<|
 r [M 1 7,M 2 8,C 349 [t 7,t 8] 9,M 9 10,AT 0 3 11 10,KT 11 12 10,DT .eql 12 1 13 10,MT 13 14 10,MF 1 15 14,DF .neq 15 3 16 14,MF 16 17 14,MT 2 18 17,DT .neq 18 3 19 17,PF 17 19 20 14,OT 14 20 21 10,P 10 21 22,M 22 6]<|
 .ret):=cu
def tG: Of aM 398 49 [.cell 6 true 6,.tmp 7,.tmp 8] (r [J jn 6,V z0 7,V z0 8]<|
 gR [M 1 11,D .lss 11 0 12,M 12 13,MF 1 14 13,MF 0 15 13,NF 15 16 13,BF .gtr 14 16 17 13,O 13 17 18,M 18 19,MF 2 20 19,DF .lss 20 0 21 19,O 19 21 22,M 22 23,MF 2 24 23,DF .gtr 24 7 25 23,O 23 25 26] 26 [gU jn [] 27,W 6 6 27,V z0 7,V (i6 2) 8]<|
 r [M 0 28,M 1 29,gU [.aP,z0,.bool false] [(0,1,t 28),(1,1,t 29)] 30,X 30 31,M 31 9]<|
 r [M 9 32,M 2 33,C 437 [t 32,t 33] 34,J jn 10,W 6 10 34]<|
 q (r [M 9 35,Z 35 36,A 2 36 37,K 37 38]<|
 c 38 (q (.draw [gU jn [] 39,M 9 40,Z 40 41,A 1 41 42,K 42 43,W 6 6 39,M 43 7,V (i6 11) 8] [(t 42,t 6)])<|
 .ret) k)<|
 q (.draw [L 6 10 44,M 9 45,Z 45 46,A 1 46 47,K 47 48,W 6 6 44,M 48 7,V z0 8] [(t 47,t 6)])<|
 .ret):=cu
def Jc: Of aM 399 6 [.tmp 2] (r [X 0 1,V z0 2]<|
 gR [L 6 1 3,C 185 [t 3] 4,U 4 5] 5 [V (i6 2) 2]<|
 r [V z0 2]<|
 .ret):=cu
def qg: Of aM 400 65 [.tmp 4,.tmp 5] (r [X 0 2,V z0 4,V z0 5]<|
 q (r [A 0 2 14,K 14 15]<|
 .block 0 (r [D .eql 15 1 17,M 17 16]<|
 c 16 (r [A 1 2 18,A 0 18 19,K 19 20,M 20 4,V z0 5]<|
 .ret) (r [D .eql 15 2 22,M 22 21]<|
 c 21 (r [M 1 23,A 4 2 24,K 24 25,C 390 [t 23,t 25] 26,M 26 6]<|
 gR [M 6 27,D .lss 27 0 28] 28 [V z0 4,V (i6 13) 5]<|
 r [M 1 29,M 6 30,I true 3 29 30 31,A 1 31 32,K 32 33,M 33 4,V z0 5]<|
 .ret) k)))<|
 r [cg (.nw ⟨false,1⟩) 7]<|
 q (r [A 5 2 34,K 34 35,N 35 36,V z0 37]<|
 .block 1 (.loop (r [B .lss 37 36 38]<|
 q (c 38 k (.exit 1))<|
 q (.block 2 (r [I true 6 35 37 39,L 6 39 40,J jn 9,W 6 9 40]<|
 r [L 6 9 42,M 1 43,C 400 [t 42,t 43] 44,M 44 41,E 41 0 45,E 41 1 46,M 45 10,M 46 11]<|
 gR [M 11 47,D .neq 47 0 48] 48 [M 11 49,V z0 4,M 49 5]<|
 R [M 7 50,M 10 51,gB false 1 z0 1 [(0,t 51)] 52,gA false 1 50 52 53,M 53 7]))<|
 R [D .add 37 1 54,M 54 37])))<|
 r [A 0 2 56,K 56 57,M 7 58,C 438 [t 57,t 58] 59,M 59 55,E 55 0 60,E 55 1 61,M 60 12,M 61 13]<|
 gR [M 13 62,U 62 63] 63 [V z0 4,V (i6 14) 5]<|
 r [M 12 64,M 64 4,V z0 5]<|
 .ret):=cu ⟨[],[],[(7,⟨false,1⟩)],[],[],[]⟩
def xo: Of aM 401 32 [.tmp 6] (r [gF 6]<|
 gR [M 0 10,N 10 11,M 1 12,N 12 13,B .neq 11 13 14] 14 [gF 6]<|
 q (r [M 0 15,N 15 16,V z0 17]<|
 .block 0 (.loop (r [B .lss 17 16 18]<|
 q (c 18 k (.exit 0))<|
 q (.block 1 (r [M 17 19,I true 6 15 17 20,L 6 20 21,J jn 8,M 19 7,W 6 8 21]<|
 r [M 1 22,M 7 23,I true 6 22 23 24,L 6 24 25,J jn 9,W 6 9 25]<|
 r [M 2 26,L 6 8 27,L 6 9 28,cg (.call false (t 26) [t 27,t 28]) 29,U 29 30]<|
 c 30 (r [gF 6]<|
 .ret) k))<|
 R [D .add 17 1 31,M 31 17])))<|
 r [gT 6]<|
 .ret):=cu
def tH: Of aM 403 30 [.tmp 4,.tmp 5] (r [V z0 4,V .eG 5]<|
 r [M 0 7,C 232 [t 7] 8]<|
 r [M 0 9,Z 9 10,A 1 10 11,K 11 12,N 12 13,M 13 6]<|
 r [M 0 14,M 0 15,Z 15 16,A 1 16 17,K 17 18,M 1 19,C 440 [t 18,t 19] 20,Z 14 21,A 1 21 22,W 1 22 20]<|
 r [M 0 23,Z 23 24,A 1 24 25,K 25 26,N 26 27,M 6 28,B .sub 27 28 29,M 29 4,V .eG 5]<|
 .ret):=cu
def KB: Of aM 431 8 [.tmp 3] (r [X 0 2,gF 3]<|
 r [A 0 2 4,K 4 5,K 1 6,B .eql 5 6 7,M 7 3]<|
 .ret):=cu
def Q8: Of aM 432 32 [.cell 2 true 5,.tmp 3] (r [J si 2,V z0 3]<|
 q (r [M 0 5,cg (.mb (t 5) (.c z0)) 6,M 6 4]<|
 .block 0 (r [M 4 8,C 171 [t 8] 9,M 9 7]<|
 c 7 (r [M 0 10,C 456 [t 10] 11,E 11 0 12,E 11 1 13,W 5 2 12,M 13 3]<|
 .ret) (r [M 4 15,C 174 [t 15] 16,M 16 14]<|
 c 14 (r [M 0 17,C 457 [t 17] 18,E 18 0 19,E 18 1 20,W 5 2 19,M 20 3]<|
 .ret) (r [M 4 22,cg (.bin .eql (t 22) (.c (.int .u8 34))) 23,M 23 21]<|
 c 21 (r [M 0 24,C 458 [t 24] 25,E 25 0 26,E 25 1 27,W 5 2 26,M 27 3]<|
 .ret) k))))<|
 r [M 0 28,C 459 [t 28] 29,E 29 0 30,E 29 1 31,W 5 2 30,M 31 3]<|
 .ret):=cu
def Q9: Of aM 433 34 [.tmp 2] (r [gF 2]<|
 r [M 0 3,N 3 4,D .gtr 4 1 5,M 5 6,MT 0 7 6,⟨.jh ⟨true,4⟩ none (t 7) (.c z0),(some 8),some (6,true)⟩,AT 0 8 9 6,KT 9 10 6,DT .eql 10 1 11 6,P 6 11 12,M 12 13,MT 0 14 13,⟨.jh ⟨true,4⟩ none (t 14) (.c z0),(some 15),some (13,true)⟩,AT 1 15 16 13,KT 16 17 13,⟨.bin .eql (t 17) (gS [110,111,116]),(some 18),some (13,true)⟩,P 13 18 19,M 19 20,MT 0 21 20,⟨.jh ⟨true,4⟩ none (t 21) (gJ 1),(some 22),some (20,true)⟩,AT 0 22 23 20,KT 23 24 20,DT .eql 24 4 25 20,P 20 25 26,M 26 27,MT 0 28 27,⟨.jh ⟨true,4⟩ none (t 28) (gJ 1),(some 29),some (27,true)⟩,AT 1 29 30 27,KT 30 31 27,⟨.bin .eql (t 31) (gS [40]),(some 32),some (27,true)⟩,P 27 32 33,M 33 2]<|
 .ret):=cu
def C4: Of aM 434 51 [.cell 2 true 15] (r [J Mb 2]<|
 q (r [V (i6 2) 3]<|
 gL 0 [M 3 5,D .leq 5 5 6] 6 ((
 q (.block 1 (r [M 0 9,M 3 10,C 272 [t 10] 11,C 435 [t 9,t 11] 12]<|
 c 12 (r [M 3 13,M 0 14,C 460 [t 14] 15,gU Mb [(0,1,t 13),(1,6,t 15)] 16,W 15 2 16]<|
 .ret) k))<|
 R [M 3 7,D .add 7 1 8,M 8 3])))<|
 r [M 0 17,Z 17 18,A 0 18 19,C 394 [t 19] 20,cg (.bin .eql (t 20) (gS [93])) 21,gU Mb [(0,1,gJ 6),(13,1,t 21)] 22,J Mb 4,W 15 4 22]<|
 gR [M 0 23,C 435 [t 23,gS [91]] 24,U 24 25,M 25 26,MT 0 27 26,CT 435 [t 27,gS [93]] 28 26,UT 28 29 26,P 26 29 30] 30 [M 0 31,C 460 [t 31] 32,gU Mb [(0,1,gJ 1),(1,6,t 32)] 33,W 15 2 33]<|
 r [M 0 34,C 460 [t 34] 35,A 1 4 36,W 6 36 35]<|
 r [M 0 37,C 436 [t 37,gS [46,46]] 38]<|
 r [M 0 39,C 460 [t 39] 40,A 7 4 41,W 6 41 40]<|
 q (r [M 0 42,C 435 [t 42,gS [91]] 43,A 14 4 44,W 1 44 43]<|
 r [A 14 4 45,K 45 46,U 46 47]<|
 c 47 (R [M 0 48,C 436 [t 48,gS [93]] 49]) k)<|
 r [L 15 4 50,W 15 2 50]<|
 .ret):=cu
def Gf: Of aM 435 26 [.tmp 4] (r [gF 4]<|
 gR [M 0 5,Z 5 6,A 2 6 7,K 7 8,M 8 9,MF 0 10 9,ZF 10 11 9,AF 0 11 12 9,CF 394 [t 12] 13 9,MF 1 14 9,BF .neq 13 14 15 9,O 9 15 16] 16 [gF 4]<|
 r [M 0 17,Z 17 18,A 0 18 19,A 1 19 20,K 20 21,D .add 21 1 22,Z 17 23,A 0 23 24,A 1 24 25,W 1 25 22]<|
 r [gT 4]<|
 .ret):=cu
def C5: Of aM 436 11 [] (r [M 0 4,M 1 5,C 435 [t 4,t 5] 6,U 6 7]<|
 c 7 (R [M 0 8,Z 8 9,A 2 9 10,⟨.store 1 (t 10) (.c (.bool true)),none,none⟩]) k):=cu
def fP: Of aM 437 71 [.cell 4 true 6] (r [J jn 4]<|
 .scope 0 (q (.block 0 (r [M 0 8,Z 8 9,A 2 9 10,K 10 11,M 11 7]<|
 c 7 (r [gU jn [] 12,W 6 4 12]<|
 .ret) (r [M 1 14,D .eql 14 0 15,M 15 16,MT 0 17 16,CT 461 [t 17,gJ 1,gS [105,102]] 18 16,P 16 18 19,M 19 13]<|
 c 13 (r [M 0 20,C 462 [t 20] 21,W 6 4 21]<|
 .ret) (r [M 1 23,D .eql 23 0 24,M 24 22]<|
 c 22 (r [M 0 25,C 437 [t 25,gJ 1] 26,W 6 4 26]<|
 .ret) (r [M 1 28,D .eql 28 6 29,M 29 30,MT 0 31 30,CT 461 [t 31,gJ 4,gS [45]] 32 30,P 30 32 33,M 33 27]<|
 c 27 (r [M 0 34,C 437 [t 34,gJ 6] 35,gB true 6 (.agg jn) 1 [(0,t 35)] 36,gU jn [(0,1,gJ 3),(5,1,t 36)] 37,W 6 4 37]<|
 .ret) (r [M 1 39,D .geq 39 6 40,M 40 38]<|
 c 38 (r [M 0 41,C 463 [t 41] 42,W 6 4 42]<|
 .ret) k))))))<|
 r [M 0 43,M 1 44,D .add 44 1 45,C 437 [t 43,t 45] 46,J jn 5,W 6 5 46]<|
 q (.label 0)<|
 r [M 0 47,M 1 48,C 464 [t 47,t 48] 49,M 49 6]<|
 gR [M 6 50,D .eql 50 0 51] 51 [L 6 5 52,W 6 4 52]<|
 q (.draw [M 6 53,L 6 5 54,M 0 55,M 1 56,D .add 56 1 57,cg (.qG (.c (.fn (.func 437) [] [])) [t 55,t 57]) 58,gB true 6 (.agg jn) 2 [(0,t 54),(1,t 58)] 59,gU jn [(0,1,t 53),(5,1,t 59)] 60,W 6 5 60] [(t 5,t 55)])<|
 q (r [M 1 61,D .neq 61 3 62,M 62 63,MT 0 64 63,ZT 64 65 63,AT 2 65 66 63,KT 66 67 63,UT 67 68 63,P 63 68 69]<|
 c 69 (.goto 0) k)<|
 r [L 6 5 70,W 6 4 70]<|
 .ret) (.seq k <|
 r [M 0 47,M 1 48,C 464 [t 47,t 48] 49,M 49 6]<|
 gR [M 6 50,D .eql 50 0 51] 51 [L 6 5 52,W 6 4 52]<|
 q (.draw [M 6 53,L 6 5 54,M 0 55,M 1 56,D .add 56 1 57,cg (.qG (.c (.fn (.func 437) [] [])) [t 55,t 57]) 58,gB true 6 (.agg jn) 2 [(0,t 54),(1,t 58)] 59,gU jn [(0,1,t 53),(5,1,t 59)] 60,W 6 5 60] [(t 5,t 55)])<|
 q (r [M 1 61,D .neq 61 3 62,M 62 63,MT 0 64 63,ZT 64 65 63,AT 2 65 66 63,KT 66 67 63,UT 67 68 63,P 63 68 69]<|
 c 69 (.goto 0) k)<|
 r [L 6 5 70,W 6 4 70]<|
 .ret)):=cu ⟨[],[],[],[],[58],[]⟩
def tI: Of aM 438 82 [.tmp 4,.tmp 5] (r [V z0 4,gF 5]<|
 q (r [M 0 7]<|
 .block 0 (q (r [D .eql 7 3 9,M 9 8]<|
 c 8 k (r [D .eql 7 5 10,M 10 8]<|
 c 8 k (r [D .eql 7 6 11,M 11 8]<|
 c 8 k (R [D .eql 7 7 12,M 12 8]))))<|
 c 8 (r [M 1 13,C 465 [gJ 1,t 13] 14,V (i6 1) 4,M 14 5]<|
 .ret) (r [D .eql 7 4 16,M 16 15]<|
 c 15 (q (.draw [M 1 17,gI false 1 17 0 18,K 18 19,M 1 20,gI false 1 20 1 21,K 21 22,Q 466 [t 19,t 22] 23,M 23 6] [])<|
 q (r [M 6 24,D .neq 24 2 25]<|
 c 25 (R [V (i6 1) 6]) k)<|
 r [M 6 26,M 6 27,M 1 28,C 465 [t 27,t 28] 29,M 26 4,M 29 5]<|
 .ret) (q (r [D .eql 7 8 31,M 31 30]<|
 c 30 k (R [D .eql 7 9 32,M 32 30]))<|
 c 30 (q (.draw [M 1 33,gI false 1 33 0 34,K 34 35,M 1 36,gI false 1 36 1 37,K 37 38,Q 349 [t 35,t 38] 39,V (i6 3) 4,M 39 5] [])<|
 .ret) (q (r [D .eql 7 10 41,M 41 40]<|
 c 40 k (r [D .eql 7 11 42,M 42 40]<|
 c 40 k (r [D .eql 7 12 43,M 43 40]<|
 c 40 k (R [D .eql 7 13 44,M 44 40]))))<|
 c 40 (q (.draw [M 1 45,gI false 1 45 0 46,K 46 47,M 1 48,gI false 1 48 1 49,K 49 50,Q 349 [t 47,t 50] 51,M 51 52,MT 1 53 52,QT 467 [t 53,gJ 3] 54 52,UT 54 55 52,P 52 55 56,V (i6 3) 4,M 56 5] [])<|
 .ret) (q (r [D .eql 7 14 58,M 58 57]<|
 c 57 k (R [D .eql 7 15 59,M 59 57]))<|
 c 57 (r [M 1 60,C 465 [gJ 3,t 60] 61,V (i6 3) 4,M 61 5]<|
 .ret) k))))))<|
 q (.draw [M 1 62,gI false 1 62 1 63,K 63 64,M 1 65,gI false 1 65 2 66,K 66 67,Q 466 [t 64,t 67] 68,M 1 69,gI false 1 69 0 70,K 70 71,Q 349 [t 71,gJ 3] 72,M 72 73,MT 1 74 73,⟨.jh ⟨false,1⟩ none (t 74) (gJ 1),(some 75),some (73,true)⟩,KT 75 76 73,MT 1 77 73,⟨.jh ⟨false,1⟩ none (t 77) (gJ 2),(some 78),some (73,true)⟩,KT 78 79 73,QT 349 [t 76,t 79] 80 73,P 73 80 81,M 68 4,M 81 5] [])<|
 .ret):=cu
def vw: Of aM 440 16 [.tmp 4] (r [V .aP 4]<|
 gR [M 1 5,cg (.n9 .u32 (t 5)) 6,cg (.bin .leq (t 6) (.c (.int .u32 127))) 7] 7 [M 0 8,M 1 9,cg (.n9 .u8 (t 9)) 10,gB false 1 (.int .u8 0) 1 [(0,t 10)] 11,cg (.app (some 5) ⟨false,1⟩ (t 8) (t 11)) 12,M 12 4]<|
 r [M 0 13,M 1 14,C 472 [t 13,t 14] 15,M 15 4]<|
 .ret):=cu ⟨[],[],[],[12],[],[]⟩
def Q_: Of aM 456 16 [.cell 2 true 5,.tmp 3] (r [J si 2,V z0 3]<|
 r [M 0 5,C 97 [t 5] 6,M 6 4]<|
 gR [M 4 7,D .gtr 7 16 8] 8 [gU si [] 9,W 5 2 9,V (i6 5) 3]<|
 r [M 0 10,M 4 11,cg (.vD (t 10) none (some (t 11))) 12,gU GI [(0,1,gJ 1),(1,1,t 12)] 13,M 4 14,gU si [(0,4,t 13),(4,1,t 14)] 15,W 5 2 15,V z0 3]<|
 .ret):=cu
def Nv: Of aM 457 42 [.cell 2 true 5,.tmp 3] (r [J si 2,V z0 3]<|
 r [M 0 8,C 172 [t 8,(.c (.fn (.func 174) [] []))] 9,M 9 4]<|
 gR [M 4 10,D .gtr 10 1 11,M 11 12,MT 0 13 12,⟨.mb (t 13) (.c z0),(some 14),some (12,true)⟩,⟨.bin .eql (t 14) (.c (.int .u8 48)),(some 15),some (12,true)⟩,P 12 15 16] 16 [gU si [] 17,W 5 2 17,V (i6 11) 3]<|
 r [V z0 5]<|
 q (r [M 4 18,V z0 19]<|
 .block 0 (.loop (r [B .lss 19 18 20]<|
 q (c 20 k (.exit 0))<|
 q (.block 1 (r [M 19 21,M 21 6]<|
 r [M 0 22,M 6 23,cg (.mb (t 22) (t 23)) 24,cg (.bin .sub (t 24) (.c (.int .u8 48))) 25,cg (.n9 .i64 (t 25)) 26,M 26 7]<|
 gR [M 5 27,M 7 28,cg (.bin .sub (gJ 9223372036854775807) (t 28)) 29,D .quo 29 10 30,B .gtr 27 30 31] 31 [gU si [] 32,W 5 2 32,V (i6 15) 3]<|
 R [M 5 33,D .mul 33 10 34,M 7 35,B .add 34 35 36,M 36 5]))<|
 R [D .add 19 1 37,M 37 19])))<|
 r [M 5 38,gU GI [(0,1,gJ 2),(2,1,t 38)] 39,M 4 40,gU si [(0,4,t 39),(4,1,t 40)] 41,W 5 2 41,V z0 3]<|
 .ret):=cu
def Ra: Of aM 458 71 [.cell 2 true 5,.tmp 3] (r [J si 2,V z0 3]<|
 r [cg (.nw ⟨false,1⟩) 4]<|
 q (r [V (i6 1) 5]<|
 gL 0 [M 5 7,M 0 8,S 8 9,B .lss 7 9 10] 10 ((
 q (.block 1 (r [M 0 13,M 5 14,cg (.mb (t 13) (t 14)) 15,M 15 6]<|
 q (.block 2 (r [M 6 17,cg (.bin .eql (t 17) (.c (.int .u8 34))) 18,M 18 19,MT 4 20 19,NT 20 21 19,DT .gtr 21 40 22 19,P 19 22 23,M 23 16]<|
 c 16 (r [gU si [] 24,W 5 2 24,V (i6 5) 3]<|
 .ret) (r [M 6 26,cg (.bin .eql (t 26) (.c (.int .u8 34))) 27,M 27 25]<|
 c 25 (r [M 4 28,cg (.yu (t 28)) 29,gU GI [(0,1,gJ 3),(1,1,t 29)] 30,M 5 31,D .add 31 1 32,gU si [(0,4,t 30),(4,1,t 32)] 33,W 5 2 33,V z0 3]<|
 .ret) (r [M 6 35,cg (.bin .eql (t 35) (.c (.int .u8 92))) 36,M 36 34]<|
 c 34 (r [M 5 37,D .add 37 1 38,M 38 5]<|
 r [M 5 39,M 0 40,S 40 41,B .eql 39 41 42,M 42 43,MF 0 44 43,MF 5 45 43,⟨.mb (t 44) (t 45),(some 46),some (43,false)⟩,⟨.bin .neq (t 46) (.c (.int .u8 34)),(some 47),some (43,false)⟩,MF 47 48 43,MT 0 49 48,MT 5 50 48,⟨.mb (t 49) (t 50),(some 51),some (48,true)⟩,⟨.bin .neq (t 51) (.c (.int .u8 92)),(some 52),some (48,true)⟩,PF 48 52 53 43,O 43 53 54]<|
 c 54 (r [gU si [] 55,W 5 2 55,V (i6 11) 3]<|
 .ret) k) (r [M 6 57,cg (.bin .lss (t 57) (.c (.int .u8 32))) 58,M 58 59,MF 6 60 59,⟨.bin .gtr (t 60) (.c (.int .u8 126)),(some 61),some (59,false)⟩,O 59 61 62,M 62 56]<|
 c 56 (r [gU si [] 63,W 5 2 63,V (i6 11) 3]<|
 .ret) k)))))<|
 R [M 4 64,M 0 65,M 5 66,cg (.mb (t 65) (t 66)) 67,gB false 1 (.int .u8 0) 1 [(0,t 67)] 68,gA false 1 64 68 69,M 69 4]))<|
 R [M 5 11,D .add 11 1 12,M 12 5])))<|
 r [gU si [] 70,W 5 2 70,V (i6 11) 3]<|
 .ret):=cu ⟨[],[],[(4,⟨false,1⟩)],[],[],[]⟩
def GJ: Of aM 459 24 [.cell 2 true 5,.tmp 3] (r [X 0 1,J si 2,V z0 3]<|
 r [C 479 [] 6,M 6 4]<|
 r [M 4 7,cg (.vg (.func 480) [] [t 1]) 8,C 309 [t 7,t 8] 9,M 9 5]<|
 gR [M 5 10,D .lss 10 0 11] 11 [gU si [] 12,W 5 2 12,V (i6 11) 3]<|
 q (.draw [M 4 13,M 5 14,I false 1 13 14 15,K 15 16,gU GI [(0,1,gJ 4),(1,1,t 16)] 17,M 4 18,M 5 19,I false 1 18 19 20,K 20 21,S 21 22,gU si [(0,4,t 17),(4,1,t 22)] 23,W 5 2 23,V z0 3] [])<|
 .ret):=cu
def sZ: Of aM 460 37 [.cell 2 true 6] (r [J jn 2]<|
 gR [M 0 6,Z 6 7,A 2 7 8,K 8 9] 9 [gU jn [] 10,W 6 2 10]<|
 q (.draw [M 0 12,Z 12 13,A 0 13 14,A 0 14 15,K 15 16,M 0 17,Z 17 18,A 0 18 19,A 1 19 20,K 20 21,Q 398 [t 16,t 21,gJ 4] 22,M 22 11,E 11 0 23,E 11 1 24,E 11 2 25,J jn 3,W 6 3 23,M 24 4,M 25 5] [])<|
 r [M 0 26,M 0 27,M 4 28,M 5 29,D .neq 29 0 30,Z 26 31,A 0 31 32,A 1 32 33,W 1 33 28,Z 27 34,A 2 34 35,W 1 35 30]<|
 r [L 6 3 36,W 6 2 36]<|
 .ret):=cu
def C6: Of aM 461 27 [.tmp 6] (r [gF 6]<|
 r [M 0 8,C 481 [t 8] 9,J GI 7,W 4 7 9]<|
 gR [A 0 7 10,K 10 11,M 1 12,B .neq 11 12 13,M 13 14,AF 1 7 15 14,KF 15 16 14,MF 2 17 14,BF .neq 16 17 18 14,O 14 18 19] 19 [gF 6]<|
 r [M 0 20,Z 20 21,A 1 21 22,K 22 23,D .add 23 1 24,Z 20 25,A 1 25 26,W 1 26 24]<|
 r [gT 6]<|
 .ret):=cu
def yf: Of aM 462 19 [.cell 2 true 6] (r [J jn 2]<|
 r [M 0 5,C 437 [t 5,.c z0] 6,J jn 3,W 6 3 6]<|
 r [M 0 7,C 482 [t 7,gJ 1,gS [116,104,101,110]] 8]<|
 r [M 0 9,C 437 [t 9,.c z0] 10,J jn 4,W 6 4 10]<|
 r [M 0 11,C 482 [t 11,gJ 1,gS [101,108,115,101]] 12]<|
 q (.draw [L 6 3 13,L 6 4 14,M 0 15,cg (.qG (.c (.fn (.func 437) [] [])) [t 15,.c z0]) 16,gB true 6 (.agg jn) 3 [(0,t 13),(1,t 14),(2,t 16)] 17,gU jn [(0,1,gJ 16),(5,1,t 17)] 18,W 6 2 18] [(t 3,t 15),(t 4,t 15)])<|
 .ret):=cu ⟨[],[],[],[],[16],[]⟩
def iD: Of aM 463 71 [.cell 2 true 6] (r [J jn 2]<|
 q (r [M 0 8,C 461 [t 8,gJ 4,gS [40]] 9]<|
 c 9 (r [M 0 10,C 437 [t 10,.c z0] 11,J jn 3,W 6 3 11]<|
 r [M 0 12,C 482 [t 12,gJ 4,gS [41]] 13]<|
 r [L 6 3 14,W 6 2 14]<|
 .ret) k)<|
 r [M 0 15,C 481 [t 15] 16,J GI 4,W 4 4 16]<|
 r [gU jn [(0,1,gJ 1)] 17,J jn 5,W 6 5 17]<|
 q (r [A 0 4 18,K 18 19]<|
 .block 0 (r [D .eql 19 2 25,M 25 24]<|
 c 24 (R [A 2 4 26,K 26 27,gU Ai [(0,1,gJ 1),(1,1,t 27)] 28,A 1 5 29,W 3 29 28]) (r [D .eql 19 3 31,M 31 30]<|
 c 30 (R [A 1 4 32,K 32 33,gU Ai [(0,1,gJ 2),(2,1,t 33)] 34,A 1 5 35,W 3 35 34]) (r [D .eql 19 1 37,M 37 36]<|
 c 36 (r [A 1 4 39,K 39 40,C 483 [t 40] 41,M 41 38,E 38 0 42,E 38 1 43,J Ai 6,W 3 6 42,M 43 7]<|
 q (r [M 7 44,U 44 45,M 45 46,AT 1 4 47 46,KT 47 48 46,CT 45 [t 48] 49 46,UT 49 50 46,P 46 50 51]<|
 c 51 (r [M 0 52,Z 52 53,A 2 53 54,⟨.store 1 (t 54) (.c (.bool true)),none,none⟩]<|
 r [gU jn [] 55,W 6 2 55]<|
 .ret) k)<|
 r [L 3 6 56,A 1 5 57,W 3 57 56]<|
 r [M 7 58,U 58 59]<|
 c 59 (R [A 1 4 60,K 60 61,gU jn [(0,1,gJ 2),(4,1,t 61)] 62,W 6 5 62]) k) (r [M 0 20,Z 20 21,A 2 21 22,⟨.store 1 (t 22) (.c (.bool true)),none,none⟩]<|
 r [gU jn [] 23,W 6 2 23]<|
 .ret)))))<|
 r [M 0 63,Z 63 64,A 1 64 65,K 65 66,D .add 66 1 67,Z 63 68,A 1 68 69,W 1 69 67]<|
 r [L 6 5 70,W 6 2 70]<|
 .ret):=cu
def yg: Of aM 464 31 [.tmp 4] (r [V z0 4]<|
 q (r [C 359 [] 8,N 8 9,V z0 10]<|
 .block 0 (.loop (r [B .lss 10 9 11]<|
 q (c 11 k (.exit 0))<|
 q (.block 1 (r [I true 3 8 10 12,L 3 12 13,J sX 6,W 3 6 13]<|
 r [V (i6 4) 7]<|
 q (r [A 2 6 14,K 14 15,D .lss 15 3 16]<|
 c 16 (R [V (i6 1) 7]) k)<|
 r [A 2 6 17,K 17 18,M 1 19,B .eql 18 19 20,M 20 21,MT 0 22 21,MT 7 23 21,AT 1 6 24 21,KT 24 25 21,CT 461 [t 22,t 23,t 25] 26 21,P 21 26 27]<|
 c 27 (r [A 0 6 28,K 28 29,M 29 4]<|
 .ret) k))<|
 R [D .add 10 1 30,M 30 10])))<|
 r [V z0 4]<|
 .ret):=cu
def Nw: Of aM 465 18 [.tmp 4] (r [gF 4]<|
 q (r [M 1 7,N 7 8,V z0 9]<|
 .block 0 (.loop (r [B .lss 9 8 10]<|
 q (c 10 k (.exit 0))<|
 q (.block 1 (r [I false 1 7 9 11,K 11 12,M 12 6]<|
 r [M 6 13,M 0 14,C 349 [t 13,t 14] 15,U 15 16]<|
 c 16 (r [gF 4]<|
 .ret) k))<|
 R [D .add 9 1 17,M 17 9])))<|
 r [gT 4]<|
 .ret):=cu
def Ap: Of aM 466 11 [.tmp 4] (r [V z0 4]<|
 r [V z0 5]<|
 gR [M 0 6,M 5 7,B .neq 6 7 8] 8 [M 0 9,M 9 4]<|
 r [M 1 10,M 10 4]<|
 .ret):=cu
def yh: Of aM 467 9 [.tmp 4] (r [gF 4]<|
 r [M 0 5,M 1 6,C 484 [t 5,t 6] 7,D .geq 7 0 8,M 8 4]<|
 .ret):=cu
def OS: Of aM 479 2 [.tmp 0] (r [V .aP 0]<|
 r [gB false 1 e0 16 [(0,gS [46,46]),(1,gS [33,61]),(2,gS [60,61]),(3,gS [62,61]),(4,gS [40]),(5,gS [41]),(6,gS [91]),(7,gS [93]),(8,gS [44]),(9,gS [43]),(10,gS [45]),(11,gS [42]),(12,gS [47]),(13,gS [61]),(14,gS [60]),(15,gS [62])] 1,M 1 0]<|
 .ret):=cu
def Nx: Of aM 480 7 [.tmp 3] (r [gF 3]<|
 r [K 1 4,M 0 5,C 148 [t 4,t 5] 6,M 6 3]<|
 .ret):=cu
def BI: Of aM 481 30 [.cell 2 true 4] (r [J GI 2]<|
 q (q (.draw [M 0 3,Z 3 4,A 2 4 5,K 5 6,M 6 7,MF 0 8 7,ZF 8 9 7,AF 1 9 10 7,KF 10 11 7,MF 0 12 7,ZF 12 13 7,AF 0 13 14 7,KF 14 15 7,NF 15 16 7,BF .geq 11 16 17 7,O 7 17 18] [])<|
 c 18 (r [gU GI [] 19,W 4 2 19]<|
 .ret) k)<|
 q (.draw [M 0 20,Z 20 21,A 0 21 22,K 22 23,M 0 24,Z 24 25,A 1 25 26,K 26 27,I true 4 23 27 28,L 4 28 29,W 4 2 29] [])<|
 .ret):=cu
def Aq: Of aM 482 14 [] (r [M 0 6,M 1 7,M 2 8,C 461 [t 6,t 7,t 8] 9,U 9 10]<|
 c 10 (R [M 0 11,Z 11 12,A 2 12 13,⟨.store 1 (t 13) (.c (.bool true)),none,none⟩]) k):=cu
def KC: Of aM 483 15 [.cell 2 true 3,.tmp 3] (r [J Ai 2,gF 3]<|
 q (r [M 0 4]<|
 .block 0 (r [cg (.bin .eql (t 4) (gS [110,117,108,108])) 6,M 6 5]<|
 c 5 (r [gU Ai [] 7,W 3 2 7,gT 3]<|
 .ret) (r [cg (.bin .eql (t 4) (gS [102,97,108,115,101])) 9,M 9 8]<|
 c 8 (r [gU Ai [(0,1,gJ 3)] 10,W 3 2 10,gT 3]<|
 .ret) (r [cg (.bin .eql (t 4) (gS [116,114,117,101])) 12,M 12 11]<|
 c 11 (r [gU Ai [(0,1,gJ 3),(1,1,gJ 1)] 13,W 3 2 13,gT 3]<|
 .ret) k))))<|
 r [gU Ai [] 14,W 3 2 14,gF 3]<|
 .ret):=cu
def BJ: Of aM 484 19 [.tmp 4] (r [V z0 4]<|
 q (r [M 0 6,N 6 7,V z0 8]<|
 .block 0 (.loop (r [B .lss 8 7 9]<|
 q (c 9 k (.exit 0))<|
 q (.block 1 (r [M 8 10,M 10 5]<|
 r [M 1 11,M 0 12,M 5 13,I false 1 12 13 14,K 14 15,B .eql 11 15 16]<|
 c 16 (r [M 5 17,M 17 4]<|
 .ret) k))<|
 R [D .add 8 1 18,M 18 8])))<|
 r [V (i6 (-1)) 4]<|
 .ret):=cu
def WB: Of aM 455 39 [.tmp 6] (r [V (.int .u32 0) 6]<|
 q (r [M 2 8,S 8 9,V z0 10]<|
 .block 0 (.loop (r [B .lss 10 9 11]<|
 q (c 11 k (.exit 0))<|
 q (.block 1 (r [M 10 12,M 12 7]<|
 r [M 1 13,M 2 14,M 7 15,cg (.mb (t 14) (t 15)) 16,cg (.n9 .u32 (t 16)) 17,B .xor 13 17 18,M 18 1]<|
 r [M 1 19,cg (.bin .shr (t 19) (.c (.int .u64 4))) 20,M 0 21,M 1 22,cg (.bin .and (t 22) (.c (.int .u32 15))) 23,Z 21 24,cg (.jh ⟨false,1⟩ (some 16) (t 24) (t 23)) 25,K 25 26,B .xor 20 26 27,M 27 1]<|
 R [M 1 28,cg (.bin .shr (t 28) (.c (.int .u64 4))) 29,M 0 30,M 1 31,cg (.bin .and (t 31) (.c (.int .u32 15))) 32,Z 30 33,cg (.jh ⟨false,1⟩ (some 16) (t 33) (t 32)) 34,K 34 35,B .xor 29 35 36,M 36 1]))<|
 R [D .add 10 1 37,M 37 10])))<|
 r [M 1 38,M 38 6]<|
 .ret):=cu
def Ny: Of aM 410 14 [.tmp 2] (r [gF 2]<|
 q (r [M 0 4,S 4 5,V z0 6]<|
 .block 0 (.loop (r [B .lss 6 5 7]<|
 q (c 7 k (.exit 0))<|
 q (.block 1 (r [M 6 8,M 8 3]<|
 r [M 0 9,M 3 10,cg (.mb (t 9) (t 10)) 11,cg (.bin .neq (t 11) (.c (.int .u8 0))) 12]<|
 c 12 (r [gF 2]<|
 .ret) k))<|
 R [D .add 6 1 13,M 13 6])))<|
 r [gT 2]<|
 .ret):=cu
def wz: Of aM 420 17 [.tmp 4] (r [V (.int .u32 0) 4]<|
 r [M 1 6,cg (.n9 .u64 (t 6)) 7,cg (.bin .and (t 7) (.c (.int .u64 31))) 8,M 8 5]<|
 r [M 0 9,M 5 10,B .shl 9 10 11,M 0 12,M 5 13,cg (.bin .sub (.c (.int .u64 32)) (t 13)) 14,B .shr 12 14 15,B .or 11 15 16,M 16 4]<|
 .ret):=cu
def Rb: Of aM 381 9 [.tmp 4] (r [V (.int .u32 0) 4]<|
 r [M 0 5,M 1 6,cg (.un .neg (t 6)) 7,C 420 [t 5,t 7] 8,M 8 4]<|
 .ret):=cu
def xq: Of aM 46 16 [.tmp 6,.tmp 7] (r [V z0 6,V z0 7]<|
 gR [M 2 8,D .eql 8 0 9] 9 [M 0 10,M 1 11,C 17 [t 10,t 11] 12,E 12 0 13,E 12 1 14,M 13 6,M 14 7]<|
 r [M 2 15,M 15 6,V z0 7]<|
 .ret):=cu
def CL: Of aM 47 34 [.tmp 4,.tmp 5] (r [V e0 4,V z0 5]<|
 r [M 1 10,C 83 [t 10] 11,M 11 9,E 9 0 12,E 9 1 13,J Sf 6,W 4 6 12,M 13 7]<|
 gR [M 7 14,D .neq 14 0 15] 15 [M 7 16,V e0 4,M 16 5]<|
 r [M 0 18,A 0 6 19,K 19 20,A 3 6 21,K 21 22,C 51 [t 18,t 20,t 22,(gJ (-1))] 23,M 23 17,E 17 0 24,E 17 1 25,M 24 8,M 25 7]<|
 gR [M 7 26,D .neq 26 0 27] 27 [M 7 28,V e0 4,M 28 5]<|
 r [M 1 29,M 8 30,C 99 [t 29,t 30] 31,E 31 0 32,E 31 1 33,M 32 4,M 33 5]<|
 .ret):=cu
def KD: Of aM 83 13 [.cell 2 true 4,.tmp 3] (r [J Sf 2,V z0 3]<|
 gR [M 0 4,C 160 [t 4] 5,U 5 6] 6 [gU Sf [] 7,W 4 2 7,V (i6 2) 3]<|
 r [M 0 8,cg (.bin .add (t 8) (gS [0,0])) 9,M 0 10,cg (.bin .add (t 10) (gS [255,255])) 11,gU Sf [(0,1,t 9),(2,1,(.c (.bool true))),(3,1,t 11)] 12,W 4 2 12,V z0 3]<|
 .ret):=cu
def KE: Of aM 160 10 [.tmp 2] (r [gF 2]<|
 r [M 0 3,cg (.bin .neq (t 3) (.c e0)) 4,M 4 5,MT 0 6 5,ST 6 7 5,DT .leq 7 40 8 5,P 5 8 9,M 9 2]<|
 .ret):=cu
def KG: Of aM 56 31 [.tmp 4] (r [V e0 4]<|
 r [M 1 7,cg (.max (t 7) [.c z0]) 8,cg (.min (t 8) [gJ 8]) 9,cg (.l7 ⟨false,1⟩ (.int .u8 0) (t 9) (t 9)) 10,M 10 5]<|
 q (r [M 5 11,N 11 12,V z0 13]<|
 .block 0 (.loop (r [B .lss 13 12 14]<|
 q (c 14 k (.exit 0))<|
 q (.block 1 (r [M 13 15,M 15 6]<|
 R [M 5 16,M 5 17,N 17 18,D .sub 18 1 19,M 6 20,B .sub 19 20 21,M 0 22,M 6 23,cg (.bin .mul (gJ 8) (t 23)) 24,B .shr 22 24 25,cg (.n9 .u8 (t 25)) 26,I false 1 16 21 27,W 1 27 26]))<|
 R [D .add 13 1 28,M 28 13])))<|
 r [M 5 29,cg (.yu (t 29)) 30,M 30 4]<|
 .ret):=cu
def BK: Of aM 189 24 [.tmp 4] (r [X 0 2,X 1 3,gF 4]<|
 r [A 0 2 5,K 5 6,A 0 3 7,K 7 8,B .eql 6 8 9,M 9 10,AT 1 2 11 10,KT 11 12 10,AT 1 3 13 10,KT 13 14 10,BT .eql 12 14 15 10,P 10 15 16,M 16 17,AT 2 2 18 17,KT 18 19 17,AT 2 3 20 17,KT 20 21 17,CT 281 [t 19,t 21] 22 17,P 17 22 23,M 23 4]<|
 .ret):=cu
def D6: Of aM 191 17 [.tmp 4] (r [X 0 2,X 1 3,gF 4]<|
 r [A 0 2 5,K 5 6,A 0 3 7,K 7 8,C 282 [t 6,t 8] 9,M 9 10,AT 1 2 11 10,KT 11 12 10,AT 1 3 13 10,KT 13 14 10,CT 282 [t 12,t 14] 15 10,P 10 15 16,M 16 4]<|
 .ret):=cu
def Jd: Of aM 119 12 [.tmp 2] (r [X 0 1,V e0 2]<|
 r [A 2 1 6,K 6 7,C 158 [t 7] 8,M 8 5,E 5 0 9,E 5 1 10,M 9 3,M 10 4]<|
 r [M 3 11,M 11 2]<|
 .ret):=cu
def Ar: Of aM 281 26 [.tmp 4] (r [gF 4]<|
 gR [M 0 6,N 6 7,M 1 8,N 8 9,B .neq 7 9 10] 10 [gF 4]<|
 q (r [M 0 11,N 11 12,V z0 13]<|
 .block 0 (.loop (r [B .lss 13 12 14]<|
 q (c 14 k (.exit 0))<|
 q (.block 1 (r [M 13 15,M 15 5]<|
 q (.draw [M 0 16,M 5 17,I true 3 16 17 18,L 3 18 19,M 1 20,M 5 21,I true 3 20 21 22,L 3 22 23,cg (.rW true true [.i,.i,.s] (t 19) (t 23)) 24] [])<|
 c 24 (r [gF 4]<|
 .ret) k))<|
 R [D .add 13 1 25,M 25 13])))<|
 r [gT 4]<|
 .ret):=cu
def zD: Of aM 282 26 [.tmp 4] (r [gF 4]<|
 gR [M 0 6,N 6 7,M 1 8,N 8 9,B .neq 7 9 10] 10 [gF 4]<|
 q (r [M 0 11,N 11 12,V z0 13]<|
 .block 0 (.loop (r [B .lss 13 12 14]<|
 q (c 14 k (.exit 0))<|
 q (.block 1 (r [M 13 15,M 15 5]<|
 q (.draw [M 0 16,M 5 17,I false 1 16 17 18,K 18 19,M 1 20,M 5 21,I false 1 20 21 22,K 22 23,B .neq 19 23 24] [])<|
 c 24 (r [gF 4]<|
 .ret) k))<|
 R [D .add 13 1 25,M 25 13])))<|
 r [gT 4]<|
 .ret):=cu
def As: Of aM 238 32 [.tmp 2,.tmp 3] (r [X 0 1,V e0 2,V z0 3]<|
 q (r [L 3 1 6,C 274 [t 6] 7,M 7 4]<|
 r [M 4 8,D .neq 8 0 9]<|
 c 9 (r [M 4 10,V e0 2,M 10 3]<|
 .ret) k)<|
 r [A 0 1 11,K 11 12,C 55 [t 12] 13,M 13 5]<|
 q (r [A 0 1 14,K 14 15]<|
 .block 0 (r [D .eql 15 2 17,M 17 16]<|
 c 16 (R [M 5 18,A 2 1 19,K 19 20,C 116 [t 20] 21,B .add 18 21 22,M 22 5]) (q (r [D .eql 15 1 24,M 24 23]<|
 c 23 k (R [D .eql 15 3 25,M 25 23]))<|
 c 23 (R [M 5 26,A 1 1 27,K 27 28,C 55 [t 28] 29,B .add 26 29 30,M 30 5]) k)))<|
 r [M 5 31,M 31 2,V z0 3]<|
 .ret):=cu
def OU: Of aM 158 31 [.tmp 2,.tmp 3] (r [V e0 2,V z0 3]<|
 r [M 0 9,N 9 10,C 55 [t 10] 11,M 11 4]<|
 q (r [M 0 12,N 12 13,V z0 14]<|
 .block 0 (.loop (r [B .lss 14 13 15]<|
 q (c 15 k (.exit 0))<|
 q (.block 1 (r [I true 3 12 14 16,L 3 16 17,J Ai 6,W 3 6 17]<|
 r [L 3 6 19,C 238 [t 19] 20,M 20 18,E 18 0 21,E 18 1 22,M 21 7,M 22 8]<|
 gR [M 8 23,D .neq 23 0 24] 24 [M 8 25,V e0 2,M 25 3]<|
 R [M 4 26,M 7 27,B .add 26 27 28,M 28 4]))<|
 R [D .add 14 1 29,M 29 14])))<|
 r [M 4 30,M 30 2,V z0 3]<|
 .ret):=cu
end Go.Proofs.YtdohdkdejmhgnaaGreatDoor
namespace Go.AM
variable {P:Program}
def eu{p:Prop}(h:False:=by first|omega|(simp_all;done)|(simp_all;omega)): p:=h.elim
def at_{p:Prop}(h:p:=by simp (disch:=omega) only[adU,abM,and_true,go_sem,L9,OI,Ma,Nat.reduceAdd,Nat.reduceBEq,↓reduceIte,bA,bn]<;>(try trivial)<;>(try omega)<;>(try (repeat (first|trivial|(refine And.intro ?_ ?_)|(congr 1;omega))))): p:=h
def fU{p:Prop}(h:p:=by repeat (first|exact abK _ _ _|refine abL rfl ?_|refine Y6 rfl ?_|(simp only[Wt,Y0]))): p:=h
def vw_{p:Prop}(h:p:=by first|exact bR.refl aT|(repeat (first|exact bR.nil _|refine bR.cons ?_ ?_|exact View.aP _|exact View.refl _ aT|exact View.weak _ _ _ aT|exact View.cell _ _ rfl rfl aT|refine View.fnL ?_ ?_|exact View.vec rfl aT aT aT|refine View.Y1 ?_|refine View.r_ ?_))): p:=h
def bs_{K:AV->Prop}{xs:List AV}{m n:Nat}{s:List UInt8}(hk:K (.str s))(hx:xs=s.map fun b=>AV.int .u8 b.toNat)(hm:m=xs.length)(hn:n=xs.length): T0 (some (.vec ⟨false,1⟩ xs)) m 0 n (.mk:Tg K):=I4 s hx hm hn hk
def aQ {G K : Prop} (k : K) (h : K -> G := by
    first
    |(intro k;simp (disch:=omega) only[go_sem,aX,aY,aZ];exact k)
    |(intro k;with_reducible refine aaX ?_ k;first|omega|(simp;done)|(simp;omega)|assumption)
    |(intro k;with_reducible exact Y5 k)
    |(intro k;with_reducible exact bs_ k rfl aT aT)
    |(intro k;with_reducible first|exact Ag (by with_reducible_and_instances assumption) k|exact Ah (by with_reducible_and_instances assumption) k)):G:=h k
def fy{G K F:Prop}(f:F)(k:K)(h:F->K->G:=by intro f k;simp (disch:=omega) only[go_sem,aX,aY,aZ,f];exact k): G:=h f k
def zA{p q:Prop}(a:p)(b:q): p/\q:=⟨a,b⟩
def zB{p q r:Prop}(a:p)(b:q)(c:r): p/\q/\r:=⟨a,b,c⟩
def zC{p q r s:Prop}(a:p)(b:q)(c:r)(d:s): p/\q/\r/\s:=⟨a,b,c,d⟩
def gn_ {G K : Prop} (k : K) (h : K -> G := by
    first
    |(intro k;simp (disch:=omega) only[go_sem,aX,aY,aZ];exact k)
    |(intro k;with_reducible refine aaX ?_ k;first|omega|(simp;done)|(simp;omega)|assumption)
    |(intro k;with_reducible exact bs_ k rfl aT aT)):G:=h k
def cc_{t:Bool}{T E p q:Prop}(h:p->T)(h':q->E)(hp:(t=true)=p)(hq:(t=false)=q): Bx (.bool t) (.mk:Tg (T,E)):=by
 subst hp hq;exact abI h h'
def gk_{t b:Bool}{T E U p q:Prop}(h:p->T)(h':q->E)(hp:(t=b)=p)(hq:(t = !b)=q): mL (.bool t) b (.mk:Tg (T,E,U)):=by
 subst hp hq;exact YW h h'
def aR {p q T E G : Prop} (h : p -> T) (h' : q -> E) (hg : (p -> T) -> (q -> E) -> G := by
    intro h h';with_reducible first|refine cc_ h h' ?_ ?_|refine gk_ h h' ?_ ?_
    all_goals
     (try simp only[au,decide_eq_false_iff_not,beq_iff_eq,beq_eq_false_iff_ne,dR,Bool.not_eq_false',Bool.not_true,gY,Int.not_lt,Int.not_le,ne_eq,Int.ofNat_lt,Int.ofNat_le,not_true_eq_false,reduceCtorEq,Int.toNat_zero])
     exact rfl):G:=hg h h'
def jS {n : FuncId} {args : List AV} {r : AV} {K G : Prop} (h : aA P n args r) (k : K) (hg : aA P n args r -> K -> G := by
    intro h k;with_reducible first|exact Ag h k|exact Ah h k):G:=hg h k
def cw_ {n : FuncId} {args : List AV} {r : AV} {K G : Prop} (h : aA P n args r) (k : K) (hg : aA P n args r -> K -> G := by
    intro h k;with_reducible first|refine abN h ?_ k|refine abO h ?_ k
    exact vw_):G:=hg h k
def cv_ {n : FuncId} {args : List AV} {r : AV} {K G : Prop} (h : aA P n args r) (k : K) (hg : aA P n args r -> K -> G := by
    intro h k;with_reducible first|refine wN h ?_ ?_ k|refine abP h ?_ ?_ k
    ·exact vw_
    ·simp[AV.flat,AV.q_]):G:=hg h k
def de {f : FuncId} {off : Nat} {args cs ds : List AV} {r : AV} {K G : Prop} (h : cY P f off args cs ds r) (k : K) (hg : cY P f off args cs ds r -> K -> G := by
    intro h k;with_reducible first|exact Kk h rfl k|exact Kl h rfl k|exact Km h rfl k):G:=hg h k
end Go.AM
namespace Go.Proofs.YtdohdkdejmhgnaaGreatDoor
open Go.AM
abbrev bj:=List UInt8
structure jC where
 kind:Int
 n:Int
 s:bj
deriving DecidableEq,Inhabited
structure Tok where
 kind:Int
 s:bj
 n:Int
 pos:Int
deriving DecidableEq,Inhabited
inductive Expr where
 | mk (op:Int) (v:jC) (s:bj) (l:List Expr)
instance:Inhabited Expr:=⟨.mk 0 ⟨0,0,[]⟩ [] []⟩
def Expr.op: Expr->Int | .mk op _ _ _=>op
def Expr.v: Expr->jC | .mk _ v _ _=>v
def Expr.s: Expr->bj | .mk _ _ s _=>s
def Expr.l: Expr->List Expr | .mk _ _ _ l=>l
structure Test where
 kind:Int
 a:Expr
 b:Expr
 lo:Bool
 hi:Bool
deriving Inhabited
structure Cell where
 any:Bool
 neg:Bool
 tests:List Test
deriving Inhabited
structure fh where
 name:bj
 kind:Int
 order:List jC
deriving Inhabited
structure gX where
 cells:List bj
 outs:List bj
deriving Inhabited
structure Table where
 name:bj
 ins:List fh
 outs:List fh
 dF:Int
 agg:Int
 rules:List gX
deriving Inhabited
structure kP where
 cells:List Cell
 outs:List Expr
deriving Inhabited
structure Ready where
 table:Table
 lines:List kP
deriving Inhabited
abbrev I(n:Int): AV:= .int .i64 n
abbrev E1: El:=⟨false,1⟩
abbrev EV: El:=⟨true,3⟩
abbrev ET: El:=⟨true,4⟩
abbrev EX: El:=⟨true,6⟩
abbrev ES: El:=⟨true,15⟩
abbrev EC: El:=⟨true,3⟩
abbrev ER: El:=⟨true,2⟩
def nL(v:jC): AV:= .agg [I v.kind,I v.n,.str v.s]
def rz(t:Tok): AV:= .agg [I t.kind,.str t.s,I t.n,I t.pos]
def fG(s:bj): AV:= .str s
def br: Expr->AV
 | .mk op v s l=> .agg [I op,I v.kind,I v.n,.str v.s,.str s,.aH false EX (l.map br)]
def dG(l:List Expr): AV:= .aH false EX (l.map br)
def dJ(t:Test): AV:= .agg [I t.kind,I t.a.op,I t.a.v.kind,I t.a.v.n,.str t.a.v.s,.str t.a.s,dG t.a.l,I t.b.op,I t.b.v.kind,I t.b.v.n,.str t.b.v.s,.str t.b.s,dG t.b.l,.bool t.lo,.bool t.hi]
def jT(l:List Test): AV:= .aH false ES (l.map dJ)
def dK(c:Cell): AV:= .agg [.bool c.any,.bool c.neg,jT c.tests]
def j_(l:List jC): AV:= .aH false EV (l.map nL)
def uk(l:List Tok): AV:= .aH false ET (l.map rz)
def ji(l:List bj): AV:= .aH false E1 (l.map fG)
def dS(c:fh): AV:= .agg [.str c.name,I c.kind,j_ c.order]
def ei(l:List fh): AV:= .aH false EC (l.map dS)
def gG(r:gX): AV:= .agg [ji r.cells,ji r.outs]
def jj(l:List gX): AV:= .aH false ER (l.map gG)
def kI(t:Table): List AV:=[.str t.name,ei t.ins,ei t.outs,I t.dF,I t.agg,jj t.rules]
def fV(t:Table): AV:= .agg (kI t)
def qP(l:List Cell): AV:= .aH false EC (l.map dK)
def ov(l:kP): AV:= .agg [qP l.cells,dG l.outs]
def Je(l:List kP): AV:= .aH false ER (l.map ov)
def D7(r:Ready): AV:= .agg [.str r.table.name,ei r.table.ins,ei r.table.outs,I r.table.dF,I r.table.agg,jj r.table.rules,Je r.lines]
def bE(x:Expr): br x = .agg [I x.op,I x.v.kind,I x.v.n,.str x.v.s,.str x.s,.aH false EX (x.l.map br)]:=by
 cases x;simp only[br];rfl
def Expr.ind{C:Expr->Prop}(h:∀ op v s l,(∀ y ∈ l,C y)->C (.mk op v s l)): ∀ x,C x
 | .mk op v s l=>h op v s l fun y _=>Expr.ind h y
attribute [go_sem] bE nL rz dJ dK dS gG kI fV ov D7 fG dG jT j_ uk ji ei jj qP Je
@[go_sem] def Expr.aa0 (op:Int) (v:jC) (s:bj) (l:List Expr):(Expr.mk op v s l).op=op:=_root_.id rfl
@[go_sem] def Expr.aei (op:Int) (v:jC) (s:bj) (l:List Expr):(Expr.mk op v s l).v=v:=_root_.id rfl
@[go_sem] def Expr.aej (op:Int) (v:jC) (s:bj) (l:List Expr):(Expr.mk op v s l).s=s:=_root_.id rfl
@[go_sem] def Expr.aek (op:Int) (v:jC) (s:bj) (l:List Expr):(Expr.mk op v s l).l=l:=_root_.id rfl
def HF(v:jC): (nL v).dU=true:=rfl
def HG(t:Tok): (rz t).dU=true:=rfl
def gV(x:Expr): (br x).dU=true:=by
 induction x using Expr.ind with
 | h op v s l ih =>
   simp only[br,AV.dU,AV.cK,iN,Bool.and_true];rw[pP];intro a ha;obtain⟨y,hy,rfl⟩:=eL.1 ha;exact ih y hy
def qh(l:List Expr): (dG l).dU=true:=by simp only[dG,AV.dU];exact je _ _ gV
def D8(t:Test): (dJ t).dU=true:=by simp[dJ,AV.dU,AV.cK,qh]
def wA(l:List Test): (jT l).dU=true:=by simp only[jT,AV.dU];exact je _ _ D8
def yN(c:Cell): (dK c).dU=true:=by simp[dK,AV.dU,AV.cK,wA]
def Mc(l:List jC): (j_ l).dU=true:=by simp only[j_,AV.dU];exact je _ _ HF
def WC(l:List Tok): (uk l).dU=true:=by simp only[uk,AV.dU];exact je _ _ HG
def D9(l:List bj): (ji l).dU=true:=by simp only[ji,AV.dU];exact je _ _ (fun _=>rfl)
def BL(c:fh): (dS c).dU=true:=by simp[dS,AV.dU,AV.cK,Mc]
def j9(l:List fh): (ei l).dU=true:=by simp only[ei,AV.dU];exact je _ _ BL
def D_(r:gX): (gG r).dU=true:=by simp[gG,AV.dU,AV.cK,D9]
def wB(l:List gX): (jj l).dU=true:=by simp only[jj,AV.dU];exact je _ _ D_
def Jf(l:List Cell): (qP l).dU=true:=by simp only[qP,AV.dU];exact je _ _ yN
def Md(l:kP): (ov l).dU=true:=by simp[ov,AV.dU,AV.cK,Jf,qh]
def OV(l:List Expr): AV.cK (l.map br)=true:=je _ _ gV
def ael(l:List jC): AV.cK (l.map nL)=true:=je _ _ HF
def OW(l:List Tok): AV.cK (l.map rz)=true:=je _ _ HG
def OX(l:List bj): AV.cK (l.map fG)=true:=je _ _ (fun _=>rfl)
def Me(l:List Test): AV.cK (l.map dJ)=true:=je _ _ D8
def rJ(l:List Cell): AV.cK (l.map dK)=true:=je _ _ yN
def Zh(l:List fh): AV.cK (l.map dS)=true:=je _ _ BL
def WD(l:List gX): AV.cK (l.map gG)=true:=je _ _ D_
def Mf(l:List kP): AV.cK (l.map ov)=true:=je _ _ Md
attribute [simp] AV.dU AV.cK HF HG gV qh D8 wA yN Mc WC D9 BL j9 D_ wB Jf Md OV ael OW OX Me rJ Zh WD Mf
def dh{α : Type}[Inhabited α]{l:List α}{i:Nat}(h:i<l.length): l.getD i default ∈ l:=by
 rw[aj,aJ h];exact c9 h
def nM(c:UInt8): Bool:=decide (32<=c.toNat) && decide (c.toNat<=126)
def wO(c:UInt8): Bool:=(decide (97<=c.toNat) && decide (c.toNat<=122)) ||(decide (65<=c.toNat) && decide (c.toNat<=90)) || decide (c.toNat=95)
def fW(c:UInt8): Bool:=decide (48<=c.toNat) && decide (c.toNat<=57)
def Jg(c:UInt8): Bool:=wO c || fW c
def nN(s:bj): Bool:=decide (s.length<=40) && s.all nM
def gZ(v:jC): Bool :=
 if v.kind=0 then decide (v.n=0) && decide (v.s=[])
 else if v.kind=1 then decide (v.s=[])
 else if v.kind=2 then decide (v.n=0) && nN v.s
 else if v.kind=3 then decide (v.s=[]) && (decide (v.n=0) || decide (v.n=1))
 else false
def um(s:bj): Nat:=match s with
 | []=>0
 | c::_=>if wO c then(s.takeWhile Jg).length else 0
structure PR where
 kind:Int
 s:bj
 n:Int
 len:Nat
 e:Int
deriving Inhabited,DecidableEq
def Sg(p:PR): AV:= .bg [.agg [I p.kind,.str p.s,I p.n,I 0,I p.len],I p.e]
attribute [go_sem] Sg
def PR.err(e:Int): PR:=⟨0,[],0,0,e⟩
def FJ(s:bj): PR:=if 16<um s then .err 5 else⟨1,s.take (um s),0,um s,0⟩
def tJ: bj->Int->Option Int
 | [],v=>some v
 | c::r,v=>if v>(9223372036854775807-((c.toNat:Int)-48)) / 10 then none else tJ r (v*10+((c.toNat:Int)-48))
def oT(s:bj): PR :=
 let n:=(s.takeWhile fW).length
 if 1<n/\(s.getD 0 0).toNat=48 then .err 11
 else match tJ (s.takeWhile fW) 0 with
  | none=> .err 15
  | some v=>⟨2,[],v,n,0⟩
def lC: bj->bj->Nat->PR
 | [],_,_=> .err 11
 | c :: r, b, i =>
   if c.toNat=34 then(if 40<b.length then .err 5 else⟨3,b,0,i+1,0⟩)
   else if c.toNat=92 then
    match r with
    | []=> .err 11
    | d::r'=>if d.toNat=34\/d.toNat=92 then lC r' (b++[d]) (i+2)else .err 11
   else if nM c then lC r (b++[c]) (i+1)else .err 11
def lR (c : UInt8) (r b : bj) (i : Nat) : lC (c :: r) b i =
    if c.toNat=34 then(if 40<b.length then .err 5 else⟨3,b,0,i+1,0⟩)
    else if c.toNat=92 then
     match r with
     | []=> .err 11
     | d::r'=>if d.toNat=34\/d.toNat=92 then lC r' (b++[d]) (i+2)else .err 11
    else if nM c then lC r (b++[c]) (i+1)else .err 11:=by
 rw[lC.eq_def];rfl
def xu: List bj:=[[46,46],[33,61],[60,61],[62,61],[40],[41],[91],[93],[44],[43],[45],[42],[47],[61],[60],[62]]
def wC(s:bj): PR:=match xu.find? (fun m=>m.isPrefixOf s)with
 | some m=>⟨4,m,0,m.length,0⟩
 | none=> .err 11
def jU(s:bj): PR :=
 let c:=s.getD 0 0
 if wO c then FJ s else if fW c then oT s else if c.toNat=34 then lC (s.drop 1) [] 1 else wC s
def rA: Nat->bj->Nat->List Tok->List Tok × Int × Int
 | 0,_,_,acc=>(acc,0,0)
 | _+1,[],_,acc=>(acc,0,0)
 | f + 1, c :: r, pos, acc =>
   if c.toNat=32 then rA f r (pos+1) acc
   else if(jU (c::r)).e=0 then rA f ((c::r).drop (jU (c::r)).len) (pos+(jU (c::r)).len) (acc++[⟨(jU (c::r)).kind,(jU (c::r)).s,(jU (c::r)).n,pos⟩])
   else([],pos,(jU (c::r)).e)
def c7(s:bj): List Tok × Int × Int:=if 200<s.length then([],0,5)else rA (s.length+1) s 0 []
def Mg: List bj:=[[97,110,100],[111,114],[110,111,116],[105,102],[116,104,101,110],[101,108,115,101],[116,114,117,101],[102,97,108,115,101],[110,117,108,108]]
def Ea(s:bj): Bool:=Mg.contains s
def jb(s:bj): Bool:=decide (s≠[]) && decide (um s=s.length) && decide (s.length<=16) && !Ea s
def sr{p:UInt8->Bool}(s:bj): (s.takeWhile p).length<=s.length:=by
 induction s with
 | nil=>simp
 | cons c s ih=>simp only[gw];split<;>simp;omega
def OY(s:bj): um s<=s.length:=by
 unfold um;split
 ·simp
 split
 ·exact sr _
 simp
def WE{s:bj}(h:wO (s.getD 0 0)=true)(hs:s≠[]): 1<=um s:=by
 cases s with
 | nil=>exact absurd rfl hs
 | cons c r =>
   simp only[cC]at h;simp only[um,h,if_true,gw,Jg,Bool.true_or];simp
def WG(r b:bj)(i:Nat): (lC r b i).e=0->i+1<=(lC r b i).len/\(lC r b i).len<=i+r.length:=by
 fun_induction lC r b i<;>simp_all[PR.err]<;>omega
def Rc{s:bj}(h:(oT s).e=0): (oT s).len=(s.takeWhile fW).length:=by
 unfold oT at *;simp only at *;split at h
 ·simp[PR.err]at h
 rename_i h1;rw[aq h1];split at h
 ·simp[PR.err]at h
 rfl
def WH{s:bj}(h:(wC s).e=0): 1<=(wC s).len/\(wC s).len<=s.length:=by
 unfold wC at *;split at h
 ·rename_i m hm;have h1:=gk hm;have h2:=gC hm;refine⟨?_,(List.isPrefixOf_iff_prefix.1 h1).length_le⟩;show 1<=m.length;simp only[xu,fj,eH,or_false]at h2;rcases h2 with h|h|h|h|h|h|h|h|h|h|h|h|h|h|h|h<;>subst h<;>simp
 simp[PR.err]at h
def OZ{s:bj}(hs:s≠[])(h:(jU s).e=0): 1<=(jU s).len/\(jU s).len<=s.length:=by
 unfold jU at *;simp only at *;split at h
 ·rename_i h1;rw[aB h1];unfold FJ at *;split at h
  ·simp[PR.err]at h
  rename_i h2;rw[aq h2];exact⟨WE h1 hs,OY s⟩
 rename_i h1;rw[aq h1];split at h
 ·rename_i h2;rw[aB h2,Rc h];refine⟨?_,sr _⟩;cases s with
  | nil=>exact absurd rfl hs
  | cons c r=>simp only[cC]at h2;simp[gw,h2]
 rename_i h2;rw[aq h2];split at h
 ·rename_i h3;rw[aB h3];have:=WG _ _ _ h;have h4:1<=s.length:=by cases s with|nil=>exact absurd rfl hs|cons=>simp
  rw[e8]at this;omega
 rename_i h3;rw[aq h3];exact WH h
set_option maxRecDepth 4000
def aem(c:UInt8): ou .or .u8 (c.toNat:Int) 32=((c.toNat ||| 32:Nat):Int):=by
 rw[kO];have h:∀ n:Fin 256,jE .or .u8 (n.val:Int) 32=((n.val ||| 32:Nat):Int):=by decide +kernel
 exact h ⟨c.toNat,c.toNat_lt⟩
def Re(c:UInt8): (decide (97<=c.toNat ||| 32) && decide (c.toNat ||| 32<=122) || decide (c.toNat=95))=wO c:=by
 have h:∀ n:Fin 256,(decide (97<=n.val ||| 32) && decide (n.val ||| 32<=122) || decide (n.val=95))=((decide (97<=n.val) && decide (n.val<=122)) ||(decide (65<=n.val) && decide (n.val<=90)) || decide (n.val=95)):=by decide +kernel
 exact h ⟨c.toNat,c.toNat_lt⟩
def BM(c:UInt8): aA aM 171 [.int .u8 c.toNat] (.bool (wO c)):=by
 rw[<-Re];refine bB Nq ?_;intro Q aX aY aZ;repeat' first|refine aQ ?_|refine aR ?_ ?_<;>intro hw<;>try omega|fail
 all_goals refine bu ?_ rfl
 all_goals (rw[aem]at *;(refine bC AV.bool ?_;rw[cq];simp only[aem,aD,dD,au,beq_iff_eq,dR,decide_eq_false_iff_not,beq_eq_false_iff_ne,ne_eq,true_iff,false_iff,iff_true,iff_false,aN,Bool.true_eq_false,not_and,not_or]at *;omega))
def Eb(c:UInt8): aA aM 174 [.int .u8 c.toNat] (.bool (fW c)):=by
 refine bB ON ?_;intro Q aX aY aZ;repeat' first|refine aQ ?_|refine aR ?_ ?_<;>intro hw<;>try omega|fail
 all_goals refine bu ?_ rfl
 all_goals (refine bC AV.bool ?_;rw[cq];simp only[fW,aD,dD,au,beq_iff_eq,dR,decide_eq_false_iff_not,beq_eq_false_iff_ne,ne_eq,true_iff,false_iff,iff_true,iff_false,aN,Bool.true_eq_false,not_and,not_or]at *;omega)
def Ec{p:UInt8->Bool}{s:bj}{i:Nat}(hi:i<s.length): ((s.drop i).takeWhile p).length=if p (s.getD i 0)then 1+((s.drop (i+1)).takeWhile p).length else 0:=by
 rw[gy hi,gw,aj,aJ hi];simp only[bF];split<;>simp;omega
def Sh (fn : FuncId) (cap : List AV) (hcap : AV.cK cap = true) (p : UInt8 -> Bool) (h : ∀ c : UInt8, aA aM fn (.int .u8 c.toNat :: cap) (.bool (p c))) (s : bj) (hs : s.length <= 2^62) :
    aA aM 172 [.str s,.fn (.func fn) [] cap] (I (s.takeWhile p).length):=by
 refine bB T3 ?_ (by simp[AV.dU,AV.cK,hcap]);intro Q aX aY aZ;repeat' first|refine aQ ?_|refine aR ?_ ?_<;>intro hw<;>try omega|fail
 with_reducible refine dA [4,2,8,11] (fun i:Nat=>[(8,I i)]) (fun _=>[]) (fun i=>i<=s.length/\(s.takeWhile p).length=i+((s.drop i).takeWhile p).length) (fun i=>s.length-i) (0) ?_ ?_ ?_ ?_
 ·simp
 ·rfl
 ·exact at_
 rintro i r ⟨hi,hp⟩;repeat' first|refine aQ ?_|refine jS (h _) ?_|refine aR ?_ ?_<;>intro hw<;>try omega|fail
 ·rw[Ec ae]at hp;rw[hw]at hp;exact bu (by simp at hp;simp[hp]) rfl
 ·rw[Ec ae]at hp;rw[hw]at hp;refine⟨i+1,?_,?_,by first|rfl|(simp[go_sem];done),fU,at_⟩<;>(try dsimp only)
  ·simp at hp;exact⟨ae,ae⟩
  omega
 have:i=s.length:=ae;subst this;exact bu (by simp at hp;simp[hp]) rfl
def T6(c:UInt8): aA aM 173 [.int .u8 c.toNat] (.bool (Jg c)):=by
 refine bB Nr ?_;intro Q aX aY aZ;repeat' first|refine aQ ?_|refine jS (BM _) ?_|refine jS (Eb _) ?_|refine aR ?_ ?_<;>intro hw<;>try omega|fail
 all_goals refine bu ?_ rfl
 all_goals simp_all[Jg]
def O1(s:bj)(hs:s.length<=2^62): aA aM 97 [.str s] (I (um s)):=by
 refine bB Q7 ?_;intro Q aX aY aZ;cases s with
 | nil =>
   repeat' first|refine aQ ?_|refine aR ?_ ?_<;>intro hw<;>try omega|fail
   all_goals (refine bu ?_ ?_<;>rfl)
 | cons c r =>
   repeat' first|refine aQ ?_|refine jS (BM _) ?_|refine jS (Sh _ _ rfl Jg T6 _ hs) ?_|refine aR ?_ ?_<;>intro hw<;>try omega|fail
   all_goals refine bu ?_ rfl
   all_goals simp_all[um]
def O2(s:bj)(hs:s.length<=2^62): aA aM 456 [.str s] (Sg (FJ s)):=by
 refine bB Q_ ?_;intro Q aX aY aZ;have:=OY s;repeat' first|refine aQ ?_|refine jS (O1 _ hs) ?_|refine aR ?_ ?_<;>intro hw<;>try omega|fail
 all_goals refine c6 ?_ rfl
 all_goals (unfold FJ;split<;>first|omega|rfl)
def tK{p:UInt8->Bool}{s:bj}{i:Nat}(hi:i<(s.takeWhile p).length): s.getD i 0=(s.takeWhile p).getD i 0/\p (s.getD i 0)=true:=by
 induction s generalizing i with
 | nil=>simp at hi
 | cons c r ih =>
   simp only[gw]at hi |-;split at hi
   ·rename_i hc;simp only[hc,if_true];cases i with
    | zero=>simp[hc]
    | succ i=>simpa using ih (by simpa using hi)
   simp at hi
def Jh(s:bj)(hs:s.length<=2^62): aA aM 457 [.str s] (Sg (oT s)):=by
 refine bB Nv ?_;intro Q aX aY aZ;have hle:=sr (p:=fW) s;obtain⟨n,hn⟩:=gi ((s.takeWhile fW).length);have hrun:aA aM 172 [.str s,.fn (.func 174) [] []] (I n):=hn ▸ Sh _ [] rfl fW Eb _ hs
 have hd:∀ i,i<n->48<=(s.getD i 0).toNat/\(s.getD i 0).toNat<=57/\(s.takeWhile fW).drop i=s.getD i 0::(s.takeWhile fW).drop (i+1):=fun i hi=>by
  obtain⟨h1,h2⟩:=tK (s:=s) (p:=fW) (i:=i) ae;simp only[fW,aD,au]at h2;refine⟨h2.1,h2.2,?_⟩;rw[gy (by omega:i<(s.takeWhile fW).length),h1,aj,aJ (by omega:i<(s.takeWhile fW).length)];rfl
 repeat' first|refine aQ ?_|refine aR ?_ ?_<;>intro hw<;>try omega|fail
 ·refine c6 ?_ rfl;unfold oT;rw[hn];simp only;rw[aB (by constructor<;>omega)];rfl
 all_goals (
  have hno:¬ (1<n/\(s.getD 0 0).toNat=48):=ae;with_reducible refine dA [3,1,5,3,19,19] (fun p:Nat × Int=>[(19,I p.1),(5,I p.2)]) (fun _=>[.cells [I 0,.str [],I 0,I 0,I 0]]) (fun p=>p.1<=n/\0<=p.2/\p.2<=9223372036854775807/\tJ (s.takeWhile fW) 0=tJ ((s.takeWhile fW).drop p.1) p.2) (fun p=>n-p.1) (0,0) ?_ ?_ ?_ ?_
  ·simp
  ·rfl
  ·exact at_
  ·rintro⟨i,v⟩ r ⟨hi,hv,WI,hf⟩;simp only at hi hv WI hf;by_cases hin:i<n
   ·obtain⟨d1,d2,d3⟩:=hd i hin;rw[d3]at hf;simp only[tJ]at hf;repeat' first|refine aQ ?_|refine aR ?_ ?_<;>intro hw<;>try omega|fail
    ·rw[aB hw]at hf;refine c6 ?_ rfl;unfold oT;rw[hn];simp only;rw[aq hno,hf];rfl
    rw[aq ae]at hf;refine⟨(i+1,v*10+(((s.getD i 0).toNat:Int)-48)),?_,?_,by first|rfl|(simp[go_sem];done),fU,at_⟩<;>(try dsimp only)
    ·exact⟨ae,ae,ae,hf⟩
    omega
   ·have:i=n:=ae;subst this;rw[jf ae]at hf;repeat' first|refine aQ ?_|refine aR ?_ ?_<;>intro hw<;>try omega|fail
    ·refine c6 ?_ rfl;unfold oT;rw[hn];simp only;rw[aq hno,hf];rfl)
def pS{l:bj}{i:Nat}(h:i<l.length): l.drop i=l.getD i 0::l.drop (i+1):=by
 rw[gy h,aj,aJ h];rfl
abbrev jH(s:bj): List AV:=s.map fun b=>AV.int .u8 b.toNat
def Zi(s:bj)(h0:s≠[])(hs:s.length<=2^30): aA aM 458 [.str s] (Sg (lC (s.drop 1) [] 1)):=by
 refine bB Ra ?_;intro Q aX aY aZ;have hl:1<=s.length:=by cases s with|nil=>exact absurd rfl h0|cons=>simp
 generalize hT:lC (s.drop 1) [] 1=T at *;repeat' first|refine aQ ?_|refine aR ?_ ?_<;>intro hw<;>try omega|fail
 with_reducible refine dA [3,67] (fun p:Nat × bj=>[(5,I p.1),(4,.own E1 1 p.2.length 0 p.2.length)]) (fun p=>[.cells [I 0,.str [],I 0,I 0,I 0],.vec E1 (jH p.2)]) (fun p=>1<=p.1/\p.1<=s.length/\p.2.length<=p.1/\T=lC (s.drop p.1) p.2 p.1) (fun p=>s.length-p.1) ((1,[])) ?_ ?_ ?_ ?_
 ·exact⟨aV _,hl,aT,hT.symm⟩
 ·rfl
 ·exact at_
 rintro⟨i,b⟩ r ⟨IC,hi,hb,hf⟩;simp only at IC hi hb hf;by_cases hin:i<s.length
 ·rw[pS hin]at hf;repeat' first|refine aQ ?_|refine aR ?_ ?_<;>intro hw<;>try omega|fail
  ·refine c6 ?_ rfl;rw[hf,lR,aB ae,aB ae];rfl
  ·refine c6 ?_ rfl;rw[hf,lR,aB ae,aq ae];simp
  ·refine c6 ?_ rfl;rw[hf,lR,aq ae,aB ae,pS ae];simp only;rw[aq ae];rfl
  ·rw[lR,aq ae,aB ae,pS ae]at hf;try dsimp only at hf
   rw[aB ae]at hf;refine⟨(i+2,b++[s.getD (i+1) 0]),?_,?_,by first|rfl|(simp[go_sem];done),fU,at_⟩<;>(try dsimp only)
   ·simp only[aG,aE,a_];exact⟨ae,ae,ae,hf⟩
   omega
  ·rw[lR,aq ae,aB ae,pS ae]at hf;try dsimp only at hf
   rw[aB ae]at hf;refine⟨(i+2,b++[s.getD (i+1) 0]),?_,?_,by first|rfl|(simp[go_sem];done),fU,at_⟩<;>(try dsimp only)
   ·simp only[aG,aE,a_];exact⟨ae,ae,ae,hf⟩
   omega
  ·refine c6 ?_ rfl;rw[hf,lR,aq ae,aB ae,jf ae];rfl
  ·refine c6 ?_ rfl;rw[hf,lR,aq ae,aq ae,aq (by simp only[nM,aD,au];omega)];rfl
  ·rw[lR,aq ae,aq ae,aB (by simp only[nM,aD,au];omega)]at hf;refine⟨(i+1,b++[s.getD i 0]),?_,?_,by first|rfl|(simp[go_sem];done),fU,at_⟩<;>(try dsimp only)
   ·simp only[aG,aE,a_];exact⟨ae,ae,ae,hf⟩
   omega
  refine c6 ?_ rfl;rw[hf,lR,aq ae,aq ae,aq (by simp only[nM,aD,au];omega)];rfl
 rw[jf ae]at hf;repeat' first|refine aQ ?_|refine aR ?_ ?_<;>intro hw<;>try omega|fail
 all_goals (refine c6 ?_ rfl;rw[hf];simp[lC,PR.err])
def Ed(s p:bj): aA aM 231 [.str s,.str p] (.bool (p.isPrefixOf s)):=by
 refine bB qO ?_;intro Q aX aY aZ;repeat' first|refine aQ ?_|refine aR ?_ ?_<;>intro hw<;>try omega|fail
 all_goals refine bu ?_ rfl
 all_goals refine bC AV.bool ?_
 ·rw[cq,beq_iff_eq,List.isPrefixOf_iff_prefix,List.prefix_iff_eq_take];exact eq_comm
 symm;rw[Bool.eq_false_iff];intro h
 have:=(List.isPrefixOf_iff_prefix.1 h).length_le;omega
def strings_HasPrefix(s p:bj): aA aM 148 [.str s,.str p] (.bool (p.isPrefixOf s)):=by
 refine bB BH ?_;intro Q aX aY aZ;repeat' first|refine aQ ?_|refine jS (Ed _ _) ?_|refine aR ?_ ?_<;>intro hw<;>try omega|fail
 all_goals exact bu rfl rfl
def Mh: aA aM 479 [] (ji xu):=by
 refine bB OS ?_;intro Q aX aY aZ;repeat' first|refine aQ ?_|refine aR ?_ ?_<;>intro hw<;>try omega|fail
 all_goals exact NN (View.weak _ _ _ (by simp[AV.dU,AV.cK]))
def lN{α : Type}(p : α->Bool)(l:List α): Int:=match l.findIdx? p with
 | some i=>i
 | none=> -1
def pT{α : Type}[Inhabited α]{p : α->Bool}{l:List α}(h:∀ k,k<l.length->p (l.getD k default)=false): lN p l = -1:=by
 have:l.findIdx? p=none:=by
  rw[List.findIdx?_eq_none_iff];intro x hx;obtain⟨k,hk,rfl⟩:=bY hx;have:=h k hk;rwa[aj,aJ hk]at this
 simp[lN,this]
def tL{α : Type}[Inhabited α]{p : α->Bool}{l:List α}{i:Nat}(hi:i<l.length)(h:∀ k,k<i->p (l.getD k default)=false)(hp:p (l.getD i default)=true): lN p l=i:=by
 have:l.findIdx? p=some i:=by
  rw[List.findIdx?_eq_some_iff_getElem];refine⟨hi,?_,fun j hj=>?_⟩
  ·rwa[aj,aJ hi]at hp
  have:=h j hj;rw[aj,aJ ae]at this;simpa using this
 simp[lN,this]
def yj (fn : FuncId) (cap : List AV) (hcap : AV.cK cap = true) (p : bj -> Bool) (l : List bj) (h : ∀ x ∈ l, aA aM fn (.str x :: cap) (.bool (p x))) (hl : l.length <= 2^62) :
    aA aM 309 [ji l,.fn (.func fn) [] cap] (I (lN p l)):=by
 refine bB vu ?_ (by simp[AV.dU,AV.cK,hcap,D9]);intro Q aX aY aZ;repeat' first|refine aQ ?_|refine aR ?_ ?_<;>intro hw<;>try omega|fail
 with_reducible refine dA [4,2,8,11] (fun i:Nat=>[(8,I i)]) (fun _=>[]) (fun i=>i<=l.length/\ ∀ k,k<i->p (l.getD k default)=false) (fun i=>l.length-i) (0) ?_ ?_ ?_ ?_
 ·simp
 ·rfl
 ·exact at_
 rintro i r ⟨hi,hp⟩;by_cases hin:i<l.length
 ·have hx:=h _ (dh hin);repeat' first|refine aQ ?_|refine aR ?_ ?_<;>intro hw<;>try omega|fail
  ·refine bu ?_ rfl;refine bC I ?_;exact(tL hin hp hw).symm
  refine⟨i+1,?_,?_,by first|rfl|(simp[go_sem];done),fU,at_⟩<;>(try dsimp only)
  ·refine⟨ae,fun k hk=>?_⟩;by_cases lZ:k<i
   ·exact hp k lZ
   have:k=i:=ae;subst this;exact hw
  omega
 repeat' first|refine aQ ?_|refine aR ?_ ?_<;>intro hw<;>try omega|fail
 refine bu ?_ rfl;refine bC I ?_;exact(pT fun k hk=>hp k ae).symm
def tM{α : Type}[Inhabited α](p : α->Bool): ∀ l:List α,(lN p l = -1/\l.find? p=none)\/ ∃ i:Nat,i<l.length/\lN p l=i/\l.find? p=some (l.getD i default)
 | []=> .inl ⟨rfl,rfl⟩
 | x :: l => by
   by_cases hp:p x=true
   ·exact .inr ⟨0,aT,by simp[lN,List.findIdx?_cons,hp],by simp[hp]⟩
   rcases tM p l with⟨h1,h2⟩|⟨i,h1,h2,h3⟩
   ·left;simp only[lN]at h1;refine⟨?_,by simp[hp,h2]⟩;cases h:l.findIdx? p with
    | none=>simp[lN,List.findIdx?_cons,hp,h]
    | some k=>rw[h]at h1;simp at h1
   right;refine⟨i+1,by simp;omega,?_,by simp[hp,h3]⟩;simp only[lN]at h2;cases h:l.findIdx? p with
   | none=>rw[h]at h2;simp at h2
   | some k=>rw[h]at h2;simp at h2;simp[lN,List.findIdx?_cons,hp,h];omega
def T7(m s:bj): aA aM 480 [.str m,.cN E1 (.str s) 0] (.bool (m.isPrefixOf s)):=by
 refine bB Nx ?_;intro Q aX aY aZ;repeat' first|refine aQ ?_|refine jS (strings_HasPrefix _ _) ?_|refine aR ?_ ?_<;>intro hw<;>try omega|fail
 all_goals exact bu rfl rfl
def Zj(s:bj): aA aM 459 [.str s] (Sg (wC s)):=by
 have hc:=yj 480 [.cN E1 (.str s) 0] rfl (fun m=>m.isPrefixOf s) xu (fun m _=>T7 m s) dV;unfold wC;rcases tM (fun m:bj=>m.isPrefixOf s) xu with⟨h1,h2⟩|⟨i,hi,h1,h2⟩
 ·rw[h1]at hc;rw[h2];refine bB GJ ?_;intro Q aX aY aZ;repeat' first|refine aQ ?_|refine jS Mh ?_|refine cv_ hc ?_|refine aR ?_ ?_<;>intro hw<;>try omega|fail
  all_goals (refine c6 ?_ rfl;rfl)
 rw[h1]at hc;rw[h2];have Cx:i<16:=hi;have hl:(xu.map fG).length=16:=rfl;refine bB GJ ?_;intro Q aX aY aZ;repeat' first|refine aQ ?_|refine jS Mh ?_|refine cv_ hc ?_|refine aR ?_ ?_<;>intro hw<;>try omega|fail
 all_goals (refine c6 ?_ rfl;rfl)
def Zk(s:bj)(h0:s≠[])(hs:s.length<=2^30): aA aM 432 [.str s] (Sg (jU s)):=by
 refine bB Q8 ?_;intro Q aX aY aZ;have hl:1<=s.length:=by cases s with|nil=>exact absurd rfl h0|cons=>simp
 repeat' first|refine aQ ?_|refine jS (BM _) ?_|refine jS (Eb _) ?_|with_reducible refine Ag (O2 _ ae) ?_|with_reducible refine Ah (O2 _ ae) ?_|with_reducible refine Ag (Jh _ ae) ?_|with_reducible refine Ah (Jh _ ae) ?_|refine jS (Zi _ h0 hs) ?_|refine jS (Zj _) ?_|refine aR ?_ ?_<;>intro hw<;>try omega|fail
 all_goals refine c6 ?_ rfl
 all_goals (unfold jU;dsimp only;first
  |(rw[aB (by assumption)]<;>rfl)
  |(rw[aq (ne_true_of_eq_false (by assumption)),aB (by assumption)]<;>rfl)
  |(rw[aq (ne_true_of_eq_false (by assumption)),aq (ne_true_of_eq_false (by assumption)),aB ae]<;>rfl)
  |(rw[aq (ne_true_of_eq_false (by assumption)),aq (ne_true_of_eq_false (by assumption)),aq ae]<;>rfl))
def O4(s:bj): aA aM 98 [.str s] (.bool (Ea s)):=by
 refine bB I6 ?_;intro Q aX aY aZ;repeat' first|refine aQ ?_|refine aR ?_ ?_<;>intro hw<;>try omega|fail
 all_goals refine bu ?_ rfl
 all_goals (refine bC AV.bool ?_;simp_all[Ea,Mg])
def rB(s:bj)(hs:s.length<=2^62): aA aM 45 [.str s] (.bool (jb s)):=by
 refine bB Q6 ?_;intro Q aX aY aZ;repeat' first|refine aQ ?_|refine jS (O1 _ hs) ?_|refine jS (O4 _) ?_|refine aR ?_ ?_<;>intro hw<;>try omega|fail
 all_goals refine bu ?_ rfl
 all_goals (refine bC AV.bool ?_;simp[jb];try simp_all;try omega)
def T8(p:List Tok × Int × Int): AV:= .bg [uk p.1,I p.2.1,I p.2.2]
attribute [go_sem] T8
def Zl(f pos:Nat)(acc:List Tok): rA f [] pos acc=(acc,0,0):=by cases f<;>rfl
def uP (f pos : Nat) (acc : List Tok) (c : UInt8) (r : bj) : rA (f + 1) (c :: r) pos acc =
    if c.toNat=32 then rA f r (pos+1) acc
    else if(jU (c::r)).e=0 then rA f ((c::r).drop (jU (c::r)).len) (pos+(jU (c::r)).len) (acc++[⟨(jU (c::r)).kind,(jU (c::r)).s,(jU (c::r)).n,pos⟩])
    else([],pos,(jU (c::r)).e):=rfl
def Si(s:bj)(hs:s.length<=2^30): aA aM 393 [.str s] (T8 (c7 s)):=by
 unfold c7;by_cases hbig:200<s.length
 ·rw[aB hbig];refine bB Jb ?_;intro Q aX aY aZ;repeat' first|refine aQ ?_|refine aR ?_ ?_<;>intro hw<;>try omega|fail
  refine g_ ?_;exact vw_
 rw[aq hbig];generalize hT:rA (s.length+1) s 0 []=T;refine bB Jb ?_;intro Q aX aY aZ;repeat' first|refine aQ ?_|refine aR ?_ ?_<;>intro hw<;>try omega|fail
 with_reducible refine dA [2,7,12,39] (fun p:Nat × List Tok × List bG=>[(6,I p.1),(5,.own ET 0 p.2.1.length 0 p.2.1.length)]) (fun p=> .vec ET (p.2.1.map rz)::p.2.2) (fun p=>p.1<=s.length/\p.2.1.length<=p.1/\ ∃ f,s.length-p.1<f/\T=rA f (s.drop p.1) p.1 p.2.1) (fun p=>s.length-p.1) (0,[],[]) ?_ ?_ ?_ ?_
 ·exact⟨aT,aT,s.length+1,ae,hT.symm⟩
 ·rfl
 ·exact at_
 rintro⟨pos,acc,H⟩ r ⟨h1,h2,f,h3,h4⟩;dsimp only at h1 h2 h3 h4;repeat' first|refine aQ ?_|refine aR ?_ ?_<;>intro hw<;>try omega|fail
 with_reducible refine dA [6,1,12,12] (fun p:Nat=>[(6,I p)]) (fun _=> .vec ET (acc.map rz)::H) (fun p=>pos<=p/\p<=s.length/\ ∃ f,s.length-p<f/\T=rA f (s.drop p) p acc) (fun p=>s.length-p) pos ?_ ?_ ?_ ?_
 ·exact⟨aV _,h1,f,h3,h4⟩
 ·rfl
 ·exact at_
 clear h3 h4;clear f;rintro p r2 ⟨k0,k1,f,k2,k3⟩;obtain⟨f,rfl⟩:∃ g,f=g+1:=⟨f-1,ae⟩;by_cases hp:p<s.length
 ·rw[pS hp,uP]at k3;have hne:s.drop p≠[]:=by rw[pS hp];simp
  have hlen:(s.drop p).length<=2^30:=by rw[e8];omega
  rw[<-pS hp]at k3;have hnx:=Zk (s.drop p) hne hlen;have hol:=OZ hne;rw[e8]at hol;generalize jU (s.drop p)=q at *;obtain⟨qk,qs,qn,ql,qe⟩:=q;dsimp only at k3 hol;repeat' first|refine aQ ?_|refine aR ?_ ?_<;>intro hw<;>try omega|fail
  ·rw[aB ae]at k3;refine⟨p+1,?_,?_,by first|rfl|(simp[go_sem];done),fU,at_⟩<;>(try dsimp only)
   ·exact⟨ae,ae,f,ae,k3⟩
   omega
  ·rw[aq ae,aq hw]at k3;refine g_ ?_;rw[k3];exact bR.cons (View.aP _) (bR.refl rfl)
  rw[aq ae,aB hw,List.drop_drop]at k3;refine⟨(p+ql,acc++[⟨qk,qs,qn,p⟩],H++[.cells [I qk,.str qs,I qn,I p,I ql]]),?_,?_,by first|rfl|(simp[go_sem];done),fU,at_⟩<;>(try dsimp only)
  ·exact⟨ae,by simp;omega,f,ae,k3⟩
  omega
 rw[jf ae,Zl]at k3;repeat' first|refine aQ ?_|refine aR ?_ ?_<;>intro hw<;>try omega|fail
 refine g_ ?_;rw[k3];exact bR.cons (View.vec rfl aT aT (OW _)) (bR.refl rfl)
def tN{p:UInt8->Bool}: ∀ {s:bj} {i:Nat},i<=(s.takeWhile p).length->i<s.length->p (s.getD i 0)=true->i<(s.takeWhile p).length
 | [],i,_,h,_=>by simp at h
 | c::r,0,_,_,hp=>by simp only[cC]at hp;simp[gw,hp]
 | c :: r, i + 1, h1, h2, hp => by
   simp only[gu]at hp;simp only[gw]at h1 |-;split at h1
   ·simp only[aE]at h1 h2 |-;have:=tN (p:=p) (s:=r) (i:=i) ae ae hp;split<;>simp_all
   simp at h1
def BN(s:bj)(i:Nat)(v:Int)(over:Bool): Prop:=i<=(s.takeWhile fW).length/\(over=false->tJ (s.takeWhile fW) 0=tJ ((s.takeWhile fW).drop i) v)/\(over=true->tJ (s.takeWhile fW) 0=none)
def BN.step {s : bj} {i : Nat} {v : Int} (h : BN s i v false) (hi : i < s.length) (hd : fW (s.getD i 0) = true) :
    (v>(9223372036854775807-(((s.getD i 0).toNat:Int)-48)) / 10->BN s (i+1) v true) /\
    (¬ v>(9223372036854775807-(((s.getD i 0).toNat:Int)-48)) / 10->BN s (i+1) (v*10+(((s.getD i 0).toNat:Int)-48)) false):=by
 obtain⟨h1,h2,_⟩:=h;have hlt:i<(s.takeWhile fW).length:=tN h1 hi hd;have h3:=tK hlt;have h4:(s.takeWhile fW).drop i=s.getD i 0::(s.takeWhile fW).drop (i+1):=by rw[pS hlt,<-h3.1]
 rw[h4]at h2;simp only[tJ]at h2;refine⟨fun hv=>⟨ae,fun h=>by simp at h,fun _=>?_⟩,fun hv=>⟨ae,fun _=>?_,fun h=>by simp at h⟩⟩
 ·rw[h2 trivial,aB hv]
 rw[h2 trivial,aq hv]
def BN.over{s:bj}{i:Nat}{v:Int}(h:BN s i v true)(hi:i<s.length)(hd:fW (s.getD i 0)=true): BN s (i+1) v true :=
 ⟨tN h.1 hi hd,fun h=>by simp at h,h.2.2⟩
def BN.fin{s:bj}{i:Nat}{v:Int}{o:Bool}(h:BN s i v o)(hi:i<s.length->fW (s.getD i 0)=false)(hl:i<=s.length): (s.takeWhile fW).length=i/\tJ (s.takeWhile fW) 0=if o then none else some v:=by
 have hlen:(s.takeWhile fW).length=i:=by
  have h1:=h.1;apply Nat.le_antisymm _ h1;apply iw;intro hlt;have h3:=(tK hlt).2;have:i<s.length:=bU hlt (sr s);rw[hi this]at h3;cases h3
 refine⟨hlen,?_⟩;cases o with
 | false=>rw[h.2.1 rfl,jf ae];rfl
 | true=>rw[h.2.2 rfl];rfl
def Au{α : Type}[Inhabited α]{p : α->Bool}{l:List α}{i:Nat}(hi:i<l.length)(h:∀ k,k<i->p (l.getD k default)=false)(hp:p (l.getD i default)=true): l.find? p=some (l.getD i default):=by
 have h1:=tL hi h hp;rcases tM p l with⟨h2,h3⟩|⟨j,h2,h3,h4⟩
 ·omega
 have:j=i:=ae;subst this;exact h4
def xw{α : Type}[Inhabited α]{p : α->Bool}{l:List α}(h:∀ k,k<l.length->p (l.getD k default)=false): l.find? p=none:=by
 have h1:=pT h;rcases tM p l with⟨h2,h3⟩|⟨j,h2,h3,h4⟩
 ·exact h3
 omega
def WJ{α : Type}[Inhabited α]{p : α->Bool}{l:List α}{i:Nat}(hi:i<l.length)(hp:p (l.getD i default)=true): l.any p=true:=by
 rw[List.any_eq_true];exact⟨_,dh hi,hp⟩
def Sj{α : Type}[Inhabited α]{p : α->Bool}{l:List α}(h:∀ k,k<l.length->p (l.getD k default)=false): l.any p=false:=by
 rw[List.any_eq_false];intro x hx;obtain⟨k,hk,rfl⟩:=bY hx;have:=h k hk;rw[aj,aJ hk,bF]at this;simp[this]
def cS{q:Nat->Prop}{i:Nat}(h:∀ k,k<i->q k)(hi:q i): ∀ k,k<i+1->q k:=fun k hk=>by
 by_cases h2:k<i
 ·exact h k h2
 have:k=i:=ae;subst this;exact hi
def O5{s:bj}{p:UInt8->Bool}{i:Nat}(hi:i<s.length)(hp:p (s.getD i 0)=false): s.all p=false:=by
 rw[List.all_eq_false];refine⟨s.getD i 0,?_,ne_true_of_eq_false hp⟩;rw[aj,aJ hi];exact c9 hi
def ab3{s:bj}{p:UInt8->Bool}(h:∀ k,k<s.length->p (s.getD k 0)=true): s.all p=true:=by
 rw[bt];intro x hx;obtain⟨k,hk,rfl⟩:=bY hx;have:=h k hk;rwa[aj,aJ hk]at this
def BO(c:UInt8): nM c=true↔32<=c.toNat/\c.toNat<=126:=by simp[nM]
def zE(c:UInt8): nM c=false↔c.toNat<32\/126<c.toNat:=by
 rw[<-gN,BO];omega
def Rf(s:bj): aA aM 354 [.str s] (.bool (nN s)):=by
 refine bB Kz ?_;intro Q aX aY aZ;repeat' first|refine aQ ?_|refine aR ?_ ?_<;>intro hw<;>try omega|fail
 ·refine bu ?_ rfl;simp only[nN];rw[decide_eq_false ae,iy]
 with_reducible refine dA [2,1,4,1,10,9] (fun i:Nat=>[]) (fun i=>[.fZ s i]) (fun i=>i<=s.length/\ ∀ k,k<i->nM (s.getD k 0)=true) (fun i=>s.length-i) 0 ?_ ?_ ?_ ?_
 ·simp
 ·rfl
 ·exact at_
 rintro i r ⟨h1,h2⟩;by_cases hi:i<s.length
 ·by_cases ha:(s.getD i 0).toNat<128
  ·repeat' first|refine aQ ?_|refine aR ?_ ?_<;>intro hw<;>try omega|fail
   ·refine bu ?_ rfl;simp only[nN];rw[O5 (p:=nM) hi ((zE _).2 (.inr ae)),Bool.and_false]
   ·refine⟨i+1,?_,?_,by first|rfl|(simp[go_sem];done),fU,at_⟩<;>(try dsimp only)
    ·exact⟨ae,cS h2 ((BO _).2 ⟨ae,ae⟩)⟩
    omega
   refine bu ?_ rfl;simp only[nN];rw[O5 (p:=nM) hi ((zE _).2 (.inl ae)),Bool.and_false]
  have hw2:=Q5 hi ae;repeat' first|refine aQ ?_|refine aR ?_ ?_<;>intro hw<;>try omega|fail
  all_goals refine bu ?_ rfl
  all_goals (simp only[nN];rw[O5 (p:=nM) hi ((zE _).2 (.inr ae)),Bool.and_false])
 have:i=s.length:=ae;repeat' first|refine aQ ?_|refine aR ?_ ?_<;>intro hw<;>try omega|fail
 refine bu ?_ rfl;simp only[nN];rw[fT ae,ab3 (fun k hk=>h2 k ae)];rfl
def O6(n:Int)(s:bj): gZ ⟨0,n,s⟩=(decide (n=0) && decide (s=[])):=rfl
def O7(n:Int)(s:bj): gZ ⟨1,n,s⟩=decide (s=[]):=rfl
def O8(n:Int)(s:bj): gZ ⟨2,n,s⟩=(decide (n=0) && nN s):=rfl
def O9(n:Int)(s:bj): gZ ⟨3,n,s⟩=(decide (s=[]) && (decide (n=0) || decide (n=1))):=rfl
def Zm(k n:Int)(s:bj)(h0:k≠0)(h1:k≠1)(h2:k≠2)(h3:k≠3): gZ ⟨k,n,s⟩=false:=by
 simp[gZ,h0,h1,h2,h3]
def nO(b:Bool): Int:=if b then 0 else 2
def T9(x:BitVec 64): x &&& ~~~ 1#64=0#64↔x=0#64\/x=1#64:=by
 constructor
 ·intro h
  have hb:∀ i,1<=i->i<64->x.getLsbD i=false:=fun i h1 h2=>by
   have:=bC (fun y=>BitVec.getLsbD y i) h
   have h3:(1#64).getLsbD i=false:=by
    rw[BitVec.getLsbD_one];simp;omega
   simp only[BitVec.getLsbD_and,BitVec.getLsbD_not,h3,h2,decide_true,gY,Bool.and_true,BitVec.getLsbD_zero]at this;exact this
  cases h0:x.getLsbD 0 with
  | false =>
    left;apply BitVec.eq_of_getLsbD_eq;intro i hi;by_cases hz:i=0
    ·subst hz;rw[h0];rfl
    rw[hb i ae hi];simp
  | true =>
    right;apply BitVec.eq_of_getLsbD_eq;intro i hi;by_cases hz:i=0
    ·subst hz;rw[h0];rfl
    rw[hb i ae hi,BitVec.getLsbD_one];simp[hz]
 rintro(rfl|rfl)<;>decide
def Rg(m:Nat)(h:m<18446744073709551616): IntKind.wrap .i64 m=0↔m=0:=by
 simp only[IntKind.wrap,IntKind.bits,IntKind.signed];simp;omega
def alh(n:Int)(h : -9223372036854775808<=n)(h':n<=9223372036854775807): ou .andNot .i64 n 1=0↔n=0\/n=1:=by
 rw[kO];show IntKind.wrap .i64 ((BitVec.ofInt 64 n &&& ~~~ BitVec.ofInt 64 1).toNat:Int)=0↔_;rw[Rg _ (BitVec.isLt _)]
 have h1:(BitVec.ofInt 64 n &&& ~~~ BitVec.ofInt 64 1).toNat=0↔BitVec.ofInt 64 n &&& ~~~ 1#64=0#64:=by
  rw[<-BitVec.toNat_inj];rfl
 rw[h1,T9,<-BitVec.toNat_inj,<-BitVec.toNat_inj];simp only[BitVec.toNat_ofInt,BitVec.toNat_ofNat];omega
def uo(k n:Int)(s:bj)(h : -9223372036854775808<=n)(h':n<=9223372036854775807): aA aM 274 [.agg [I k,I n,.str s]] (I (nO (gZ ⟨k,n,s⟩))):=by
 refine bB Kv ?_;intro Q aX aY aZ;repeat' first|refine aQ ?_|refine jS (Rf _) ?_|refine aR ?_ ?_<;>intro hw<;>try omega|fail
 all_goals refine bu ?_ rfl
 all_goals (refine congrArg I ?_;unfold nO;try rw[alh n h h']at hw)
 all_goals (try subst k)
 all_goals first
  |(rw[aq (by rw[O6];simp_all)];done)
  |(rw[aB (by rw[O6];simp_all)];done)
  |(rw[aq (by rw[O7];simp_all)];done)
  |(rw[aB (by rw[O7];simp_all)];done)
  |(rw[aq (by rw[O8];simp_all)];done)
  |(rw[aB (by rw[O8];simp_all)];done)
  |(rw[aq (by rw[O9];simp_all)];done)
  |(rw[aB (by rw[O9];simp_all)];done)
  |(rw[aq (by rw[Zm _ _ _ (by assumption) (by assumption) (by assumption) (by assumption)];simp)])
structure Ee where
 op:Int
 sign:bj
 level:Int
deriving Inhabited,DecidableEq
def O_(b:Ee): AV:= .agg [I b.op,.str b.sign,I b.level]
attribute [go_sem] O_
def kr: List Ee:=[⟨4,[43],4⟩,⟨5,[45],4⟩,⟨6,[42],5⟩,⟨7,[47],5⟩,⟨8,[61],3⟩,⟨9,[33,61],3⟩,⟨10,[60],3⟩,⟨11,[60,61],3⟩,⟨12,[62],3⟩,⟨13,[62,61],3⟩,⟨14,[97,110,100],2⟩,⟨15,[111,114],1⟩]
def ey(op:Int): Ee:=(kr.find? fun b=>b.op==op).getD ⟨0,[],0⟩
def lp(op:Int): Int:=if op=1\/op=2 then 0 else if op=3 then 1 else if op=16 then 3 else if 0<(ey op).level then 2 else -1
def eU(op:Int): Int:=if op=16 then 0 else if op=3 then 6 else if op=1\/op=2 then 7 else(ey op).level
def T_(op:Int)(h:op<4\/15<op): ey op=⟨0,[],0⟩:=by
 have:kr.find? (fun b=>b.op==op)=none:=by
  rw[fJ];intro b hb;simp only[kr,fj,eH,or_false]at hb;rcases hb with rfl|rfl|rfl|rfl|rfl|rfl|rfl|rfl|rfl|rfl|rfl|rfl<;>(simp only[beq_iff_eq];omega)
 simp[ey,this]
def Ua(op:Int)(h1:4<=op)(h2:op<=15): (ey op).sign≠[]/\0<(ey op).level:=by
 have:op=4\/op=5\/op=6\/op=7\/op=8\/op=9\/op=10\/op=11\/op=12\/op=13\/op=14\/op=15:=ae;rcases this with rfl|rfl|rfl|rfl|rfl|rfl|rfl|rfl|rfl|rfl|rfl|rfl<;>decide
def yO: aA aM 359 [] (.aH false ⟨true,3⟩ (kr.map O_)):=by
 refine bB D5 ?_;intro Q aX aY aZ;repeat' first|refine aQ ?_|refine aR ?_ ?_<;>intro hw<;>try omega|fail
 all_goals exact NN (View.weak _ _ _ aT)
def zF(op:Int): aA aM 280 [I op] (O_ (ey op)):=by
 refine bB Kw ?_;intro Q aX aY aZ;have hl:kr.length=12:=rfl;repeat' first|refine aQ ?_|refine jS yO ?_|refine aR ?_ ?_<;>intro hw<;>try omega|fail
 with_reducible refine dA [4,1,7,10] (fun p:Nat × List bG=>[(7,I p.1)]) (fun p=> .cells [I 0,.str [],I 0]::p.2) (fun p=>p.1<=12/\ ∀ k,k<p.1->((kr.getD k default).op==op)=false) (fun p=>12-p.1) (0,[]) ?_ ?_ ?_ ?_
 ·simp
 ·rfl
 ·exact at_
 rintro⟨i,H⟩ r ⟨h1,h2⟩;dsimp only at h1 h2;by_cases hi:i<12
 ·repeat' first|refine aQ ?_|refine aR ?_ ?_<;>intro hw<;>try omega|fail
  ·refine bu ?_ rfl
   have:ey op=kr.getD i default:=by
    unfold ey;rw[Au (p:=fun b:Ee=>b.op==op) hi h2 (by simpa using hw)];rfl
   rw[this];try rfl
  refine⟨(i+1,H++[.cells [I (kr.getD i default).op,.str (kr.getD i default).sign,I (kr.getD i default).level]]),?_,?_,by first|rfl|(simp[go_sem];done),fU,at_⟩<;>(try dsimp only)
  ·exact⟨ae,cS h2 (by simpa using hw)⟩
  omega
 repeat' first|refine aQ ?_|refine aR ?_ ?_<;>intro hw<;>try omega|fail
 refine bu ?_ rfl
 have:ey op=⟨0,[],0⟩:=by
  unfold ey;rw[xw (p:=fun b:Ee=>b.op==op) (fun k hk=>h2 k ae)];rfl
 rw[this];try rfl
def Pb(op:Int): aA aM 273 [I op] (I (lp op)):=by
 refine bB I_ ?_;intro Q aX aY aZ;repeat' first|refine aQ ?_|refine jS (zF _) ?_|refine aR ?_ ?_<;>intro hw<;>try omega|fail
 all_goals refine bu ?_ rfl
 all_goals (refine congrArg I ?_;unfold lp)
 all_goals first|(simp_all;done)
mutual
def lD: Expr->Nat
 | .mk _ _ _ l=>lS l+1
def lS: List Expr->Nat
 | []=>0
 | x::r=>Nat.max (lD x) (lS r)
end
mutual
def gW: Expr->Nat
 | .mk _ _ _ l=>mo l+1
def mo: List Expr->Nat
 | []=>0
 | x::r=>gW x+mo r
end
def FK(l:List Expr): l.length<=mo l:=by
 induction l with
 | nil=>simp[mo]
 | cons x r ih=>cases x;simp only[mo,gW,List.length_cons];omega
def FL{l:List Expr}{x:Expr}(h:x ∈ l): gW x<=mo l:=by
 induction l with
 | nil=>cases h
 | cons y r ih =>
   simp only[mo];rcases List.mem_cons.1 h with rfl|h
   ·omega
   have:=ih h;omega
def ab4: ∀ x,lD x<=gW x:=by
 intro x
 induction x using Expr.ind with
 | h op v s l ih =>
   simp only[lD,gW]
   have:lS l<=mo l:=by
    clear op v s
    induction l with
    | nil=>simp[lS]
    | cons y r Cy =>
      simp only[lS,mo];have h1:=ih y aT;have h2:=Cy (fun z hz=>ih z (cP _ hz));exact Nat.max_le.2 ⟨ae,ae⟩
   omega
def Ub(l:List Expr)(x:Expr): lS (l++[x])=Nat.max (lS l) (lD x):=by
 induction l with
 | nil=>simp only[gj,lS];exact Nat.max_comm _ _
 | cons y r ih=>simp only[gO,lS,ih];exact(Nat.max_assoc _ _ _).symm
def take_succ{α : Type}[Inhabited α]{l:List α}{k:Nat}(h:k<l.length): l.take (k+1)=l.take k++[l.getD k default]:=by
 rw[List.take_succ_eq_append_getElem h,aj,aJ h];rfl
def Uc{l:List Expr}{k:Nat}(h:k<l.length): lS (l.take (k+1))=Nat.max (lS (l.take k)) (lD (l.getD k default)):=by
 rw[take_succ h,Ub]
def Pc(l:List Expr)(k:Nat): lS (l.take k)<=mo l:=by
 have:∀ l:List Expr,lS l<=mo l:=fun l=>by
  have:=ab4 (.mk 0 default [] l);simp only[lD,gW]at this;omega
 refine bS (this _) ?_
 induction l generalizing k with
 | nil=>simp[mo]
 | cons x r ih => cases k with
   | zero=>simp[mo]
   | succ k=>simp only[List.take_succ_cons,mo];have:=ih k;omega
def zG(x:Expr)(hx:gW x<=2^60): aA aM 186 [br x] (I (lD x)):=by
 induction x using Expr.ind with
 | h op v s l ih =>
   simp only[gW]at hx;have hlen:=FK l
   have hih:∀ k,k<l.length->aA aM 186 [br (l.getD k default)] (I (lD (l.getD k default))):=fun k hk =>
    ih _ (dh hk) (by have:=FL (dh hk);omega)
   refine bB Kt ?_;intro Q aX aY aZ;repeat' first|refine aQ ?_|refine aR ?_ ?_<;>intro hw<;>try omega|fail
   with_reducible refine dA [3,1,5,1,9,9] (fun p:Nat × List bG=>[(9,I p.1),(3,I (lS (l.take p.1)))]) (fun p=> .cells [I op,I v.kind,I v.n,.str v.s,.str s,.aH false EX (l.map br)]::p.2) (fun p=>p.1<=l.length) (fun p=>l.length-p.1) (0,[]) ?_ ?_ ?_ ?_
   ·simp
   ·rfl
   ·exact at_
   rintro⟨i,H⟩ r h1;dsimp only at h1;by_cases hi:i<l.length
   ·have hy:=hih i hi
    have ali:(if((lS (l.take i):Nat):Int)<((lD (l.getD i default):Nat):Int)then ((lD (l.getD i default):Nat):Int)else ((lS (l.take i):Nat):Int))=((lS (l.take (i+1)):Nat):Int):=by
     rw[Uc hi];show _=((max (lS (l.take i)) (lD (l.getD i default)):Nat):Int);by_cases hm:lS (l.take i)<=lD (l.getD i default)
     ·rw[Nat.max_eq_right hm];split<;>omega
     rw[Nat.max_eq_left ae];split<;>omega
    rw[bE]at hy;repeat' first|simp (disch:=omega) only[go_sem,aX,aY,aZ,ali]|refine aQ ?_|refine aR ?_ ?_<;>intro hw<;>try omega|fail
    refine⟨(i+1,H++[.cells [I (l.getD i default).op,I (l.getD i default).v.kind,I (l.getD i default).v.n,.str (l.getD i default).v.s,.str (l.getD i default).s,.aH false EX ((l.getD i default).l.map br)]]),?_,?_,by first|rfl|(simp[go_sem];done),fU,at_⟩<;>(try dsimp only)
    ·omega
    omega
   have h3:=Pc l l.length;rw[List.take_length]at h3;have h2:l.take i=l:=cM ae;have h4:=Pc l i;rw[h2]at h4;repeat' first|simp (disch:=omega) only[go_sem,aX,aY,aZ,h2]|refine aQ ?_|refine aR ?_ ?_<;>intro hw<;>try omega|fail
   refine bu ?_ rfl;refine bC I ?_;simp only[lD];omega
open Go.AM
set_option maxRecDepth 4000
def jy{α β : Type}(p : α-> β->Bool): List α->List β->Bool
 | [],[]=>true
 | x::r,y::t=>p x y && jy p r t
 | _,_=>false
def wP{α β : Type}{p : α-> β->Bool}: ∀ {l:List α} {m:List β},l.length≠m.length->jy p l m=false
 | [],[],h=>absurd rfl h
 | [],_::_,_=>rfl
 | _::_,[],_=>rfl
 | x::r,y::t,h=>by simp only[jy];rw[wP (by simpa using h),Bool.and_false]
def Av{α β : Type}[Inhabited α][Inhabited β]{p : α-> β->Bool}: ∀ {l:List α} {m:List β} {i:Nat},i<l.length->p (l.getD i default) (m.getD i default)=false->i<m.length->jy p l m=false
 | x::r,y::t,0,_,h,_=>by simp only[cC]at h;simp only[jy,h,iy]
 | x :: r, y :: t, i + 1, h1, h, h2 => by
   simp only[gu]at h;simp only[jy];rw[Av (i:=i) (by simpa using h1) h (by simpa using h2),Bool.and_false]
def wQ{α β : Type}[Inhabited α][Inhabited β]{p : α-> β->Bool}: ∀ {l:List α} {m:List β},l.length=m.length->(∀ k,k<l.length->p (l.getD k default) (m.getD k default)=true)->jy p l m=true
 | [],[],_,_=>rfl
 | x :: r, y :: t, h, hp => by
   have h0:=hp 0 aT;simp only[cC]at h0;simp only[jy,h0,iN];exact wQ (by simpa using h) (fun k hk=>by have:=hp (k+1) (by simpa using hk);simpa only[gu]using this)
@[go_sem] def an2 {α : Type} (H:List α) (c d : α):(H++[c]++[d])[H.length+1]? = some d:=aT
@[go_sem] def an3 {α : Type} (H:List α) (c d : α):(H++[c]++[d])[H.length]? = some c:=aT
@[go_sem] def an5 {α : Type} (H:List α) (c d e : α):(H++[c]++[d]).set (H.length+1) e=H++[c]++[e]:=aT
def Aw (fn : FuncId) (cap : List AV) (hcap : AV.cK cap = true) (p : Expr -> Expr -> Bool) (l m : List Expr)
    (h:∀ k,k<l.length->k<m.length->aA aM fn (br (l.getD k default)::br (m.getD k default)::cap) (.bool (p (l.getD k default) (m.getD k default)))) (hl:l.length<=2^62) (hm:m.length<=2^62) :
    aA aM 401 [dG l,dG m,.fn (.func fn) [] cap] (.bool (jy p l m)):=by
 refine bB xo ?_ (by simp[AV.dU,AV.cK,hcap,qh]);intro Q aX aY aZ;repeat' first|refine aQ ?_|refine aR ?_ ?_<;>intro hw<;>try omega|fail
 ·refine bu ?_ rfl;rw[wP ae]
 have Ax:l.length=m.length:=ae;with_reducible refine dA [6,4,17,15] (fun p:Nat × List bG=>[(17,I p.1)]) (fun p=>p.2) (fun q=>q.1<=l.length/\ ∀ k,k<q.1->p (l.getD k default) (m.getD k default)=true) (fun p=>l.length-p.1) (0,[]) ?_ ?_ ?_ ?_
 ·simp
 ·rfl
 ·exact at_
 rintro⟨i,H⟩ r ⟨h1,h2⟩;dsimp only at h1 h2;by_cases hi:i<l.length
 ·have hy:=h i hi ae;rw[bE,bE]at hy;repeat' first|refine aQ ?_|refine aR ?_ ?_<;>intro hw<;>try omega|fail
  ·refine bu ?_ rfl;rw[Av hi hw ae]
  refine⟨(i+1,H++[.cells [I (l.getD i default).op,I (l.getD i default).v.kind,I (l.getD i default).v.n,.str (l.getD i default).v.s,.str (l.getD i default).s,.aH false EX ((l.getD i default).l.map br)]]++[.cells [I (m.getD i default).op,I (m.getD i default).v.kind,I (m.getD i default).v.n,.str (m.getD i default).v.s,.str (m.getD i default).s,.aH false EX ((m.getD i default).l.map br)]]),?_,?_,by first|rfl|(simp[go_sem];done),fU,at_⟩<;>(try dsimp only)
  ·exact⟨ae,cS h2 hw⟩
  omega
 repeat' first|refine aQ ?_|refine aR ?_ ?_<;>intro hw<;>try omega|fail
 refine bu ?_ rfl;rw[wQ Ax (fun k hk=>h2 k ae)]
mutual
def yP: Expr->Expr->Bool
 | .mk o v s l,y=>decide (o=y.op) && decide (v=y.v) && decide (s=y.s) && NO l y.l
def NO: List Expr->List Expr->Bool
 | [],[]=>true
 | x::r,y::t=>yP x y && NO r t
 | _,_=>false
end
def Pd: ∀(l m:List Expr),NO l m=jy yP l m
 | [],[]=>rfl
 | [],_::_=>rfl
 | _::_,[]=>rfl
 | x::r,y::t=>by simp only[NO,jy,Pd r t]
mutual
def Pe: Expr->Prop
 | .mk _ _ _ l=>l.length<=2^60/\WK l
def WK: List Expr->Prop
 | []=>True
 | x::r=>Pe x/\WK r
end
def Sk{l:List Expr}{x:Expr}(h:WK l)(hx:x ∈ l): Pe x:=by
 induction l with
 | nil=>cases hx
 | cons y r ih =>
   simp only[WK]at h;rcases List.mem_cons.1 hx with rfl|hx
   ·exact h.1
   exact ih h.2 hx
def aen{l:List Expr}(h:∀ x ∈ l,Pe x): WK l:=by
 induction l with
 | nil=>trivial
 | cons y r ih=>exact⟨h y aT,ih (fun x hx=>h x (cP _ hx))⟩
def WL(x:Expr): gW x<=2^60->Pe x:=by
 induction x using Expr.ind with
 | h op v s l ih =>
   intro h;simp only[gW]at h;have hl:=FK l;exact⟨ae,aen (fun y hy=>ih y hy (by have:=FL hy;omega))⟩
def Rh(x:Expr): ∀ y:Expr,Pe x->Pe y->aA aM 352 [br x,br y] (.bool (yP x y)):=by
 induction x using Expr.ind with
 | h op v s l ih =>
   rintro⟨op',v',s',m⟩ hx hy;simp only[Pe]at hx hy;obtain⟨hl,Pf⟩:=hx;obtain⟨hm,Oa⟩:=hy;have hc:=Aw 352 [] rfl yP l m (fun k h1 h2=>ih _ (dh h1) _ (Sk Pf (dh h1)) (Sk Oa (dh h2))) ae ae;rw[<-Pd]at hc;simp only[dG]at hc;obtain⟨vk,vn,vs⟩:=v;obtain⟨vk',vn',vs'⟩:=v';refine bB Ky ?_;intro Q aX aY aZ;repeat' first|refine aQ ?_|refine aR ?_ ?_<;>intro hw<;>try omega|fail
   all_goals refine bu ?_ rfl
   all_goals (refine bC AV.bool ?_;simp only[yP,Expr.op,Expr.v,Expr.s,Expr.l])
   all_goals (rw[cq];simp_all)
def Ay (fn : FuncId) (cap : List AV) (hcap : AV.cK cap = true) (p : Expr -> Bool) (l : List Expr) (h : ∀ k, k < l.length -> aA aM fn (br (l.getD k default) :: cap) (.bool (p (l.getD k default)))) (hl : l.length <= 2^62) :
    aA aM 355 [dG l,.fn (.func fn) [] cap] (I (lN p l)):=by
 refine bB xn ?_ (by simp[AV.dU,AV.cK,hcap,qh]);intro Q aX aY aZ;repeat' first|refine aQ ?_|refine aR ?_ ?_<;>intro hw<;>try omega|fail
 with_reducible refine dA [4,2,8,11] (fun i:Nat=>[(8,I i)]) (fun _=>[]) (fun i=>i<=l.length/\ ∀ k,k<i->p (l.getD k default)=false) (fun i=>l.length-i) (0) ?_ ?_ ?_ ?_
 ·simp
 ·rfl
 ·exact at_
 rintro i r ⟨hi,hp⟩;by_cases hin:i<l.length
 ·have hx:=h i hin;rw[bE]at hx;repeat' first|refine aQ ?_|refine aR ?_ ?_<;>intro hw<;>try omega|fail
  ·refine bu ?_ rfl;refine bC I ?_;exact(tL hin hp hw).symm
  refine⟨i+1,?_,?_,by first|rfl|(simp[go_sem];done),fU,at_⟩<;>(try dsimp only)
  ·exact⟨ae,cS hp hw⟩
  omega
 repeat' first|refine aQ ?_|refine aR ?_ ?_<;>intro hw<;>try omega|fail
 refine bu ?_ rfl;refine bC I ?_;exact(pT fun k hk=>hp k ae).symm
def HI{α : Type}[Inhabited α](p : α->Bool)(l:List α): decide (0<=lN p l)=l.any p:=by
 rcases tM p l with⟨h1,h2⟩|⟨i,h1,h2,h3⟩
 ·rw[h1,show decide ((0:Int)<= -1)=false from dV];symm;rw[List.any_eq_false];exact fJ.1 h2
 rw[h2,fT ae];symm;rw[List.any_eq_true];exact⟨_,dh h1,gk h3⟩
def xx (fn : FuncId) (cap : List AV) (hcap : AV.cK cap = true) (p : Expr -> Bool) (l : List Expr) (h : ∀ k, k < l.length -> aA aM fn (br (l.getD k default) :: cap) (.bool (p (l.getD k default)))) (hl : l.length <= 2^62) :
    aA aM 275 [dG l,.fn (.func fn) [] cap] (.bool (l.any p)):=by
 refine bB uO ?_ (by simp[AV.dU,AV.cK,hcap,qh]);intro Q aX aY aZ;have hc:=Ay fn cap hcap p l h hl;simp only[dG]at hc;repeat' first|refine aQ ?_|refine aR ?_ ?_<;>intro hw<;>try omega|fail
 all_goals refine bu ?_ rfl
 all_goals rw[<-HI]
def v0: jC:=⟨0,0,[]⟩
mutual
def eV: Expr->Bool
 | .mk op v s l => decide ((l.length : Int) = lp op) &&
    (if op=1 then decide (s=[]) && gZ v && (decide (v.kind≠1) || decide (0<=v.n))
     else if op=2 then decide (v=v0) && jb s
     else decide (v=v0) && decide (s=[]) && uQ l)
def uQ: List Expr->Bool
 | []=>true
 | x::r=>eV x && uQ r
end
def Ji(l:List Expr): uQ l = !(l.any fun x=> !(eV x)):=by
 induction l with
 | nil=>rfl
 | cons x r ih=>simp[uQ,ih]
mutual
def jN: Expr->Prop
 | .mk _ v s l=>s.length<=2^62/\v.s.length<=2^62/\ -9223372036854775808<=v.n/\v.n<=9223372036854775807/\GK l
def GK: List Expr->Prop
 | []=>True
 | x::r=>jN x/\GK r
end
def KH{l:List Expr}{x:Expr}(h:GK l)(hx:x ∈ l): jN x:=by
 induction l with
 | nil=>cases hx
 | cons y r ih =>
   simp only[GK]at h;rcases List.mem_cons.1 hx with rfl|hx
   ·exact h.1
   exact ih h.2 hx
def KI(x:Expr)(h:aA aM 185 [br x] (.bool (eV x))): aA aM 276 [br x] (.bool (!(eV x))):=by
 refine bB Ge ?_;intro Q aX aY aZ;rw[bE]at h |-;repeat' first|refine aQ ?_|refine aR ?_ ?_<;>intro hw<;>try omega|fail
 all_goals refine bu ?_ rfl
 all_goals simp_all
def Ef(x:Expr): jN x->gW x<=2^60->aA aM 185 [br x] (.bool (eV x)):=by
 induction x using Expr.ind with
 | h op v s l ih =>
   intro hx hz;simp only[gW]at hz;simp only[jN]at hx;obtain⟨o1,o2,o3,o4,o5⟩:=hx;have hl:=FK l;have hc:=xx 276 [] rfl (fun x=> !(eV x)) l (fun k h1=>KI _ (ih _ (dh h1) (KH o5 (dh h1)) (by have:=FL (dh h1);omega))) ae;simp only[dG]at hc;obtain⟨vk,vn,vs⟩:=v;refine bB I8 ?_;intro Q aX aY aZ;repeat' first|refine aQ ?_|refine jS (Pb _) ?_|refine jS (uo _ _ _ o3 o4) ?_|refine jS (rB _ o1) ?_|refine aR ?_ ?_<;>intro hw<;>try omega|fail
   all_goals refine bu ?_ rfl
   all_goals (refine bC AV.bool ?_;simp only[eV,Ji])
   all_goals (rw[cq];simp_all[v0,nO])
def Eg(x:Expr)(hx:jN x)(hz:gW x<=2^60): aA aM 399 [br x] (I (nO (eV x))):=by
 refine bB Jc ?_;intro Q aX aY aZ;have h:=Ef x hx hz;rw[bE]at h |-;repeat' first|refine aQ ?_|refine aR ?_ ?_<;>intro hw<;>try omega|fail
 all_goals refine bu ?_ rfl
 all_goals simp_all[nO]
def f_ {v r : AV} {pg ds : List AV} {H : ai} (hv : View (.dead :: H) v r) (hd : bR (.dead :: H) pg ds) :
    ∃ r0 RM OL,Out.ret (oneOf [v])=Out.ret r0/\bG.cells pg::H=bG.cells RM::OL/\View (.dead::OL) r0 r/\bR (.dead::OL) RM ds:=⟨_,_,_,rfl,rfl,hv,hd⟩
def x0: Expr:= .mk 0 v0 [] []
def Eh(T:List Tok)(p:Nat)(b:Bool): Tok:=if b then default else T.getD p default
def oJ(T:List Tok)(p:Nat)(k:Int)(s:bj): Bool:=decide (p<T.length) && (decide ((T.getD p default).kind=k) && decide ((T.getD p default).s=s))
def iH(T:List Tok)(p:Nat)(b:Bool)(k:Int)(s:bj): Bool:= !b && oJ T p k s
def rh(x:Ee): Int:=if x.level<3 then 1 else 4
def xy(T:List Tok)(p:Nat)(b:Bool)(lvl:Int): Option Ee:=kr.find? fun x=>x.level==lvl && iH T p b (rh x) x.sign
def Mi(T:List Tok)(p:Nat)(b:Bool)(lvl:Int): Nat:=if(xy T p b lvl).isSome then p+1 else p
def Pg(o:Option Ee): Int:=match o with
 | some x=>x.op
 | none=>0
def bR.eqv{σ : ai}{a b:List AV}(h:a=b)(hp:AV.cK b=true): bR σ a b:=by subst h;exact bR.refl hp
def yQ(s:bj): Option jC:=if s=[110,117,108,108]then some v0 else if s=[102,97,108,115,101]then some ⟨3,0,[]⟩else if s=[116,114,117,101]then some ⟨3,1,[]⟩else none
structure RS where
 x:Expr
 p:Nat
 bad:Bool
deriving Inhabited
def dM(T:List Tok)(p:Nat)(b:Bool): List AV:=[.aH false ET (T.map rz),I p,.bool b]
attribute [go_sem] dM
def bO(T:List Tok)(p:Nat)(b:Bool): AV.cK (dM T p b)=true:=by simp[dM,AV.dU,AV.cK,OW]
def pU{α : Type}[Inhabited α]{l:List α}{i:Nat}(h:l.length<=i): l.getD i default=default:=by
 rw[aj,eo h];rfl
def Ud: (default:Tok)=⟨0,[],0,0⟩:=rfl
def ab5(T:List Tok)(p:Nat)(b:Bool)(k:Int)(s:bj)(hk:k≠0): iH T p b k s=(decide ((Eh T p b).kind=k) && decide ((Eh T p b).s=s)):=by
 unfold iH Eh oJ;cases b with
 | true=>simp[Ud];intro h;exact absurd h.symm hk
 | false =>
   by_cases hp:p<T.length
   ·simp[hp]
   rw[pU ae];simp[hp,Ud];intro h;exact absurd h.symm hk
def Jj(T:List Tok)(p:Nat)(b:Bool): cY aM 481 0 [] (dM T p b) (dM T p b) (rz (Eh T p b)):=by
 refine cY.gx (BI.go ?_) rfl (bO _ _ _);unfold iC;intro Q aX aY aZ;cases b with
 | true =>
   repeat' first|refine aQ ?_|refine aR ?_ ?_<;>intro hw<;>try omega|fail
   exact f_ (View.eqv rfl rfl) (bR.refl (bO T p true))
 | false =>
   by_cases hp:p<T.length
   ·repeat' first|refine aQ ?_|refine aR ?_ ?_<;>intro hw<;>try omega|fail
    refine f_ (View.eqv ?_ rfl) (bR.refl (bO T p false));simp only[Eh];rfl
   repeat' first|refine aQ ?_|refine aR ?_ ?_<;>intro hw<;>try omega|fail
   refine f_ (View.eqv ?_ rfl) (bR.refl (bO T p false));simp only[Eh];rw[pU ae];rfl
def s0(T:List Tok)(p:Nat)(b:Bool)(k:Int)(s:bj): Nat:=if iH T p b k s then p+1 else p
def Ei(T:List Tok)(p:Nat)(b:Bool)(k:Int)(s:bj)(hk:k≠0)(hp:p<=2^61): cY aM 461 0 [I k,.str s] (dM T p b) (dM T (s0 T p b k s) b) (.bool (iH T p b k s)):=by
 have hn:=Jj T p b;unfold s0;rw[ab5 T p b k s hk];generalize Eh T p b=t at hn |-;obtain⟨tk,ts,tn,tp⟩:=t;simp only[dM,rz]at hn;refine cY.gx (C6.go ?_) rfl (bO _ _ _);unfold iC;intro Q aX aY aZ;repeat' first|refine aQ ?_|refine de hn ?_|refine aR ?_ ?_<;>intro hw<;>try omega|fail
 all_goals first
  |(refine f_ (View.eqv ?_ rfl) (bR.eqv ?_ (bO _ _ _))<;>simp_all[dM];done)
def zH(T:List Tok)(p:Nat)(b:Bool)(k:Int)(s:bj)(hk:k≠0)(hp:p<=2^61): cY aM 482 0 [I k,.str s] (dM T p b) (dM T (s0 T p b k s) (b || !(iH T p b k s))) (.bg []):=by
 have hn:=Ei T p b k s hk hp;generalize iH T p b k s=o at hn |-;simp only[dM]at hn;refine cY.gx (Aq.go ?_) rfl (bO _ _ _);unfold iC;intro Q aX aY aZ;cases o
 ·repeat' first|refine aQ ?_|refine de hn ?_|refine aR ?_ ?_<;>intro hw<;>try omega|fail
  refine I5 rfl (bR.eqv ?_ (bO _ _ _));simp[dM]
 repeat' first|refine aQ ?_|refine de hn ?_|refine aR ?_ ?_<;>intro hw<;>try omega|fail
 refine I5 rfl (bR.eqv ?_ (bO _ _ _));simp[dM]
def Ph(s:bj): aA aM 483 [.str s] (.bg [nL ((yQ s).getD v0),.bool (yQ s).isSome]):=by
 refine bB KC ?_;intro Q aX aY aZ;repeat' first|refine aQ ?_|refine aR ?_ ?_<;>intro hw<;>try omega|fail
 all_goals refine c6 ?_ rfl
 all_goals simp_all[yQ,nL,v0]
def CM(T:List Tok)(p:Nat)(b:Bool)(lvl:Int)(hp:p<=2^61): cY aM 464 0 [I lvl] (dM T p b) (dM T (Mi T p b lvl) b) (I (Pg (xy T p b lvl))):=by
 refine cY.gx (yg.go ?_) rfl (bO _ _ _);unfold iC;intro Q aX aY aZ;have hl:kr.length=12:=rfl;have ho:=fun k s (hk:k≠0)=>Ei T p b k s hk hp;simp only[dM]at ho;repeat' first|refine aQ ?_|refine jS yO ?_|refine aR ?_ ?_<;>intro hw<;>try omega|fail
 with_reducible refine dA [4,1,6,2,10,21] (fun q:Nat × List bG=>[(10,I q.1)]) (fun q=> .cells [.aH false ET (T.map rz),I p,.bool b]::q.2) (fun q=>q.1<=12/\ ∀ k,k<q.1->((kr.getD k default).level==lvl && iH T p b (rh (kr.getD k default)) (kr.getD k default).sign)=false) (fun q=>12-q.1) (0,[]) ?_ ?_ ?_ ?_
 ·simp
 ·rfl
 ·exact at_
 rintro⟨i,H⟩ r ⟨h1,h2⟩;dsimp only at h1 h2;by_cases hi:i<12
 ·obtain⟨x,hx⟩:=gi (kr.getD i default)
  have hyes:(x.level==lvl && iH T p b (rh x) x.sign)=true->xy T p b lvl=some x:=fun h=>by
   unfold xy;rw[Au (p:=fun y:Ee=>y.level==lvl && iH T p b (rh y) y.sign) hi h2 (by rw[hx];exact h),hx]
  have Zn:(x.level==lvl && iH T p b (rh x) x.sign)=false-> ∀ k,k<i+1->((kr.getD k default).level==lvl && iH T p b (rh (kr.getD k default)) (kr.getD k default).sign)=false:=fun h=>cS h2 (by rw[hx];exact h);have lZ:(x.level<3/\rh x=1)\/(¬ x.level<3/\rh x=4):=by unfold rh;split<;>simp_all
  clear h2;rcases lZ with⟨hlv,hkb⟩|⟨hlv,hkb⟩;all_goals rw[hkb]at hyes Zn
  all_goals (
   repeat' first|simp (disch:=omega) only[go_sem,aX,aY,aZ,hx]|refine aQ ?_|with_reducible refine Kk (ho 1 _ dV) rfl ?_|with_reducible refine Kl (ho 1 _ dV) rfl ?_|with_reducible refine Km (ho 1 _ dV) rfl ?_|with_reducible refine Kk (ho 4 _ dV) rfl ?_|with_reducible refine Kl (ho 4 _ dV) rfl ?_|with_reducible refine Km (ho 4 _ dV) rfl ?_|refine aR ?_ ?_<;>intro hw<;>try omega|fail
   ·rename_i _ hlq;have hy:=hyes (by rw[hlq,hw];simp);refine f_ (View.eqv ?_ rfl) (bR.eqv ?_ (bO _ _ _))
    ·rw[hy];rfl
    simp[dM,Mi,hy,s0,hw]
   ·rename_i hlq;refine⟨(i+1,H++[.cells [I x.op,.str x.sign,I x.level]]),?_,?_,?_,fU,at_⟩<;>(try dsimp only)
    ·exact⟨ae,Zn (by rw[hw];simp)⟩
    ·omega
    simp[s0,hw]
   ·refine⟨(i+1,H++[.cells [I x.op,.str x.sign,I x.level]]),?_,?_,?_,fU,at_⟩<;>(try dsimp only)
    ·exact⟨ae,Zn (by rw[beq_eq_false_iff_ne.2 hw];rfl)⟩
    ·omega)
 have hno:xy T p b lvl=none:=by
  unfold xy;rw[xw (p:=fun y:Ee=>y.level==lvl && iH T p b (rh y) y.sign) (fun k hk=>h2 k ae)]
 repeat' first|refine aQ ?_|refine aR ?_ ?_<;>intro hw<;>try omega|fail
 refine f_ (View.eqv ?_ rfl) (bR.eqv ?_ (bO _ _ _))<;>simp_all[dM,Pg,Mi]
def kX(T:List Tok)(r:RS)(k:Int)(s:bj): RS:=⟨r.x,s0 T r.p r.bad k s,r.bad || !(iH T r.p r.bad k s)⟩
def qQ(rd:Nat->Nat->RS)(lvl p:Nat)(b:Bool): RS:=if b then⟨x0,p,true⟩else rd lvl p
def zI(v:jC)(p:Nat): RS:=⟨.mk 1 v [] [],p,false⟩
def ow(rd:Nat->Nat->RS)(T:List Tok)(p:Nat): RS :=
 if oJ T p 4 [40]then kX T (rd 0 (p+1)) 4 [41]
 else if(T.getD p default).kind=2 then zI ⟨1,(T.getD p default).n,[]⟩ (p+1)
 else if(T.getD p default).kind=3 then zI ⟨2,0,(T.getD p default).s⟩ (p+1)
 else if(T.getD p default).kind=1 then
  (match yQ (T.getD p default).s with
  | some v=>zI v (p+1)
  | none=>if jb (T.getD p default).s then⟨.mk 2 v0 (T.getD p default).s [],p+1,false⟩else ⟨x0,p,true⟩)
 else⟨x0,p,true⟩
def thenS: bj:=[116,104,101,110]
def FM: bj:=[101,108,115,101]
def nP(rd:Nat->Nat->RS)(T:List Tok)(p:Nat): RS:=kX T (rd 0 p) 1 thenS
def uR(rd:Nat->Nat->RS)(T:List Tok)(p:Nat): RS:=kX T (qQ rd 0 (nP rd T p).p (nP rd T p).bad) 1 FM
def Ej(rd:Nat->Nat->RS)(T:List Tok)(p:Nat): RS:=qQ rd 0 (uR rd T p).p (uR rd T p).bad
def Mj(rd:Nat->Nat->RS)(T:List Tok)(p:Nat): RS:=⟨.mk 16 v0 [] [(nP rd T p).x,(uR rd T p).x,(Ej rd T p).x],(Ej rd T p).p,(Ej rd T p).bad⟩
def cU(T:List Tok): Nat->Option Expr->Nat->Nat->RS
 | 0,_,_,p=>⟨x0,p,true⟩
 | f + 1, none, lvl, p =>
   if lvl=0 then(if oJ T p 1 [105,102]then Mj (fun l q=>cU T f none l q) T (p+1)else cU T f none 1 p)
   else if lvl=6/\oJ T p 4 [45]=true then⟨.mk 3 v0 [] [(cU T f none 6 (p+1)).x],(cU T f none 6 (p+1)).p,(cU T f none 6 (p+1)).bad⟩
   else if 6<=lvl then ow (fun l q=>cU T f none l q) T p
   else if(cU T f none (lvl+1) p).bad then cU T f none (lvl+1) p
   else cU T f (some (cU T f none (lvl+1) p).x) lvl (cU T f none (lvl+1) p).p
 | f + 1, some x, lvl, p =>
   match xy T p false lvl with
   | none=>⟨x,p,false⟩
   | some o =>
     if lvl=3\/(cU T f none (lvl+1) (p+1)).bad=true then⟨.mk o.op v0 [] [x,(cU T f none (lvl+1) (p+1)).x],(cU T f none (lvl+1) (p+1)).p,(cU T f none (lvl+1) (p+1)).bad⟩
     else cU T f (some (.mk o.op v0 [] [x,(cU T f none (lvl+1) (p+1)).x])) lvl (cU T f none (lvl+1) (p+1)).p
def oK{T:List Tok}{p:Nat}{k:Int}{s:bj}(h:oJ T p k s=true): p<T.length:=by
 simp only[oJ,aD,au]at h;exact h.1
def nQ{T:List Tok}{p:Nat}{b:Bool}{k:Int}{s:bj}(h:iH T p b k s=true): p<T.length/\b=false:=by
 simp only[iH,aD,dR]at h;exact⟨oK h.2,h.1⟩
def Ek{T:List Tok}{p:Nat}{b:Bool}{lvl:Int}{o:Ee}(h:xy T p b lvl=some o): p<T.length/\b=false/\o ∈ kr/\o.level=lvl:=by
 have h1:=gk h;simp only[aD,beq_iff_eq]at h1;exact⟨(nQ h1.2).1,(nQ h1.2).2,gC h,h1.1⟩
def jV(n p:Nat)(r:RS): Prop:=p<=r.p/\r.p<=n/\(r.bad=false->p<r.p)
def uS{T:List Tok}{p:Nat}{r:RS}(k:Int)(s:bj)(h:jV T.length p r): jV T.length p (kX T r k s):=by
 obtain⟨h1,h2,h3⟩:=h;unfold kX jV s0;dsimp only;by_cases ho:iH T r.p r.bad k s=true
 ·have:=nQ ho;have h4:=h3 this.2;rw[aB ho];refine⟨ae,ae,fun _=>by omega⟩
 rw[aq ho];refine⟨h1,h2,fun h=>?_⟩;simp only[gN]at ho;rw[ho]at h;simp at h
def HJ{T:List Tok}{rd:Nat->Nat->RS}(hrd:∀ l q,q<=T.length->jV T.length q (rd l q)){l q:Nat}{b:Bool}(hq:q<=T.length): jV T.length q (qQ rd l q b):=by
 unfold qQ;split
 ·exact⟨Nat.le_refl _,hq,fun h=>by cases h⟩
 exact hrd l q hq
def jV.from{n p q:Nat}{r:RS}(h:jV n q r)(hpq:p<=q): jV n p r:=⟨bS hpq h.1,h.2.1,fun hb=>Nat.lt_of_le_of_lt hpq (h.2.2 hb)⟩
def BP{T:List Tok}{rd:Nat->Nat->RS}(hrd:∀ l q,q<=T.length->jV T.length q (rd l q)){p:Nat}(hp:p<=T.length): jV T.length p (nP rd T p):=uS _ _ (hrd 0 p hp)
def BQ{T:List Tok}{rd:Nat->Nat->RS}(hrd:∀ l q,q<=T.length->jV T.length q (rd l q)){p:Nat}(hp:p<=T.length): jV T.length (nP rd T p).p (uR rd T p):=uS _ _ (HJ hrd (BP hrd hp).2.1)
def Zo{T:List Tok}{rd:Nat->Nat->RS}(hrd:∀ l q,q<=T.length->jV T.length q (rd l q)){p:Nat}(hp:p<=T.length): jV T.length (uR rd T p).p (Ej rd T p):=HJ hrd (BQ hrd hp).2.1
def WM{T:List Tok}{rd:Nat->Nat->RS}(hrd:∀ l q,q<=T.length->jV T.length q (rd l q)){p:Nat}(hp:p<=T.length): jV T.length p (ow rd T p):=by
 have stay:∀ x,jV T.length p ⟨x,p,true⟩:=fun x=>⟨Nat.le_refl _,hp,fun h=>by cases h⟩;have k0:¬ p<T.length->(T.getD p default).kind=0:=fun h=>by rw[pU ae];rfl
 have step:(T.getD p default).kind≠0-> ∀ x,jV T.length p ⟨x,p+1,false⟩:=fun hk x=>by
  have:p<T.length:=by
   by_cases h:p<T.length
   ·exact h
   exact absurd (k0 h) hk
  exact⟨Nat.le_succ _,this,fun _=>Nat.lt_succ_self _⟩
 unfold ow;split
 ·rename_i h;exact uS _ _ ((hrd 0 (p+1) (oK h)).from (Nat.le_succ _))
 split
 ·exact step ae _
 split
 ·exact step ae _
 split
 ·split
  ·exact step ae _
  split
  ·exact step ae _
  exact stay _
 exact stay _
def rK(T:List Tok)(f:Nat): ∀(m:Option Expr) (lvl p:Nat),p<=T.length->(m=none->jV T.length p (cU T f m lvl p))/\p<=(cU T f m lvl p).p/\(cU T f m lvl p).p<=T.length:=by
 induction f with
 | zero =>
   intro m lvl p hp;simp only[cU];exact⟨fun _=>⟨Nat.le_refl _,hp,fun h=>by cases h⟩,Nat.le_refl _,hp⟩
 | succ f ih =>
   intro m lvl p hp;have hrd:∀ l q,q<=T.length->jV T.length q (cU T f none l q):=fun l q hq=>(ih none l q hq).1 rfl;cases m with
   | none =>
     have:jV T.length p (cU T (f+1) none lvl p):=by
      simp only[cU];split
      ·split
       ·rename_i h;have h1:=oK h;have a:=BP hrd (p:=p+1) h1;have b:=BQ hrd (p:=p+1) h1;have c:=Zo hrd (p:=p+1) h1;exact(show jV T.length (uR (fun l q=>cU T f none l q) T (p+1)).p (Mj (fun l q=>cU T f none l q) T (p+1)) from⟨c.1,c.2.1,c.2.2⟩).from (bS (Nat.le_succ _) (bS a.1 b.1))
       exact hrd 1 p hp
      split
      ·rename_i h;have h1:=oK h.2;have c:=hrd 6 (p+1) h1;exact(show jV T.length (p+1) ⟨_,_,_⟩ from⟨c.1,c.2.1,c.2.2⟩).from (Nat.le_succ _)
      split
      ·exact WM hrd hp
      split
      ·exact hrd _ _ hp
      rename_i hb;have a:=hrd (lvl+1) p hp;have b:=ih (some (cU T f none (lvl+1) p).x) lvl _ a.2.1;have:=a.2.2 (by simpa using hb);exact⟨ae,b.2.2,fun _=>by omega⟩
     exact⟨fun _=>this,this.1,this.2.1⟩
   | some x =>
     refine⟨fun h=>(by cases h),?_⟩;simp only[cU];split
     ·exact⟨aV _,hp⟩
     rename_i o ho;have h1:=(Ek ho).1;have a:=hrd (lvl+1) (p+1) h1;split
     ·exact⟨by have:=a.1;dsimp only;omega,a.2.1⟩
     have b:=ih (some (.mk o.op v0 [] [x,(cU T f none (lvl+1) (p+1)).x])) lvl _ a.2.1;exact⟨by have:=a.1;omega,b.2.2⟩
