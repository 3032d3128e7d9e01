/- Part. -/
import Derived.Test.YtcjcnfcedihckaaGreatDoorV15
import Derived.KernelRfl
set_option linter.all false
namespace Go.Proofs.YtcjcnfcedihckaaGreatDoor
open Go.AM Go.AM.W
set_option maxRecDepth 10000
def qg: cI:=r [J [(.bool false),(.bool false),.ai] 2,V z0 3,V z0 4]<|
 r [M 0 11,C 247 [t 11] 12,M 12 10,E 10 0 13,E 10 1 14,E 10 2 15,M 13 5,M 14 6,M 15 7]<|
 q (r [M 7 16,D .neq 16 0 17]<|
 c 17 (r [aU (.build [(.bool false),(.bool false),.ai] []) 18,M 6 19,M 7 20,W 3 2 18,M 19 3,M 20 4]<|
 .ret) k)<|
 r [M 5 21,aU (.build [.ai,z0,(.bool false)] [(0,1,(t 21))]) 22,X 22 23,M 23 8]<|
 q (r [M 5 24,N 24 25,D .eql 25 1 26,M 26 27,MT 8 28 27,⟨.call false (.c (.fn (.func 248) [] [])) [(t 28),(.c (.str [45]))],(some 29),some (27,true)⟩,P 27 29 30]<|
 c 30 (r [aU (.build [(.bool false),(.bool false),.ai] [(0,1,(.c (.bool true)))]) 31,W 3 2 31,V z0 3,V z0 4]<|
 .ret) k)<|
 r [aU (.build [(.bool false),(.bool false),.ai] []) 32,J [(.bool false),(.bool false),.ai] 9,W 3 9 32]<|
 q (r [M 5 33,N 33 34,D .gtr 34 1 35,M 35 36,MT 5 37 36,⟨.eH ⟨true,4⟩ none (t 37) (.c z0),(some 38),some (36,true)⟩,AT 0 38 39 36,KT 39 40 36,DT .eql 40 1 41 36,P 36 41 42,M 42 43,MT 5 44 43,⟨.eH ⟨true,4⟩ none (t 44) (.c z0),(some 45),some (43,true)⟩,AT 1 45 46 43,KT 46 47 43,⟨.bin .eql (t 47) (.c (.str [110,111,116])),(some 48),some (43,true)⟩,P 43 48 49,M 49 50,MT 5 51 50,⟨.eH ⟨true,4⟩ none (t 51) (.c (i6 1)),(some 52),some (50,true)⟩,AT 0 52 53 50,KT 53 54 50,DT .eql 54 4 55 50,P 50 55 56,M 56 57,MT 5 58 57,⟨.eH ⟨true,4⟩ none (t 58) (.c (i6 1)),(some 59),some (57,true)⟩,AT 1 59 60 57,KT 60 61 57,⟨.bin .eql (t 61) (.c (.str [40])),(some 62),some (57,true)⟩,P 57 62 63]<|
 c 63 (r [A 1 9 64,⟨.store 1 (t 64) (.c (.bool true)),none,none⟩]<|
 R [M 8 65,Z 65 66,A 1 66 67,⟨.store 1 (t 67) (.c (i6 2)),none,none⟩]) k)<|
 q (.draw [A 2 9 68,K 68 69,M 8 70,aU (.mJ (.c (.fn (.func 249) [] [])) [(t 70)]) 71,aU (.iG false ⟨true,15⟩ (.agg [z0,z0,z0,z0,e0,e0,.ai,z0,z0,z0,e0,e0,.ai,(.bool false),(.bool false)]) 1 [(0,(t 71))]) 72,aU (.app none ⟨true,15⟩ (t 69) (t 72)) 73,A 2 9 74,W 1 74 73] [((t 68),(t 70))])<|
 q (.block 0 (.loop (q (r [M 8 75,aU (.call false (.c (.fn (.func 248) [] [])) [(t 75),(.c (.str [44]))]) 76]<|
 c 76 k (.exit 0))<|
 .block 1 (r [M 8 77,Z 77 78,A 1 78 79,K 79 80,D .add 80 1 81,Z 77 82,A 1 82 83,W 1 83 81]<|
 .draw [A 2 9 84,K 84 85,M 8 86,aU (.mJ (.c (.fn (.func 249) [] [])) [(t 86)]) 87,aU (.iG false ⟨true,15⟩ (.agg [z0,z0,z0,z0,e0,e0,.ai,z0,z0,z0,e0,e0,.ai,(.bool false),(.bool false)]) 1 [(0,(t 87))]) 88,aU (.app none ⟨true,15⟩ (t 85) (t 88)) 89,A 2 9 90,W 1 90 89] [((t 84),(t 86))]))))<|
 q (r [A 1 9 91,K 91 92,M 92 93,MT 8 94 93,ZT 94 95 93,AT 2 95 96 93,KT 96 97 93,UT 97 98 93,P 93 98 99]<|
 c 99 (R [M 8 100,aU (.call false (.c (.fn (.func 250) [] [])) [(t 100),(.c (.str [41]))]) 101]) k)<|
 q (.block 2 (r [M 8 103,Z 103 104,A 1 104 105,K 105 106,M 5 107,N 107 108,B .lss 106 108 109,M 109 102]<|
 c 102 (q (.draw [aU (.build [(.bool false),(.bool false),.ai] []) 110,M 5 111,M 8 112,Z 112 113,A 1 113 114,K 114 115,I true 4 111 115 116,A 3 116 117,K 117 118,W 3 2 110,M 118 3,V (i6 11) 4] [((t 114),(t 2)),((t 117),(t 2))])<|
 .ret) (r [M 8 120,Z 120 121,A 2 121 122,K 122 123,M 123 119]<|
 c 119 (r [aU (.build [(.bool false),(.bool false),.ai] []) 124,M 0 125,S 125 126,W 3 2 124,M 126 3,V (i6 11) 4]<|
 .ret) (r [A 2 9 128,K 128 129,N 129 130,D .gtr 130 12 131,M 131 127]<|
 c 127 (r [aU (.build [(.bool false),(.bool false),.ai] []) 132,W 3 2 132,V z0 3,V (i6 24) 4]<|
 .ret) (r [L 3 9 134,C 172 [t 134] 135,U 135 136,M 136 133]<|
 c 133 (r [aU (.build [(.bool false),(.bool false),.ai] []) 137,W 3 2 137,V z0 3,V (i6 12) 4]<|
 .ret) k)))))<|
 r [L 3 9 138,W 3 2 138,V z0 3,V z0 4]<|
 .ret
def sJ: Of aE 210 139 [.cell 2 true 3,.tmp 3,.tmp 4] qg:=mM ⟨[],[],[],[],[71,87],[]⟩ Tryz.func210
def x9: Of aE 211 64 [.tmp 6] (r [X 0 3,V z0 6]<|
 gR [L 3 3 12,C 172 [t 12] 13,U 13 14] 14 [V (i6 2) 6]<|
 q (r [V z0 7]<|
 gL 0 [M 7 15,A 2 3 16,K 16 17,N 17 18,B .lss 15 18 19] 19 ((
 q (.block 1 (r [A 2 3 22,K 22 23,M 7 24,I true 15 23 24 25,L 15 25 26,J [z0,z0,z0,z0,e0,e0,.ai,z0,z0,z0,e0,e0,.ai,.bool false,.bool false] 8,W 15 8 26]<|
 r [A 1 8 28,L 6 28 29,M 2 30,C 213 [t 29,t 30] 31,M 31 27,E 27 0 32,E 27 1 33,M 32 9,M 33 10]<|
 r [M 9 34,M 34 11]<|
 q (r [M 10 35,D .eql 35 0 36,M 36 37,AT 0 8 38 37,KT 38 39 37,DT .eql 39 6 40 37,P 37 40 41]<|
 c 41 (R [A 7 8 43,L 6 43 44,M 2 45,C 213 [t 44,t 45] 46,M 46 42,E 42 0 47,E 42 1 48,M 47 11,M 48 10]) k)<|
 gR [M 10 49,D .neq 49 0 50] 50 [M 10 51,M 51 6]<|
 r [L 15 8 52,M 1 53,M 9 54,C 251 [t 52,t 53,t 54] 55,U 55 56,M 56 57,LF 15 8 58 57,MF 1 59 57,MF 11 60 57,CF 251 [t 58,t 59,t 60] 61 57,UF 61 62 57,O 57 62 63]<|
 c 63 (r [V (i6 14) 6]<|
 .ret) k))<|
 R [M 7 20,D .add 20 1 21,M 21 7])))<|
 r [V z0 6]<|
 .ret):=bt Tryz.func211
def mN: Of aE 212 51 [.cell 2 true 6,.tmp 3,.tmp 4] (r [J [z0,z0,z0,e0,e0,.ai] 2,V z0 3,V z0 4]<|
 r [M 0 12,C 247 [t 12] 13,M 13 11,E 11 0 14,E 11 1 15,E 11 2 16,M 14 5,M 15 6,M 16 7]<|
 gR [M 7 17,D .neq 17 0 18] 18 [gU [z0,z0,z0,e0,e0,.ai] [] 19,M 6 20,M 7 21,W 6 2 19,M 20 3,M 21 4]<|
 r [M 5 23,C 252 [t 23,.c z0,.c z0] 24,M 24 22,E 22 0 25,E 22 1 26,E 22 2 27,J [z0,z0,z0,e0,e0,.ai] 8,W 6 8 25,M 26 9,M 27 10]<|
 q (.block 0 (r [M 9 29,M 5 30,N 30 31,B .lss 29 31 32,M 32 28]<|
 c 28 (q (.draw [gU [z0,z0,z0,e0,e0,.ai] [] 33,M 5 34,M 9 35,I true 4 34 35 36,A 3 36 37,K 37 38,W 6 2 33,M 38 3,V (i6 11) 4] [(t 37,t 2)])<|
 .ret) (r [M 10 40,D .neq 40 0 41,M 41 39]<|
 c 39 (r [gU [z0,z0,z0,e0,e0,.ai] [] 42,M 0 43,S 43 44,W 6 2 42,M 44 3,V (i6 11) 4]<|
 .ret) (r [L 6 8 46,C 175 [t 46] 47,D .gtr 47 12 48,M 48 45]<|
 c 45 (r [gU [z0,z0,z0,e0,e0,.ai] [] 49,W 6 2 49,V z0 3,V (i6 12) 4]<|
 .ret) k))))<|
 r [L 6 8 50,W 6 2 50,V z0 3,V z0 4]<|
 .ret):=bt Tryz.func212
def Aj: Of aE 213 14 [.tmp 4,.tmp 5] (r [X 0 2,V z0 4,V z0 5]<|
 gR [L 6 2 6,C 174 [t 6] 7,U 7 8] 8 [V z0 4,V (i6 2) 5]<|
 r [L 6 2 9,M 1 10,C 253 [t 9,t 10] 11,E 11 0 12,E 11 1 13,M 12 4,M 13 5]<|
 .ret):=bt Tryz.func213
def K5: Of aE 214 16 [.tmp 4] (r [gF 4]<|
 r [M 0 5,M 1 6,B .eql 5 6 7,M 7 8,MF 0 9 8,DF .eql 9 0 10 8,O 8 10 11,M 11 12,MF 1 13 12,DF .eql 13 0 14 12,O 12 14 15,M 15 4]<|
 .ret):=bt Tryz.func214
def K6: Of aE 215 43 [.tmp 2] (r [X 0 1,gF 2]<|
 gR [A 0 1 3,K 3 4,D .eql 4 6 5] 5 [A 1 1 6,L 6 6 7,C 254 [t 7] 8,M 8 9,AT 7 1 10 9,LT 6 10 11 9,CT 254 [t 11] 12 9,P 9 12 13,M 13 2]<|
 r [A 0 1 14,K 14 15,D .geq 15 1 16,M 16 17,AT 0 1 18 17,KT 18 19 17,DT .leq 19 5 20 17,P 17 20 21,M 21 22,AT 1 1 23 22,LT 6 23 24 22,CT 254 [t 24] 25 22,P 22 25 26,M 26 27,AT 7 1 28 27,LT 6 28 29 27,⟨.build [z0,z0,z0,e0,e0,.ai] [],(some 30),some (27,true)⟩,CT 255 [t 29,t 30] 31 27,P 27 31 32,M 32 33,AT 13 1 34 33,KT 34 35 33,UT 35 36 33,P 33 36 37,M 37 38,AT 14 1 39 38,KT 39 40 38,UT 40 41 38,P 38 41 42,M 42 2]<|
 .ret):=bt Tryz.func215
def EB: Of aE 216 8 [.tmp 4] (r [X 0 2,V e0 4]<|
 r [L 6 2 5,M 1 6,C 176 [t 5,t 6] 7,M 7 4]<|
 .ret):=bt Tryz.func216
def K7: Of aE 217 12 [.tmp 2] (r [V e0 2]<|
 q (r [M 0 3]<|
 .block 0 (r [D .eql 3 2 5,M 5 4]<|
 c 4 (r [V (.str [60]) 2]<|
 .ret) (r [D .eql 3 3 7,M 7 6]<|
 c 6 (r [V (.str [60,61]) 2]<|
 .ret) (r [D .eql 3 4 9,M 9 8]<|
 c 8 (r [V (.str [62]) 2]<|
 .ret) (r [D .eql 3 5 11,M 11 10]<|
 c 10 (r [V (.str [62,61]) 2]<|
 .ret) k)))))<|
 r [V e0 2]<|
 .ret):=bt Tryz.func217
def II: Of aE 218 20 [.tmp 2] (r [V z0 2]<|
 q (.block 0 (r [M 0 4,D .eql 4 1 5,M 5 6,MF 0 7 6,DF .eql 7 2 8 6,O 6 8 9,M 9 3]<|
 c 3 (r [V z0 2]<|
 .ret) (r [M 0 11,D .eql 11 3 12,M 12 10]<|
 c 10 (r [V (i6 1) 2]<|
 .ret) (r [M 0 14,D .eql 14 16 15,M 15 13]<|
 c 13 (r [V (i6 3) 2]<|
 .ret) (r [M 0 17,C 220 [t 17] 18,aU (.bin .neq (t 18) (.c e0)) 19,M 19 16]<|
 c 16 (r [V (i6 2) 2]<|
 .ret) k)))))<|
 r [V (i6 (-1)) 2]<|
 .ret):=bt Tryz.func218
def IJ: Of aE 219 26 [.tmp 2] (r [V z0 2]<|
 q (r [M 0 3]<|
 .block 0 (r [D .eql 3 15 5,M 5 4]<|
 c 4 (r [V (i6 1) 2]<|
 .ret) (r [D .eql 3 14 7,M 7 6]<|
 c 6 (r [V (i6 2) 2]<|
 .ret) (q (r [D .eql 3 8 9,M 9 8]<|
 c 8 k (r [D .eql 3 9 10,M 10 8]<|
 c 8 k (r [D .eql 3 10 11,M 11 8]<|
 c 8 k (r [D .eql 3 11 12,M 12 8]<|
 c 8 k (r [D .eql 3 12 13,M 13 8]<|
 c 8 k (R [D .eql 3 13 14,M 14 8]))))))<|
 c 8 (r [V (i6 3) 2]<|
 .ret) (q (r [D .eql 3 4 16,M 16 15]<|
 c 15 k (R [D .eql 3 5 17,M 17 15]))<|
 c 15 (r [V (i6 4) 2]<|
 .ret) (q (r [D .eql 3 6 19,M 19 18]<|
 c 18 k (R [D .eql 3 7 20,M 20 18]))<|
 c 18 (r [V (i6 5) 2]<|
 .ret) (r [D .eql 3 3 22,M 22 21]<|
 c 21 (r [V (i6 6) 2]<|
 .ret) (q (r [D .eql 3 1 24,M 24 23]<|
 c 23 k (R [D .eql 3 2 25,M 25 23]))<|
 c 23 (r [V (i6 7) 2]<|
 .ret) k))))))))<|
 r [V z0 2]<|
 .ret):=bt Tryz.func219
def K8: Of aE 220 28 [.tmp 2] (r [V e0 2]<|
 q (r [M 0 3]<|
 .block 0 (r [D .eql 3 4 5,M 5 4]<|
 c 4 (r [V (.str [43]) 2]<|
 .ret) (r [D .eql 3 5 7,M 7 6]<|
 c 6 (r [V (.str [45]) 2]<|
 .ret) (r [D .eql 3 6 9,M 9 8]<|
 c 8 (r [V (.str [42]) 2]<|
 .ret) (r [D .eql 3 7 11,M 11 10]<|
 c 10 (r [V (.str [47]) 2]<|
 .ret) (r [D .eql 3 8 13,M 13 12]<|
 c 12 (r [V (.str [61]) 2]<|
 .ret) (r [D .eql 3 9 15,M 15 14]<|
 c 14 (r [V (.str [33,61]) 2]<|
 .ret) (r [D .eql 3 10 17,M 17 16]<|
 c 16 (r [V (.str [60]) 2]<|
 .ret) (r [D .eql 3 11 19,M 19 18]<|
 c 18 (r [V (.str [60,61]) 2]<|
 .ret) (r [D .eql 3 12 21,M 21 20]<|
 c 20 (r [V (.str [62]) 2]<|
 .ret) (r [D .eql 3 13 23,M 23 22]<|
 c 22 (r [V (.str [62,61]) 2]<|
 .ret) (r [D .eql 3 14 25,M 25 24]<|
 c 24 (r [V (.str [97,110,100]) 2]<|
 .ret) (r [D .eql 3 15 27,M 27 26]<|
 c 26 (r [V (.str [111,114]) 2]<|
 .ret) k)))))))))))))<|
 r [V e0 2]<|
 .ret):=bt Tryz.func220
def IK: Of aE 221 25 [.tmp 2] (r [X 0 1,V e0 2]<|
 r [A 0 1 4,K 4 5,C 137 [t 5] 6,M 6 3]<|
 q (r [A 0 1 7,K 7 8]<|
 .block 0 (q (r [D .eql 8 1 10,M 10 9]<|
 c 9 k (R [D .eql 8 3 11,M 11 9]))<|
 c 9 (r [M 3 12,A 1 1 13,K 13 14,C 137 [t 14] 15,B .add 12 15 16,M 16 2]<|
 .ret) (r [D .eql 8 2 18,M 18 17]<|
 c 17 (r [M 3 19,A 2 1 20,K 20 21,C 136 [t 21] 22,B .add 19 22 23,M 23 2]<|
 .ret) k)))<|
 r [M 3 24,M 24 2]<|
 .ret):=bt Tryz.func221
def Gp: Of aE 222 52 [.tmp 2,.tmp 3,.tmp 4] (r [V .ai 2,V z0 3,V z0 4]<|
 .scope 0 (gR [M 0 9,S 9 10,D .gtr 10 200 11] 11 [V .ai 2,V z0 3,V (i6 5) 4]<|
 r [aU (.jI ⟨true,4⟩) 5]<|
 r [V z0 6]<|
 q (.label 0)<|
 q (.block 0 (.loop (.block 1 (q (gL 2 [M 6 12,M 0 13,S 13 14,B .lss 12 14 15,M 15 16,MT 0 17 16,MT 6 18 16,⟨.fU (t 17) (t 18),(some 19),some (16,true)⟩,⟨.bin .eql (t 19) (.c (.int .u8 32)),(some 20),some (16,true)⟩,P 16 20 21] 21 ((
 .block 3 (R [M 6 22,D .add 22 1 23,M 23 6]))))<|
 q (r [M 6 24,M 0 25,S 25 26,B .eql 24 26 27]<|
 c 27 (.exit 0) k)<|
 r [M 0 29,M 6 30,aU (.lf (t 29) (some (t 30)) none) 31,C 256 [t 31] 32,M 32 28,E 28 0 33,E 28 1 34,J [z0,e0,z0,z0,z0] 7,W 5 7 33,M 34 8]<|
 gR [M 8 35,D .neq 35 0 36] 36 [M 6 37,M 8 38,V .ai 2,M 37 3,M 38 4]<|
 r [M 6 39,A 0 7 40,A 3 40 41,W 1 41 39]<|
 r [M 5 42,A 0 7 43,L 4 43 44,gB true 4 (.agg [z0,e0,z0,z0]) 1 [(0,t 44)] 45,gA true 4 42 45 46,M 46 5]<|
 R [M 6 47,A 4 7 48,K 48 49,B .add 47 49 50,M 50 6]))))<|
 r [M 5 51,M 51 2,V z0 3,V z0 4]<|
 .ret) (.seq k <|
 q (.block 0 (.loop (.block 1 (q (gL 2 [M 6 12,M 0 13,S 13 14,B .lss 12 14 15,M 15 16,MT 0 17 16,MT 6 18 16,⟨.fU (t 17) (t 18),(some 19),some (16,true)⟩,⟨.bin .eql (t 19) (.c (.int .u8 32)),(some 20),some (16,true)⟩,P 16 20 21] 21 ((
 .block 3 (R [M 6 22,D .add 22 1 23,M 23 6]))))<|
 q (r [M 6 24,M 0 25,S 25 26,B .eql 24 26 27]<|
 c 27 (.exit 0) k)<|
 r [M 0 29,M 6 30,aU (.lf (t 29) (some (t 30)) none) 31,C 256 [t 31] 32,M 32 28,E 28 0 33,E 28 1 34,J [z0,e0,z0,z0,z0] 7,W 5 7 33,M 34 8]<|
 gR [M 8 35,D .neq 35 0 36] 36 [M 6 37,M 8 38,V .ai 2,M 37 3,M 38 4]<|
 r [M 6 39,A 0 7 40,A 3 40 41,W 1 41 39]<|
 r [M 5 42,A 0 7 43,L 4 43 44,gB true 4 (.agg [z0,e0,z0,z0]) 1 [(0,t 44)] 45,gA true 4 42 45 46,M 46 5]<|
 R [M 6 47,A 4 7 48,K 48 49,B .add 47 49 50,M 50 6]))))<|
 r [M 5 51,M 51 2,V z0 3,V z0 4]<|
 .ret)):=mM ⟨[],[],[(5,⟨true,4⟩)],[],[],[]⟩ Tryz.func222
def um: Of aE 227 41 [.tmp 2] (r [V z0 2]<|
 gR [M 0 5,N 5 6,D .gtr 6 6 7] 7 [V (i6 24) 2]<|
 q (r [M 0 8,N 8 9,V z0 10]<|
 .block 0 (.loop (r [B .lss 10 9 11]<|
 q (c 11 k (.exit 0))<|
 q (.block 1 (r [M 10 12,I true 3 8 10 13,L 3 13 14,J [e0,z0,.ai] 4,M 12 3,W 3 4 14]<|
 gR [A 0 4 15,K 15 16,C 38 [t 16] 17,U 17 18,M 18 19,MF 0 20 19,AF 0 4 21 19,KF 21 22 19,CF 261 [t 20,t 22] 23 19,MF 3 24 19,BF .neq 23 24 25 19,O 19 25 26] 26 [V (i6 13) 2]<|
 r [A 1 4 27,K 27 28,D .neq 28 1 29,M 29 30,AT 1 4 31 30,KT 31 32 30,DT .neq 32 2 33 30,P 30 33 34,M 34 35,AT 1 4 36 35,KT 36 37 35,DT .neq 37 3 38 35,P 35 38 39]<|
 c 39 (r [V (i6 14) 2]<|
 .ret) k))<|
 R [D .add 10 1 40,M 40 10])))<|
 r [V z0 2]<|
 .ret):=bt Tryz.func227
def r_: Of aE 228 9 [.tmp 4] (r [gF 4]<|
 r [M 0 5,M 1 6,C 262 [t 5,t 6] 7,D .geq 7 0 8,M 8 4]<|
 .ret):=bt Tryz.func228
def AE: Of aE 229 8 [.tmp 3] (r [X 0 2,gF 3]<|
 r [L 3 2 4,K 1 5,C 230 [t 4,t 5] 6,U 6 7,M 7 3]<|
 .ret):=bt Tryz.func229
def wM: Of aE 230 50 [.tmp 4] (r [X 0 2,gF 4]<|
 gR [M 1 7,U 7 8] 8 [A 2 2 9,K 9 10,N 10 11,D .eql 11 0 12,M 12 4]<|
 q (r [A 2 2 13,K 13 14,N 14 15,V z0 16]<|
 .block 0 (.loop (r [B .lss 16 15 17]<|
 q (c 17 k (.exit 0))<|
 q (.block 1 (r [M 16 18,I true 3 14 16 19,L 3 19 20,J [z0,z0,e0] 6,M 18 5,W 3 6 20]<|
 r [L 3 6 21,C 85 [t 21] 22,D .neq 22 0 23,M 23 24,AF 0 6 25 24,KF 25 26 24,AF 1 2 27 24,KF 27 28 24,BF .neq 26 28 29 24,O 24 29 30,M 30 31,AF 2 2 32 31,KF 32 33 31,LF 3 6 34 31,CF 263 [t 33,t 34] 35 31,MF 5 36 31,BF .neq 35 36 37 31,O 31 37 38]<|
 c 38 (r [gF 4]<|
 .ret) k))<|
 R [D .add 16 1 39,M 39 16])))<|
 r [A 2 2 40,K 40 41,N 41 42,D .geq 42 1 43,M 43 44,AT 2 2 45 44,KT 45 46 44,NT 46 47 44,DT .leq 47 8 48 44,P 44 48 49,M 49 4]<|
 .ret):=bt Tryz.func230
def kE: Of aE 231 77 [.cell 2 true 3,.tmp 3,.tmp 4] (r [J [.bool false,.bool false,.ai] 2,V z0 3,V z0 4]<|
 r [M 0 11,C 222 [t 11] 12,M 12 10,E 10 0 13,E 10 1 14,E 10 2 15,M 13 5,M 14 6,M 15 7]<|
 gR [M 7 16,D .neq 16 0 17] 17 [gU [.bool false,.bool false,.ai] [] 18,M 6 19,M 7 20,W 3 2 18,M 19 3,M 20 4]<|
 r [M 5 21,gU [.ai,z0] [(0,1,t 21)] 22,gU [.ai,z0,.bool false] [(0,2,t 22)] 23,X 23 24,M 24 8]<|
 gR [M 5 25,N 25 26,D .eql 26 1 27,M 27 28,MT 8 29 28,ZT 29 30 28,AT 0 30 31 28,CT 264 [t 31] 32 28,⟨.bin .eql (t 32) (gS [45]),(some 33),some (28,true)⟩,P 28 33 34] 34 [gU [.bool false,.bool false,.ai] [(0,1,(.c (.bool true)))] 35,W 3 2 35,V z0 3,V z0 4]<|
 r [M 8 36,C 265 [t 36] 37,J [.bool false,.bool false,.ai] 9,W 3 9 37]<|
 q (.block 0 (r [M 8 39,Z 39 40,A 0 40 41,A 1 41 42,K 42 43,M 5 44,N 44 45,B .lss 43 45 46,M 46 38]<|
 c 38 (q (.draw [gU [.bool false,.bool false,.ai] [] 47,M 5 48,M 8 49,Z 49 50,A 0 50 51,A 1 51 52,K 52 53,I true 4 48 53 54,A 3 54 55,K 55 56,W 3 2 47,M 56 3,V (i6 11) 4] [(t 52,t 2),(t 55,t 2)])<|
 .ret) (r [M 8 58,Z 58 59,A 2 59 60,K 60 61,M 61 57]<|
 c 57 (r [gU [.bool false,.bool false,.ai] [] 62,M 0 63,S 63 64,W 3 2 62,M 64 3,V (i6 11) 4]<|
 .ret) (r [A 2 9 66,K 66 67,N 67 68,D .gtr 68 12 69,M 69 65]<|
 c 65 (r [gU [.bool false,.bool false,.ai] [] 70,W 3 2 70,V z0 3,V (i6 24) 4]<|
 .ret) (r [L 3 9 72,C 154 [t 72] 73,D .neq 73 0 74,M 74 71]<|
 c 71 (r [gU [.bool false,.bool false,.ai] [] 75,W 3 2 75,V z0 3,V (i6 12) 4]<|
 .ret) k)))))<|
 r [L 3 9 76,W 3 2 76,V z0 3,V z0 4]<|
 .ret):=bt Tryz.func231
def Ak: Of aE 232 54 [.tmp 6] (r [X 0 3,V z0 6]<|
 q (r [L 3 3 15,C 154 [t 15] 16,M 16 7]<|
 r [M 7 17,D .neq 17 0 18]<|
 c 18 (r [M 7 19,M 19 6]<|
 .ret) k)<|
 q (r [A 2 3 20,K 20 21,N 21 22,V z0 23]<|
 .block 0 (.loop (r [B .lss 23 22 24]<|
 q (c 24 k (.exit 0))<|
 q (.block 1 (r [I true 15 21 23 25,L 15 25 26,J [z0,z0,z0,z0,e0,e0,.ai,z0,z0,z0,e0,e0,.ai,.bool false,.bool false] 9,W 15 9 26]<|
 r [gT 10]<|
 q (r [L 15 9 27,C 266 [t 27] 28,N 28 29,V z0 30]<|
 .block 2 (.loop (r [B .lss 30 29 31]<|
 q (c 31 k (.exit 2))<|
 q (.block 3 (r [I true 6 28 30 32,L 6 32 33,J [z0,z0,z0,e0,e0,.ai] 12,W 6 12 33]<|
 r [L 6 12 35,M 2 36,C 234 [t 35,t 36] 37,M 37 34,E 34 0 38,E 34 1 39,M 38 13,M 39 14]<|
 gR [M 14 40,D .neq 40 0 41] 41 [M 14 42,M 42 6]<|
 R [M 10 43,M 43 44,LT 15 9 45 44,MT 1 46 44,MT 13 47 44,CT 267 [t 45,t 46,t 47] 48 44,P 44 48 49,M 49 10]))<|
 R [D .add 30 1 50,M 50 30])))<|
 r [M 10 51,U 51 52]<|
 c 52 (r [V (i6 14) 6]<|
 .ret) k))<|
 R [D .add 23 1 53,M 53 23])))<|
 r [V z0 6]<|
 .ret):=bt Tryz.func232
def lX: Of aE 233 51 [.cell 2 true 6,.tmp 3,.tmp 4] (r [J [z0,z0,z0,e0,e0,.ai] 2,V z0 3,V z0 4]<|
 r [M 0 11,C 222 [t 11] 12,M 12 10,E 10 0 13,E 10 1 14,E 10 2 15,M 13 5,M 14 6,M 15 7]<|
 gR [M 7 16,D .neq 16 0 17] 17 [gU [z0,z0,z0,e0,e0,.ai] [] 18,M 6 19,M 7 20,W 6 2 18,M 19 3,M 20 4]<|
 r [M 5 22,C 268 [t 22,.c z0,.c z0] 23,M 23 21,E 21 0 24,E 21 1 25,E 21 2 26,J [z0,z0,z0,e0,e0,.ai] 8,W 6 8 24,M 25 9,M 26 7]<|
 q (.block 0 (r [M 9 28,M 5 29,N 29 30,B .lss 28 30 31,M 31 27]<|
 c 27 (q (.draw [gU [z0,z0,z0,e0,e0,.ai] [] 32,M 5 33,M 9 34,I true 4 33 34 35,A 3 35 36,K 36 37,W 6 2 32,M 37 3,V (i6 11) 4] [(t 36,t 2)])<|
 .ret) (r [M 7 39,D .neq 39 0 40,M 40 38]<|
 c 38 (r [gU [z0,z0,z0,e0,e0,.ai] [] 41,M 0 42,S 42 43,M 7 44,W 6 2 41,M 43 3,M 44 4]<|
 .ret) (r [L 6 8 46,C 157 [t 46] 47,D .gtr 47 12 48,M 48 45]<|
 c 45 (r [gU [z0,z0,z0,e0,e0,.ai] [] 49,W 6 2 49,V z0 3,V (i6 12) 4]<|
 .ret) k))))<|
 r [L 6 8 50,W 6 2 50,V z0 3,V z0 4]<|
 .ret):=bt Tryz.func233
def ya: Of aE 234 17 [.tmp 4,.tmp 5] (r [X 0 2,V z0 4,V z0 5]<|
 q (r [L 6 2 7,C 269 [t 7] 8,M 8 6]<|
 r [M 6 9,D .neq 9 0 10]<|
 c 10 (r [M 6 11,V z0 4,M 11 5]<|
 .ret) k)<|
 r [L 6 2 12,M 1 13,C 270 [t 12,t 13] 14,E 14 0 15,E 14 1 16,M 15 4,M 16 5]<|
 .ret):=bt Tryz.func234
def IL: Of aE 235 16 [.tmp 4] (r [gF 4]<|
 r [M 0 5,M 1 6,B .eql 5 6 7,M 7 8,MF 0 9 8,DF .eql 9 0 10 8,O 8 10 11,M 11 12,MF 1 13 12,DF .eql 13 0 14 12,O 12 14 15,M 15 4]<|
 .ret):=bt Tryz.func235
def vG: Of aE 236 19 [.tmp 4] (r [V z0 4]<|
 q (r [M 0 6,N 6 7,V z0 8]<|
 .block 0 (.loop (r [B .lss 8 7 9]<|
 q (c 9 k (.exit 0))<|
 q (.block 1 (r [M 8 10,M 10 5]<|
 r [M 1 11,M 0 12,M 5 13,I true 15 12 13 14,L 15 14 15,aU (.call false (t 11) [t 15]) 16]<|
 c 16 (r [M 5 17,M 17 4]<|
 .ret) k))<|
 R [D .add 8 1 18,M 18 8])))<|
 r [V (i6 (-1)) 4]<|
 .ret):=bt Tryz.func236
def Mr: Of aE 237 11 [.tmp 2] (r [X 0 1,gF 2]<|
 r [L 6 1 3,C 269 [t 3] 4,D .eql 4 0 5,M 5 6,LT 6 1 7 6,CT 157 [t 7] 8 6,DT .leq 8 12 9 6,P 6 9 10,M 10 2]<|
 .ret):=bt Tryz.func237
def IN: Of aE 238 31 [.tmp 4] (r [X 0 2,X 1 3,gF 4]<|
 r [A 0 2 5,K 5 6,A 0 3 7,K 7 8,B .eql 6 8 9,M 9 10,AT 1 2 11 10,LT 3 11 12 10,AT 1 3 13 10,LT 3 13 14 10,⟨.oa false true [.i,.i,.s] (t 12) (t 14),(some 15),some (10,true)⟩,P 10 15 16,M 16 17,AT 4 2 18 17,KT 18 19 17,AT 4 3 20 17,KT 20 21 17,BT .eql 19 21 22 17,P 17 22 23,M 23 24,AT 5 2 25 24,KT 25 26 24,AT 5 3 27 24,KT 27 28 24,CT 271 [t 26,t 28,(.c (.fn (.func 238) [] []))] 29 24,P 24 29 30,M 30 4]<|
 .ret):=bt Tryz.func238
def Rp: Of aE 239 8 [.cell 2 true 2] (r [X 0 1,J [.bool false,.bool false] 2]<|
 r [A 13 1 3,K 3 4,A 14 1 5,K 5 6,gU [.bool false,.bool false] [(0,1,t 4),(1,1,t 6)] 7,W 2 2 7]<|
 .ret):=bt Tryz.func239
def vH: Of aE 240 19 [.tmp 4] (r [V z0 4]<|
 q (r [M 0 6,N 6 7,V z0 8]<|
 .block 0 (.loop (r [B .lss 8 7 9]<|
 q (c 9 k (.exit 0))<|
 q (.block 1 (r [M 8 10,M 10 5]<|
 r [M 1 11,M 0 12,M 5 13,I true 6 12 13 14,L 6 14 15,aU (.call false (t 11) [t 15]) 16]<|
 c 16 (r [M 5 17,M 17 4]<|
 .ret) k))<|
 R [D .add 8 1 18,M 18 8])))<|
 r [V (i6 (-1)) 4]<|
 .ret):=bt Tryz.func240
def Bx: Of aE 241 14 [.tmp 0] (r [V .ai 0]<|
 r [gU [z0,e0,z0] [(0,1,gJ 4),(1,1,gS [43]),(2,1,gJ 4)] 1,gU [z0,e0,z0] [(0,1,gJ 5),(1,1,gS [45]),(2,1,gJ 4)] 2,gU [z0,e0,z0] [(0,1,gJ 6),(1,1,gS [42]),(2,1,gJ 5)] 3,gU [z0,e0,z0] [(0,1,gJ 7),(1,1,gS [47]),(2,1,gJ 5)] 4,gU [z0,e0,z0] [(0,1,gJ 8),(1,1,gS [61]),(2,1,gJ 3)] 5,gU [z0,e0,z0] [(0,1,gJ 9),(1,1,gS [33,61]),(2,1,gJ 3)] 6,gU [z0,e0,z0] [(0,1,gJ 10),(1,1,gS [60]),(2,1,gJ 3)] 7,gU [z0,e0,z0] [(0,1,gJ 11),(1,1,gS [60,61]),(2,1,gJ 3)] 8,gU [z0,e0,z0] [(0,1,gJ 12),(1,1,gS [62]),(2,1,gJ 3)] 9,gU [z0,e0,z0] [(0,1,gJ 13),(1,1,gS [62,61]),(2,1,gJ 3)] 10,gU [z0,e0,z0] [(0,1,gJ 14),(1,1,gS [97,110,100]),(2,1,gJ 2)] 11,gU [z0,e0,z0] [(0,1,gJ 15),(1,1,gS [111,114]),(2,1,gJ 1)] 12,gB true 3 (.agg [z0,e0,z0]) 12 [(0,t 1),(1,t 2),(2,t 3),(3,t 4),(4,t 5),(5,t 6),(6,t 7),(7,t 8),(8,t 9),(9,t 10),(10,t 11),(11,t 12)] 13,M 13 0]<|
 .ret):=bt Tryz.func241
def tU: Of aE 244 16 [.tmp 4] (r [V .ai 4]<|
 gR [M 1 5,aU (.ld .u32 (t 5)) 6,aU (.bin .leq (t 6) (.c (.int .u32 127))) 7] 7 [M 0 8,M 1 9,aU (.ld .u8 (t 9)) 10,gB false 1 (.int .u8 0) 1 [(0,t 10)] 11,aU (.app (some 5) ⟨false,1⟩ (t 8) (t 11)) 12,M 12 4]<|
 r [M 0 13,M 1 14,C 272 [t 13,t 14] 15,M 15 4]<|
 .ret):=mM ⟨[],[],[],[12],[],[]⟩ Tryz.func244
def vI: Of aE 245 47 [.tmp 2] (r [V z0 2]<|
 gR [M 0 4,N 4 5,D .gtr 5 6 6] 6 [V (i6 24) 2]<|
 q (r [V z0 3]<|
 gL 0 [M 3 7,M 0 8,N 8 9,B .lss 7 9 10] 10 ((
 q (.block 1 (.block 2 (r [M 0 14,M 3 15,I true 3 14 15 16,A 0 16 17,K 17 18,C 50 [t 18] 19,U 19 20,M 20 21,MF 0 22 21,MF 0 23 21,MF 3 24 21,IF true 3 23 24 25 21,AF 0 25 26 21,KF 26 27 21,CF 273 [t 22,t 27] 28 21,MF 3 29 21,BF .lss 28 29 30 21,O 21 30 31,M 31 13]<|
 c 13 (r [V (i6 13) 2]<|
 .ret) (r [M 0 33,M 3 34,I true 3 33 34 35,A 1 35 36,K 36 37,D .lss 37 1 38,M 38 39,MF 0 40 39,MF 3 41 39,IF true 3 40 41 42 39,AF 1 42 43 39,KF 43 44 39,DF .gtr 44 3 45 39,O 39 45 46,M 46 32]<|
 c 32 (r [V (i6 14) 2]<|
 .ret) k))))<|
 R [M 3 11,D .add 11 1 12,M 12 3])))<|
 r [V z0 2]<|
 .ret):=bt Tryz.func245
def yb: Of aE 246 64 [.tmp 4] (r [X 0 2,gF 4]<|
 gR [M 1 7,U 7 8] 8 [A 2 2 9,K 9 10,N 10 11,D .eql 11 0 12,M 12 4]<|
 q (r [V z0 5]<|
 gL 0 [M 5 13,A 2 2 14,K 14 15,N 15 16,B .lss 13 16 17] 17 ((
 q (.block 1 (q (q (.draw [A 2 2 20,K 20 21,M 5 22,I true 3 21 22 23,L 3 23 24,Q 97 [t 24] 25,U 25 26,M 26 27,AF 2 2 28 27,KF 28 29 27,MF 5 30 27,IF true 3 29 30 31 27,AF 0 31 32 27,KF 32 33 27,AF 1 2 34 27,KF 34 35 27,BF .neq 33 35 36 27,O 27 36 37] [])<|
 c 37 (r [gF 4]<|
 .ret) k)<|
 r [V z0 6]<|
 gL 2 [M 6 38,M 5 39,B .lss 38 39 40] 40 ((
 q (.block 3 (q (.draw [A 2 2 43,K 43 44,M 6 45,I true 3 44 45 46,L 3 46 47,A 2 2 48,K 48 49,M 5 50,I true 3 49 50 51,L 3 51 52,aU (.oa false true [.i,.i,.s] (t 47) (t 52)) 53] [])<|
 c 53 (r [gF 4]<|
 .ret) k))<|
 R [M 6 41,D .add 41 1 42,M 42 6]))))<|
 R [M 5 18,D .add 18 1 19,M 19 5])))<|
 r [A 2 2 54,K 54 55,N 55 56,D .geq 56 1 57,M 57 58,AT 2 2 59 58,KT 59 60 58,NT 60 61 58,DT .leq 61 8 62 58,P 58 62 63,M 63 4]<|
 .ret):=bt Tryz.func246
def By: Of aE 247 45 [.tmp 2,.tmp 3,.tmp 4] (r [V .ai 2,V z0 3,V z0 4]<|
 gR [M 0 10,S 10 11,D .gtr 11 200 12] 12 [V .ai 2,V z0 3,V (i6 5) 4]<|
 r [aU (.jI ⟨true,4⟩) 5]<|
 q (r [V z0 6]<|
 gL 0 [M 6 13,M 0 14,S 14 15,B .lss 13 15 16] 16 ((
 .block 1 (q (r [M 0 17,M 6 18,aU (.fU (t 17) (t 18)) 19,aU (.bin .eql (t 19) (.c (.int .u8 32))) 20]<|
 c 20 (r [M 6 21,D .add 21 1 22,M 22 6]<|
 .exit 1) k)<|
 r [M 0 24,M 6 25,aU (.lf (t 24) (some (t 25)) none) 26,C 274 [t 26] 27,M 27 23,E 23 0 28,E 23 1 29,E 23 2 30,J [z0,e0,z0,z0] 7,W 4 7 28,M 29 8,M 30 9]<|
 gR [M 9 31,D .neq 31 0 32] 32 [M 6 33,M 9 34,V .ai 2,M 33 3,M 34 4]<|
 r [M 6 35,A 3 7 36,W 1 36 35]<|
 r [M 5 37,L 4 7 38,gB true 4 (.agg [z0,e0,z0,z0]) 1 [(0,t 38)] 39,gA true 4 37 39 40,M 40 5]<|
 R [M 6 41,M 8 42,B .add 41 42 43,M 43 6]))))<|
 r [M 5 44,M 44 2,V z0 3,V z0 4]<|
 .ret):=mM ⟨[],[],[(5,⟨true,4⟩)],[],[],[]⟩ Tryz.func247
def Bz: Of aE 248 51 [.tmp 4] (r [gF 4]<|
 q (.draw [M 0 5,Z 5 6,A 2 6 7,K 7 8,U 8 9,M 9 10,MT 0 11 10,ZT 11 12 10,AT 1 12 13 10,KT 13 14 10,MT 0 15 10,ZT 15 16 10,AT 0 16 17 10,KT 17 18 10,NT 18 19 10,BT .lss 14 19 20 10,P 10 20 21,M 21 22,MT 0 23 22,ZT 23 24 22,AT 0 24 25 22,KT 25 26 22,MT 0 27 22,ZT 27 28 22,AT 1 28 29 22,KT 29 30 22,IT true 4 26 30 31 22,AT 0 31 32 22,KT 32 33 22,DT .eql 33 4 34 22,P 22 34 35,M 35 36,MT 0 37 36,ZT 37 38 36,AT 0 38 39 36,KT 39 40 36,MT 0 41 36,ZT 41 42 36,AT 1 42 43 36,KT 43 44 36,IT true 4 40 44 45 36,AT 1 45 46 36,KT 46 47 36,MT 1 48 36,BT .eql 47 48 49 36,P 36 49 50,M 50 4] [])<|
 .ret):=bt Tryz.func248
def ze: Of aE 249 78 [.cell 2 true 15] (r [J [z0,z0,z0,z0,e0,e0,.ai,z0,z0,z0,e0,e0,.ai,.bool false,.bool false] 2]<|
 q (r [V (i6 2) 3]<|
 gL 0 [M 3 5,D .leq 5 5 6] 6 ((
 q (.block 1 (r [M 0 9,M 3 10,C 217 [t 10] 11,C 248 [t 9,t 11] 12]<|
 c 12 (r [M 0 13,Z 13 14,A 1 14 15,K 15 16,D .add 16 1 17,Z 13 18,A 1 18 19,W 1 19 17]<|
 r [M 3 20,M 0 21,C 275 [t 21] 22,gU [z0,z0,z0,z0,e0,e0,.ai,z0,z0,z0,e0,e0,.ai,.bool false,.bool false] [(0,1,t 20),(1,6,t 22)] 23,W 15 2 23]<|
 .ret) k))<|
 R [M 3 7,D .add 7 1 8,M 8 3])))<|
 gR [M 0 24,C 248 [t 24,gS [91]] 25,U 25 26,M 26 27,MT 0 28 27,CT 248 [t 28,gS [93]] 29 27,UT 29 30 27,P 27 30 31] 31 [M 0 32,C 275 [t 32] 33,gU [z0,z0,z0,z0,e0,e0,.ai,z0,z0,z0,e0,e0,.ai,.bool false,.bool false] [(0,1,gJ 1),(1,6,t 33)] 34,W 15 2 34]<|
 r [M 0 35,C 248 [t 35,gS [93]] 36,gU [z0,z0,z0,z0,e0,e0,.ai,z0,z0,z0,e0,e0,.ai,.bool false,.bool false] [(0,1,gJ 6),(13,1,t 36)] 37,J [z0,z0,z0,z0,e0,e0,.ai,z0,z0,z0,e0,e0,.ai,.bool false,.bool false] 4,W 15 4 37]<|
 r [M 0 38,Z 38 39,A 1 39 40,K 40 41,D .add 41 1 42,Z 38 43,A 1 43 44,W 1 44 42]<|
 r [M 0 45,C 275 [t 45] 46,A 1 4 47,W 6 47 46]<|
 q (r [M 0 48,Z 48 49,A 2 49 50,K 50 51,U 51 52]<|
 c 52 (R [M 0 53,C 250 [t 53,gS [46,46]] 54]) k)<|
 r [M 0 55,C 275 [t 55] 56,A 7 4 57,W 6 57 56]<|
 r [M 0 58,C 248 [t 58,gS [91]] 59,A 14 4 60,W 1 60 59]<|
 q (r [A 14 4 61,K 61 62]<|
 c 62 (R [M 0 63,Z 63 64,A 1 64 65,K 65 66,D .add 66 1 67,Z 63 68,A 1 68 69,W 1 69 67]) (r [M 0 70,Z 70 71,A 2 71 72,K 72 73,U 73 74]<|
 c 74 (R [M 0 75,C 250 [t 75,gS [93]] 76]) k))<|
 r [L 15 4 77,W 15 2 77]<|
 .ret):=bt Tryz.func249
def zf: Of aE 250 17 [] (r [M 0 4,M 1 5,C 248 [t 4,t 5] 6]<|
 c 6 (R [M 0 7,Z 7 8,A 1 8 9,K 9 10,D .add 10 1 11,Z 7 12,A 1 12 13,W 1 13 11]) (R [M 0 14,Z 14 15,A 2 15 16,⟨.store 1 (t 16) (.c (.bool true)),none,none⟩])):=bt Tryz.func250
def K9: Of aE 251 23 [.tmp 6] (r [X 0 3,gF 6]<|
 r [M 1 7,M 2 8,C 214 [t 7,t 8] 9,M 9 10,AT 0 3 11 10,KT 11 12 10,DT .eql 12 1 13 10,MT 13 14 10,MF 1 15 14,DF .neq 15 3 16 14,MF 16 17 14,MT 2 18 17,DT .neq 18 3 19 17,PF 17 19 20 14,OT 14 20 21 10,P 10 21 22,M 22 6]<|
 .ret):=bt Tryz.func251
def tV: Of aE 252 49 [.cell 6 true 6,.tmp 7,.tmp 8] (r [J [z0,z0,z0,e0,e0,.ai] 6,V z0 7,V z0 8]<|
 gR [M 1 11,D .lss 11 0 12,M 12 13,MF 1 14 13,MF 0 15 13,NF 15 16 13,BF .gtr 14 16 17 13,O 13 17 18,M 18 19,MF 2 20 19,DF .lss 20 0 21 19,O 19 21 22,M 22 23,MF 2 24 23,DF .gtr 24 7 25 23,O 23 25 26] 26 [gU [z0,z0,z0,e0,e0,.ai] [] 27,W 6 6 27,V z0 7,V (i6 2) 8]<|
 r [M 0 28,M 1 29,gU [.ai,z0,.bool false] [(0,1,t 28),(1,1,t 29)] 30,X 30 31,M 31 9]<|
 r [M 9 32,M 2 33,C 276 [t 32,t 33] 34,J [z0,z0,z0,e0,e0,.ai] 10,W 6 10 34]<|
 q (r [M 9 35,Z 35 36,A 2 36 37,K 37 38]<|
 c 38 (q (.draw [gU [z0,z0,z0,e0,e0,.ai] [] 39,M 9 40,Z 40 41,A 1 41 42,K 42 43,W 6 6 39,M 43 7,V (i6 11) 8] [(t 42,t 6)])<|
 .ret) k)<|
 q (.draw [L 6 10 44,M 9 45,Z 45 46,A 1 46 47,K 47 48,W 6 6 44,M 48 7,V z0 8] [(t 47,t 6)])<|
 .ret):=bt Tryz.func252
def qh: Of aE 253 61 [.tmp 4,.tmp 5] (r [X 0 2,V z0 4,V z0 5]<|
 q (r [A 0 2 11,K 11 12]<|
 .block 0 (r [D .eql 12 1 14,M 14 13]<|
 c 13 (r [A 1 2 15,A 0 15 16,K 16 17,M 17 4,V z0 5]<|
 .ret) (r [D .eql 12 2 19,M 19 18]<|
 c 18 (r [M 1 20,A 4 2 21,K 21 22,C 273 [t 20,t 22] 23,M 23 6]<|
 gR [M 6 24,D .lss 24 0 25] 25 [V z0 4,V (i6 13) 5]<|
 r [M 1 26,M 6 27,I true 3 26 27 28,A 1 28 29,K 29 30,M 30 4,V z0 5]<|
 .ret) k)))<|
 r [aU (.jI ⟨false,1⟩) 7]<|
 q (r [V z0 8]<|
 gL 1 [M 8 31,A 5 2 32,K 32 33,N 33 34,B .lss 31 34 35] 35 ((
 q (.block 2 (r [A 5 2 39,K 39 40,M 8 41,I true 6 40 41 42,L 6 42 43,M 1 44,C 253 [t 43,t 44] 45,M 45 38,E 38 0 46,E 38 1 47,M 46 9,M 47 10]<|
 gR [M 10 48,D .neq 48 0 49] 49 [M 10 50,V z0 4,M 50 5]<|
 R [M 7 51,M 9 52,gB false 1 z0 1 [(0,t 52)] 53,gA false 1 51 53 54,M 54 7]))<|
 R [M 8 36,D .add 36 1 37,M 37 8])))<|
 r [A 0 2 55,K 55 56,M 7 57,C 277 [t 56,t 57] 58,E 58 0 59,E 58 1 60,M 59 4,M 60 5]<|
 .ret):=mM ⟨[],[],[(7,⟨false,1⟩)],[],[],[]⟩ Tryz.func253
def K_: Of aE 254 10 [.tmp 2] (r [X 0 1,gF 2]<|
 r [L 6 1 3,C 174 [t 3] 4,M 4 5,LT 6 1 6 5,CT 175 [t 6] 7 5,DT .leq 7 12 8 5,P 5 8 9,M 9 2]<|
 .ret):=bt Tryz.func254
def La: Of aE 255 53 [.tmp 4] (r [X 0 2,X 1 3,gF 4]<|
 gR [A 0 2 6,K 6 7,A 0 3 8,K 8 9,B .neq 7 9 10,M 10 11,AF 1 2 12 11,LF 3 12 13 11,AF 1 3 14 11,LF 3 14 15 11,⟨.oa true true [.i,.i,.s] (t 13) (t 15),(some 16),some (11,false)⟩,O 11 16 17,M 17 18,AF 4 2 19 18,KF 19 20 18,AF 4 3 21 18,KF 21 22 18,BF .neq 20 22 23 18,O 18 23 24,M 24 25,AF 5 2 26 25,KF 26 27 25,NF 27 28 25,AF 5 3 29 25,KF 29 30 25,NF 30 31 25,BF .neq 28 31 32 25,O 25 32 33] 33 [gF 4]<|
 q (r [V z0 5]<|
 gL 0 [M 5 34,A 5 2 35,K 35 36,N 36 37,B .lss 34 37 38] 38 ((
 q (.block 1 (q (.draw [A 5 2 41,K 41 42,M 5 43,I true 6 42 43 44,L 6 44 45,A 5 3 46,K 46 47,M 5 48,I true 6 47 48 49,L 6 49 50,Q 255 [t 45,t 50] 51,U 51 52] [])<|
 c 52 (r [gF 4]<|
 .ret) k))<|
 R [M 5 39,D .add 39 1 40,M 40 5])))<|
 r [gT 4]<|
 .ret):=bt Tryz.func255
def Ou: Of aE 256 32 [.cell 2 true 5,.tmp 3] (r [J [z0,e0,z0,z0,z0] 2,V z0 3]<|
 q (r [M 0 5,aU (.fU (t 5) (.c z0)) 6,M 6 4]<|
 .block 0 (r [M 4 8,C 124 [t 8] 9,M 9 7]<|
 c 7 (r [M 0 10,C 278 [t 10] 11,E 11 0 12,E 11 1 13,W 5 2 12,M 13 3]<|
 .ret) (r [M 4 15,C 127 [t 15] 16,M 16 14]<|
 c 14 (r [M 0 17,C 279 [t 17] 18,E 18 0 19,E 18 1 20,W 5 2 19,M 20 3]<|
 .ret) (r [M 4 22,aU (.bin .eql (t 22) (.c (.int .u8 34))) 23,M 23 21]<|
 c 21 (r [M 0 24,C 280 [t 24] 25,E 25 0 26,E 25 1 27,W 5 2 26,M 27 3]<|
 .ret) k))))<|
 r [M 0 28,C 281 [t 28] 29,E 29 0 30,E 29 1 31,W 5 2 30,M 31 3]<|
 .ret):=bt Tryz.func256
def Ms: Of aE 261 8 [.tmp 4] (r [X 1 3,V z0 4]<|
 r [M 0 5,aU (.vp (.func 287) [] [t 3]) 6,C 262 [t 5,t 6] 7,M 7 4]<|
 .ret):=bt Tryz.func261
def tW: Of aE 262 19 [.tmp 4] (r [V z0 4]<|
 q (r [M 0 6,N 6 7,V z0 8]<|
 .block 0 (.loop (r [B .lss 8 7 9]<|
 q (c 9 k (.exit 0))<|
 q (.block 1 (r [M 8 10,M 10 5]<|
 r [M 1 11,M 0 12,M 5 13,I true 3 12 13 14,L 3 14 15,aU (.call false (t 11) [t 15]) 16]<|
 c 16 (r [M 5 17,M 17 4]<|
 .ret) k))<|
 R [D .add 8 1 18,M 18 8])))<|
 r [V (i6 (-1)) 4]<|
 .ret):=bt Tryz.func262
def yc: Of aE 263 19 [.tmp 4] (r [X 1 3,V z0 4]<|
 q (r [M 0 6,N 6 7,V z0 8]<|
 .block 0 (.loop (r [B .lss 8 7 9]<|
 q (c 9 k (.exit 0))<|
 q (.block 1 (r [M 8 10,M 10 5]<|
 q (.draw [L 3 3 11,M 0 12,M 5 13,I true 3 12 13 14,L 3 14 15,aU (.oa false true [.i,.i,.s] (t 11) (t 15)) 16] [])<|
 c 16 (r [M 5 17,M 17 4]<|
 .ret) k))<|
 R [D .add 8 1 18,M 18 8])))<|
 r [V (i6 (-1)) 4]<|
 .ret):=bt Tryz.func263
def sn: Of aE 264 38 [.tmp 2] (r [V e0 2]<|
 q (q (.draw [M 0 3,Z 3 4,A 1 4 5,K 5 6,M 0 7,Z 7 8,A 0 8 9,K 9 10,N 10 11,B .lss 6 11 12,M 12 13,MT 0 14 13,ZT 14 15 13,AT 0 15 16 13,KT 16 17 13,MT 0 18 13,ZT 18 19 13,AT 1 19 20 13,KT 20 21 13,IT true 4 17 21 22 13,AT 0 22 23 13,KT 23 24 13,DT .eql 24 4 25 13,P 13 25 26] [])<|
 c 26 (q (.draw [M 0 27,Z 27 28,A 0 28 29,K 29 30,M 0 31,Z 31 32,A 1 32 33,K 33 34,I true 4 30 34 35,A 1 35 36,K 36 37,M 37 2] [])<|
 .ret) k)<|
 r [V e0 2]<|
 .ret):=bt Tryz.func264
def AG: Of aE 265 32 [.cell 2 true 3] (r [J [.bool false,.bool false,.ai] 2]<|
 r [J [.bool false,.bool false,.ai] 3]<|
 q (r [M 0 4,Z 4 5,A 0 5 6,A 0 6 7,K 7 8,C 288 [t 8] 9,A 1 3 10,W 1 10 9]<|
 r [A 1 3 11,K 11 12]<|
 c 12 (R [M 0 13,Z 13 14,A 0 14 15,A 1 15 16,⟨.store 1 (t 16) (gJ 2),none,none⟩]) k)<|
 q (.block 0 (.loop (.block 1 (q (.draw [A 2 3 17,K 17 18,M 0 19,aU (.mJ (.c (.fn (.func 289) [] [])) [t 19]) 20,gB true 15 (.agg [z0,z0,z0,z0,e0,e0,.ai,z0,z0,z0,e0,e0,.ai,.bool false,.bool false]) 1 [(0,t 20)] 21,gA true 15 18 21 22,A 2 3 23,W 1 23 22] [(t 17,t 19)])<|
 r [M 0 24,C 290 [t 24,gS [44]] 25,U 25 26]<|
 c 26 (.exit 0) k))))<|
 q (r [A 1 3 27,K 27 28]<|
 c 28 (R [M 0 29,C 291 [t 29,gS [41]] 30]) k)<|
 r [L 3 3 31,W 3 2 31]<|
 .ret):=mM ⟨[],[],[],[],[20],[]⟩ Tryz.func265
def Al: Of aE 266 14 [.tmp 2] (r [X 0 1,V .ai 2]<|
 gR [A 0 1 3,K 3 4,D .eql 4 6 5] 5 [A 1 1 6,L 6 6 7,A 7 1 8,L 6 8 9,gB true 6 (.agg [z0,z0,z0,e0,e0,.ai]) 2 [(0,t 7),(1,t 9)] 10,M 10 2]<|
 r [A 1 1 11,L 6 11 12,gB true 6 (.agg [z0,z0,z0,e0,e0,.ai]) 1 [(0,t 12)] 13,M 13 2]<|
 .ret):=bt Tryz.func266
def Mt: Of aE 267 23 [.tmp 6] (r [X 0 3,gF 6]<|
 r [M 1 7,M 2 8,C 235 [t 7,t 8] 9,M 9 10,AT 0 3 11 10,KT 11 12 10,DT .eql 12 1 13 10,MT 13 14 10,MF 1 15 14,DF .neq 15 3 16 14,MF 16 17 14,MT 2 18 17,DT .neq 18 3 19 17,PF 17 19 20 14,OT 14 20 21 10,P 10 21 22,M 22 6]<|
 .ret):=bt Tryz.func267
def sK: Of aE 268 49 [.cell 6 true 6,.tmp 7,.tmp 8] (r [J [z0,z0,z0,e0,e0,.ai] 6,V z0 7,V z0 8]<|
 gR [M 1 11,D .lss 11 0 12,M 12 13,MF 1 14 13,MF 0 15 13,NF 15 16 13,BF .gtr 14 16 17 13,O 13 17 18,M 18 19,MF 2 20 19,DF .lss 20 0 21 19,O 19 21 22,M 22 23,MF 2 24 23,DF .gtr 24 7 25 23,O 23 25 26] 26 [gU [z0,z0,z0,e0,e0,.ai] [] 27,W 6 6 27,V z0 7,V (i6 2) 8]<|
 r [M 0 28,M 1 29,gU [.ai,z0,.bool false] [(0,1,t 28),(1,1,t 29)] 30,X 30 31,M 31 9]<|
 r [M 9 32,M 2 33,C 292 [t 32,t 33] 34,J [z0,z0,z0,e0,e0,.ai] 10,W 6 10 34]<|
 q (r [M 9 35,Z 35 36,A 2 36 37,K 37 38]<|
 c 38 (q (.draw [gU [z0,z0,z0,e0,e0,.ai] [] 39,M 9 40,Z 40 41,A 1 41 42,K 42 43,W 6 6 39,M 43 7,V (i6 11) 8] [(t 42,t 6)])<|
 .ret) k)<|
 q (.draw [L 6 10 44,M 9 45,Z 45 46,A 1 46 47,K 47 48,W 6 6 44,M 48 7,V z0 8] [(t 47,t 6)])<|
 .ret):=bt Tryz.func268
def Gq: Of aE 269 6 [.tmp 2] (r [X 0 1,V z0 2]<|
 gR [L 6 1 3,C 156 [t 3] 4,U 4 5] 5 [V (i6 2) 2]<|
 r [V z0 2]<|
 .ret):=bt Tryz.func269
def oZ: Of aE 270 65 [.tmp 4,.tmp 5] (r [X 0 2,V z0 4,V z0 5]<|
 q (r [A 0 2 14,K 14 15]<|
 .block 0 (r [D .eql 15 1 17,M 17 16]<|
 c 16 (r [A 1 2 18,A 0 18 19,K 19 20,M 20 4,V z0 5]<|
 .ret) (r [D .eql 15 2 22,M 22 21]<|
 c 21 (r [M 1 23,A 4 2 24,K 24 25,C 261 [t 23,t 25] 26,M 26 6]<|
 gR [M 6 27,D .lss 27 0 28] 28 [V z0 4,V (i6 13) 5]<|
 r [M 1 29,M 6 30,I true 3 29 30 31,A 1 31 32,K 32 33,M 33 4,V z0 5]<|
 .ret) k)))<|
 r [aU (.jI ⟨false,1⟩) 7]<|
 q (r [A 5 2 34,K 34 35,N 35 36,V z0 37]<|
 .block 1 (.loop (r [B .lss 37 36 38]<|
 q (c 38 k (.exit 1))<|
 q (.block 2 (r [I true 6 35 37 39,L 6 39 40,J [z0,z0,z0,e0,e0,.ai] 9,W 6 9 40]<|
 r [L 6 9 42,M 1 43,C 270 [t 42,t 43] 44,M 44 41,E 41 0 45,E 41 1 46,M 45 10,M 46 11]<|
 gR [M 11 47,D .neq 47 0 48] 48 [M 11 49,V z0 4,M 49 5]<|
 R [M 7 50,M 10 51,gB false 1 z0 1 [(0,t 51)] 52,gA false 1 50 52 53,M 53 7]))<|
 R [D .add 37 1 54,M 54 37])))<|
 r [A 0 2 56,K 56 57,M 7 58,C 293 [t 57,t 58] 59,M 59 55,E 55 0 60,E 55 1 61,M 60 12,M 61 13]<|
 gR [M 13 62,U 62 63] 63 [V z0 4,V (i6 14) 5]<|
 r [M 12 64,M 64 4,V z0 5]<|
 .ret):=mM ⟨[],[],[(7,⟨false,1⟩)],[],[],[]⟩ Tryz.func270
def vJ: Of aE 271 32 [.tmp 6] (r [gF 6]<|
 gR [M 0 10,N 10 11,M 1 12,N 12 13,B .neq 11 13 14] 14 [gF 6]<|
 q (r [M 0 15,N 15 16,V z0 17]<|
 .block 0 (.loop (r [B .lss 17 16 18]<|
 q (c 18 k (.exit 0))<|
 q (.block 1 (r [M 17 19,I true 6 15 17 20,L 6 20 21,J [z0,z0,z0,e0,e0,.ai] 8,M 19 7,W 6 8 21]<|
 r [M 1 22,M 7 23,I true 6 22 23 24,L 6 24 25,J [z0,z0,z0,e0,e0,.ai] 9,W 6 9 25]<|
 r [M 2 26,L 6 8 27,L 6 9 28,aU (.call false (t 26) [t 27,t 28]) 29,U 29 30]<|
 c 30 (r [gF 6]<|
 .ret) k))<|
 R [D .add 17 1 31,M 31 17])))<|
 r [gT 6]<|
 .ret):=bt Tryz.func271
def Ov: Of aE 273 20 [.tmp 4] (r [V z0 4]<|
 q (r [V z0 5]<|
 gL 0 [M 5 6,M 0 7,N 7 8,B .lss 6 8 9] 9 ((
 q (.block 1 (r [M 0 12,M 5 13,I true 3 12 13 14,A 0 14 15,K 15 16,M 1 17,B .eql 16 17 18]<|
 c 18 (r [M 5 19,M 19 4]<|
 .ret) k))<|
 R [M 5 10,D .add 10 1 11,M 11 5])))<|
 r [V (i6 (-1)) 4]<|
 .ret):=bt Tryz.func273
def Mu: Of aE 274 74 [.cell 2 true 4,.tmp 3,.tmp 4] (r [J [z0,e0,z0,z0] 2,V z0 3,V z0 4]<|
 q (.block 0 (r [M 0 8,aU (.fU (t 8) (.c z0)) 9,C 139 [t 9] 10,M 10 7]<|
 c 7 (r [M 0 11,C 294 [t 11] 12,E 12 0 13,E 12 1 14,E 12 2 15,W 4 2 13,M 14 3,M 15 4]<|
 .ret) (r [M 0 17,aU (.fU (t 17) (.c z0)) 18,C 140 [t 18] 19,M 19 16]<|
 c 16 (r [M 0 20,C 295 [t 20] 21,E 21 0 22,E 21 1 23,E 21 2 24,W 4 2 22,M 23 3,M 24 4]<|
 .ret) (r [M 0 26,aU (.fU (t 26) (.c z0)) 27,aU (.bin .eql (t 27) (.c (.int .u8 34))) 28,M 28 25]<|
 c 25 (r [M 0 29,C 296 [t 29] 30,E 30 0 31,E 30 1 32,E 30 2 33,W 4 2 31,M 32 3,M 33 4]<|
 .ret) k))))<|
 r [C 297 [] 34,M 34 5]<|
 q (r [V z0 6]<|
 gL 1 [M 6 35,M 5 36,N 36 37,B .lss 35 37 38] 38 ((
 q (.block 2 (q (.draw [M 5 41,M 6 42,I false 1 41 42 43,K 43 44,S 44 45,M 0 46,S 46 47,B .leq 45 47 48,M 48 49,MT 0 50 49,MT 5 51 49,MT 6 52 49,IT false 1 51 52 53 49,KT 53 54 49,ST 54 55 49,⟨.lf (t 50) none (some (t 55)),(some 56),some (49,true)⟩,MT 5 57 49,MT 6 58 49,IT false 1 57 58 59 49,KT 59 60 49,BT .eql 56 60 61 49,P 49 61 62] [])<|
 c 62 (q (.draw [M 5 63,M 6 64,I false 1 63 64 65,K 65 66,gU [z0,e0,z0,z0] [(0,1,gJ 4),(1,1,t 66)] 67,M 5 68,M 6 69,I false 1 68 69 70,K 70 71,S 71 72,W 4 2 67,M 72 3,V z0 4] [(t 70,t 2)])<|
 .ret) k))<|
 R [M 6 39,D .add 39 1 40,M 40 6])))<|
 r [gU [z0,e0,z0,z0] [] 73,W 4 2 73,V z0 3,V (i6 11) 4]<|
 .ret):=bt Tryz.func274
def rD: Of aE 275 34 [.cell 2 true 6] (r [J [z0,z0,z0,e0,e0,.ai] 2]<|
 gR [M 0 6,Z 6 7,A 2 7 8,K 8 9] 9 [gU [z0,z0,z0,e0,e0,.ai] [] 10,W 6 2 10]<|
 q (.draw [M 0 12,Z 12 13,A 0 13 14,K 14 15,M 0 16,Z 16 17,A 1 17 18,K 18 19,Q 252 [t 15,t 19,gJ 4] 20,M 20 11,E 11 0 21,E 11 1 22,E 11 2 23,J [z0,z0,z0,e0,e0,.ai] 3,W 6 3 21,M 22 4,M 23 5] [])<|
 r [M 0 24,M 4 25,Z 24 26,A 1 26 27,W 1 27 25]<|
 r [M 0 28,M 5 29,D .neq 29 0 30,Z 28 31,A 2 31 32,W 1 32 30]<|
 r [L 6 3 33,W 6 2 33]<|
 .ret):=bt Tryz.func275
def ij: Of aE 276 113 [.cell 4 true 6] (r [J [z0,z0,z0,e0,e0,.ai] 4]<|
 q (.block 0 (r [M 0 11,Z 11 12,A 2 12 13,K 13 14,M 14 15,MF 1 16 15,DF .eql 16 7 17 15,O 15 17 18,M 18 10]<|
 c 10 (r [M 0 19,C 298 [t 19] 20,W 6 4 20]<|
 .ret) (r [M 1 22,D .eql 22 0 23,M 23 24,MT 0 25 24,CT 299 [t 25,gJ 1,gS [105,102]] 26 24,P 24 26 27,M 27 21]<|
 c 21 (r [M 0 28,Z 28 29,A 1 29 30,K 30 31,D .add 31 1 32,Z 28 33,A 1 33 34,W 1 34 32]<|
 r [M 0 35,C 276 [t 35,.c z0] 36,J [z0,z0,z0,e0,e0,.ai] 5,W 6 5 36]<|
 r [M 0 37,C 300 [t 37,gJ 1,gS [116,104,101,110]] 38]<|
 r [M 0 39,C 276 [t 39,.c z0] 40,J [z0,z0,z0,e0,e0,.ai] 6,W 6 6 40]<|
 r [M 0 41,C 300 [t 41,gJ 1,gS [101,108,115,101]] 42]<|
 r [M 0 43,C 276 [t 43,.c z0] 44,J [z0,z0,z0,e0,e0,.ai] 7,W 6 7 44]<|
 r [L 6 5 45,L 6 6 46,L 6 7 47,gB true 6 (.agg [z0,z0,z0,e0,e0,.ai]) 3 [(0,t 45),(1,t 46),(2,t 47)] 48,gU [z0,z0,z0,e0,e0,.ai] [(0,1,gJ 16),(5,1,t 48)] 49,W 6 4 49]<|
 .ret) (r [M 1 51,D .eql 51 6 52,M 52 53,MT 0 54 53,CT 299 [t 54,gJ 4,gS [45]] 55 53,P 53 55 56,M 56 50]<|
 c 50 (r [M 0 57,Z 57 58,A 1 58 59,K 59 60,D .add 60 1 61,Z 57 62,A 1 62 63,W 1 63 61]<|
 r [M 0 64,C 276 [t 64,gJ 6] 65,gB true 6 (.agg [z0,z0,z0,e0,e0,.ai]) 1 [(0,t 65)] 66,gU [z0,z0,z0,e0,e0,.ai] [(0,1,gJ 3),(5,1,t 66)] 67,W 6 4 67]<|
 .ret) (r [M 1 69,D .eql 69 0 70,M 70 71,MF 1 72 71,DF .eql 72 6 73 71,O 71 73 74,M 74 68]<|
 c 68 (r [M 0 75,M 1 76,D .add 76 1 77,C 276 [t 75,t 77] 78,W 6 4 78]<|
 .ret) k)))))<|
 r [M 0 79,M 1 80,D .add 80 1 81,C 276 [t 79,t 81] 82,J [z0,z0,z0,e0,e0,.ai] 8,W 6 8 82]<|
 q (gL 1 [M 0 83,Z 83 84,A 2 84 85,K 85 86,U 86 87] 87 ((
 .block 2 (r [M 0 88,M 1 89,C 301 [t 88,t 89] 90,M 90 9]<|
 gR [M 9 91,D .eql 91 0 92] 92 [L 6 8 93,W 6 4 93]<|
 r [M 0 94,Z 94 95,A 1 95 96,K 96 97,D .add 97 1 98,Z 94 99,A 1 99 100,W 1 100 98]<|
 q (.draw [M 9 101,L 6 8 102,M 0 103,M 1 104,D .add 104 1 105,aU (.mJ (.c (.fn (.func 276) [] [])) [t 103,t 105]) 106,gB true 6 (.agg [z0,z0,z0,e0,e0,.ai]) 2 [(0,t 102),(1,t 106)] 107,gU [z0,z0,z0,e0,e0,.ai] [(0,1,t 101),(5,1,t 107)] 108,W 6 8 108] [(t 8,t 103)])<|
 r [M 1 109,D .eql 109 3 110]<|
 c 110 (r [L 6 8 111,W 6 4 111]<|
 .ret) k))))<|
 r [L 6 8 112,W 6 4 112]<|
 .ret):=mM ⟨[],[],[],[],[106],[]⟩ Tryz.func276
def xn: Of aE 277 123 [.tmp 4,.tmp 5] (r [V z0 4,V z0 5]<|
 r [gF 6]<|
 r [V (i6 3) 7]<|
 q (r [M 0 8]<|
 .block 0 (r [D .eql 8 3 10,M 10 9]<|
 c 9 (r [M 1 11,gI false 1 11 0 12,K 12 13,C 214 [t 13,gJ 1] 14,M 14 6]<|
 R [V (i6 1) 7]) (q (r [D .eql 8 5 16,M 16 15]<|
 c 15 k (r [D .eql 8 6 17,M 17 15]<|
 c 15 k (R [D .eql 8 7 18,M 18 15])))<|
 c 15 (r [M 1 19,gI false 1 19 0 20,K 20 21,C 214 [t 21,gJ 1] 22,M 22 23,MT 1 24 23,⟨.eH ⟨false,1⟩ none (t 24) (gJ 1),(some 25),some (23,true)⟩,KT 25 26 23,CT 214 [t 26,gJ 1] 27 23,P 23 27 28,M 28 6]<|
 R [V (i6 1) 7]) (r [D .eql 8 4 30,M 30 29]<|
 c 29 (r [V (i6 1) 7]<|
 q (q (.draw [M 1 31,gI false 1 31 0 32,K 32 33,M 1 34,gI false 1 34 1 35,K 35 36,Q 302 [t 33,t 36] 37,D .eql 37 2 38] [])<|
 c 38 (R [V (i6 2) 7]) k)<|
 R [M 1 39,gI false 1 39 0 40,K 40 41,M 7 42,C 214 [t 41,t 42] 43,M 43 44,MT 1 45 44,⟨.eH ⟨false,1⟩ none (t 45) (gJ 1),(some 46),some (44,true)⟩,KT 46 47 44,MT 7 48 44,CT 214 [t 47,t 48] 49 44,P 44 49 50,M 50 6]) (q (r [D .eql 8 8 52,M 52 51]<|
 c 51 k (R [D .eql 8 9 53,M 53 51]))<|
 c 51 (.draw [M 1 54,gI false 1 54 0 55,K 55 56,M 1 57,gI false 1 57 1 58,K 58 59,Q 214 [t 56,t 59] 60,M 60 6] []) (q (r [D .eql 8 10 62,M 62 61]<|
 c 61 k (r [D .eql 8 11 63,M 63 61]<|
 c 61 k (r [D .eql 8 12 64,M 64 61]<|
 c 61 k (R [D .eql 8 13 65,M 65 61]))))<|
 c 61 (.draw [M 1 66,gI false 1 66 0 67,K 67 68,M 1 69,gI false 1 69 1 70,K 70 71,Q 214 [t 68,t 71] 72,M 72 73,MT 1 74 73,⟨.eH ⟨false,1⟩ none (t 74) (.c z0),(some 75),some (73,true)⟩,KT 75 76 73,DT .neq 76 3 77 73,P 73 77 78,M 78 79,MT 1 80 79,⟨.eH ⟨false,1⟩ none (t 80) (gJ 1),(some 81),some (79,true)⟩,KT 81 82 79,DT .neq 82 3 83 79,P 79 83 84,M 84 6] []) (q (r [D .eql 8 14 86,M 86 85]<|
 c 85 k (R [D .eql 8 15 87,M 87 85]))<|
 c 85 (R [M 1 88,gI false 1 88 0 89,K 89 90,C 214 [t 90,gJ 3] 91,M 91 92,MT 1 93 92,⟨.eH ⟨false,1⟩ none (t 93) (gJ 1),(some 94),some (92,true)⟩,KT 94 95 92,CT 214 [t 95,gJ 3] 96 92,P 92 96 97,M 97 6]) (r [D .eql 8 16 99,M 99 98]<|
 c 98 (q (.draw [M 1 100,gI false 1 100 0 101,K 101 102,Q 214 [t 102,gJ 3] 103,M 103 104,MT 1 105 104,⟨.eH ⟨false,1⟩ none (t 105) (gJ 1),(some 106),some (104,true)⟩,KT 106 107 104,MT 1 108 104,⟨.eH ⟨false,1⟩ none (t 108) (gJ 2),(some 109),some (104,true)⟩,KT 109 110 104,QT 214 [t 107,t 110] 111 104,P 104 111 112,M 112 6] [])<|
 .draw [M 1 113,gI false 1 113 1 114,K 114 115,M 1 116,gI false 1 116 2 117,K 117 118,Q 302 [t 115,t 118] 119,M 119 7] []) (R [gF 6])))))))))<|
 gR [M 6 120,U 120 121] 121 [V z0 4,V (i6 14) 5]<|
 r [M 7 122,M 122 4,V z0 5]<|
 .ret):=bt Tryz.func277
def Ow: Of aE 278 16 [.cell 2 true 5,.tmp 3] (r [J [z0,e0,z0,z0,z0] 2,V z0 3]<|
 r [M 0 5,C 81 [t 5] 6,M 6 4]<|
 gR [M 4 7,D .gtr 7 16 8] 8 [gU [z0,e0,z0,z0,z0] [] 9,W 5 2 9,V (i6 5) 3]<|
 r [M 0 10,M 4 11,aU (.lf (t 10) none (some (t 11))) 12,gU [z0,e0,z0,z0] [(0,1,gJ 1),(1,1,t 12)] 13,M 4 14,gU [z0,e0,z0,z0,z0] [(0,4,t 13),(4,1,t 14)] 15,W 5 2 15,V z0 3]<|
 .ret):=bt Tryz.func278
def Lb: Of aE 279 42 [.cell 2 true 5,.tmp 3] (r [J [z0,e0,z0,z0,z0] 2,V z0 3]<|
 r [M 0 8,C 125 [t 8,(.c (.fn (.func 127) [] []))] 9,M 9 4]<|
 gR [M 4 10,D .gtr 10 1 11,M 11 12,MT 0 13 12,⟨.fU (t 13) (.c z0),(some 14),some (12,true)⟩,⟨.bin .eql (t 14) (.c (.int .u8 48)),(some 15),some (12,true)⟩,P 12 15 16] 16 [gU [z0,e0,z0,z0,z0] [] 17,W 5 2 17,V (i6 11) 3]<|
 r [V z0 5]<|
 q (r [M 4 18,V z0 19]<|
 .block 0 (.loop (r [B .lss 19 18 20]<|
 q (c 20 k (.exit 0))<|
 q (.block 1 (r [M 19 21,M 21 6]<|
 r [M 0 22,M 6 23,aU (.fU (t 22) (t 23)) 24,aU (.bin .sub (t 24) (.c (.int .u8 48))) 25,aU (.ld .i64 (t 25)) 26,M 26 7]<|
 gR [M 5 27,M 7 28,aU (.bin .sub (gJ 9223372036854775807) (t 28)) 29,D .quo 29 10 30,B .gtr 27 30 31] 31 [gU [z0,e0,z0,z0,z0] [] 32,W 5 2 32,V (i6 15) 3]<|
 R [M 5 33,D .mul 33 10 34,M 7 35,B .add 34 35 36,M 36 5]))<|
 R [D .add 19 1 37,M 37 19])))<|
 r [M 5 38,gU [z0,e0,z0,z0] [(0,1,gJ 2),(2,1,t 38)] 39,M 4 40,gU [z0,e0,z0,z0,z0] [(0,4,t 39),(4,1,t 40)] 41,W 5 2 41,V z0 3]<|
 .ret):=bt Tryz.func279
def Ox: Of aE 280 71 [.cell 2 true 5,.tmp 3] (r [J [z0,e0,z0,z0,z0] 2,V z0 3]<|
 r [aU (.jI ⟨false,1⟩) 4]<|
 q (r [V (i6 1) 5]<|
 gL 0 [M 5 7,M 0 8,S 8 9,B .lss 7 9 10] 10 ((
 q (.block 1 (r [M 0 13,M 5 14,aU (.fU (t 13) (t 14)) 15,M 15 6]<|
 q (.block 2 (r [M 6 17,aU (.bin .eql (t 17) (.c (.int .u8 34))) 18,M 18 19,MT 4 20 19,NT 20 21 19,DT .gtr 21 40 22 19,P 19 22 23,M 23 16]<|
 c 16 (r [gU [z0,e0,z0,z0,z0] [] 24,W 5 2 24,V (i6 5) 3]<|
 .ret) (r [M 6 26,aU (.bin .eql (t 26) (.c (.int .u8 34))) 27,M 27 25]<|
 c 25 (r [M 4 28,aU (.sj (t 28)) 29,gU [z0,e0,z0,z0] [(0,1,gJ 3),(1,1,t 29)] 30,M 5 31,D .add 31 1 32,gU [z0,e0,z0,z0,z0] [(0,4,t 30),(4,1,t 32)] 33,W 5 2 33,V z0 3]<|
 .ret) (r [M 6 35,aU (.bin .eql (t 35) (.c (.int .u8 92))) 36,M 36 34]<|
 c 34 (r [M 5 37,D .add 37 1 38,M 38 5]<|
 r [M 5 39,M 0 40,S 40 41,B .eql 39 41 42,M 42 43,MF 0 44 43,MF 5 45 43,⟨.fU (t 44) (t 45),(some 46),some (43,false)⟩,⟨.bin .neq (t 46) (.c (.int .u8 34)),(some 47),some (43,false)⟩,MF 47 48 43,MT 0 49 48,MT 5 50 48,⟨.fU (t 49) (t 50),(some 51),some (48,true)⟩,⟨.bin .neq (t 51) (.c (.int .u8 92)),(some 52),some (48,true)⟩,PF 48 52 53 43,O 43 53 54]<|
 c 54 (r [gU [z0,e0,z0,z0,z0] [] 55,W 5 2 55,V (i6 11) 3]<|
 .ret) k) (r [M 6 57,aU (.bin .lss (t 57) (.c (.int .u8 32))) 58,M 58 59,MF 6 60 59,⟨.bin .gtr (t 60) (.c (.int .u8 126)),(some 61),some (59,false)⟩,O 59 61 62,M 62 56]<|
 c 56 (r [gU [z0,e0,z0,z0,z0] [] 63,W 5 2 63,V (i6 11) 3]<|
 .ret) k)))))<|
 R [M 4 64,M 0 65,M 5 66,aU (.fU (t 65) (t 66)) 67,gB false 1 (.int .u8 0) 1 [(0,t 67)] 68,gA false 1 64 68 69,M 69 4]))<|
 R [M 5 11,D .add 11 1 12,M 12 5])))<|
 r [gU [z0,e0,z0,z0,z0] [] 70,W 5 2 70,V (i6 11) 3]<|
 .ret):=mM ⟨[],[],[(4,⟨false,1⟩)],[],[],[]⟩ Tryz.func280
def Dt: Of aE 281 24 [.cell 2 true 5,.tmp 3] (r [X 0 1,J [z0,e0,z0,z0,z0] 2,V z0 3]<|
 r [C 303 [] 6,M 6 4]<|
 r [M 4 7,aU (.vp (.func 305) [] [t 1]) 8,C 304 [t 7,t 8] 9,M 9 5]<|
 gR [M 5 10,D .lss 10 0 11] 11 [gU [z0,e0,z0,z0,z0] [] 12,W 5 2 12,V (i6 11) 3]<|
 q (.draw [M 4 13,M 5 14,I false 1 13 14 15,K 15 16,gU [z0,e0,z0,z0] [(0,1,gJ 4),(1,1,t 16)] 17,M 4 18,M 5 19,I false 1 18 19 20,K 20 21,S 21 22,gU [z0,e0,z0,z0,z0] [(0,4,t 17),(4,1,t 22)] 23,W 5 2 23,V z0 3] [])<|
 .ret):=bt Tryz.func281
def IP: Of aE 287 8 [.tmp 3] (r [X 0 2,gF 3]<|
 r [A 0 2 4,K 4 5,K 1 6,B .eql 5 6 7,M 7 3]<|
 .ret):=bt Tryz.func287
def Oy: Of aE 288 34 [.tmp 2] (r [gF 2]<|
 r [M 0 3,N 3 4,D .gtr 4 1 5,M 5 6,MT 0 7 6,⟨.eH ⟨true,4⟩ none (t 7) (.c z0),(some 8),some (6,true)⟩,AT 0 8 9 6,KT 9 10 6,DT .eql 10 1 11 6,P 6 11 12,M 12 13,MT 0 14 13,⟨.eH ⟨true,4⟩ none (t 14) (.c z0),(some 15),some (13,true)⟩,AT 1 15 16 13,KT 16 17 13,⟨.bin .eql (t 17) (gS [110,111,116]),(some 18),some (13,true)⟩,P 13 18 19,M 19 20,MT 0 21 20,⟨.eH ⟨true,4⟩ none (t 21) (gJ 1),(some 22),some (20,true)⟩,AT 0 22 23 20,KT 23 24 20,DT .eql 24 4 25 20,P 20 25 26,M 26 27,MT 0 28 27,⟨.eH ⟨true,4⟩ none (t 28) (gJ 1),(some 29),some (27,true)⟩,AT 1 29 30 27,KT 30 31 27,⟨.bin .eql (t 31) (gS [40]),(some 32),some (27,true)⟩,P 27 32 33,M 33 2]<|
 .ret):=bt Tryz.func288
def AH: Of aE 289 51 [.cell 2 true 15] (r [J [z0,z0,z0,z0,e0,e0,.ai,z0,z0,z0,e0,e0,.ai,.bool false,.bool false] 2]<|
 q (r [V (i6 2) 3]<|
 gL 0 [M 3 5,D .leq 5 5 6] 6 ((
 q (.block 1 (r [M 0 9,M 3 10,C 194 [t 10] 11,C 290 [t 9,t 11] 12]<|
 c 12 (r [M 3 13,M 0 14,C 309 [t 14] 15,gU [z0,z0,z0,z0,e0,e0,.ai,z0,z0,z0,e0,e0,.ai,.bool false,.bool false] [(0,1,t 13),(1,6,t 15)] 16,W 15 2 16]<|
 .ret) k))<|
 R [M 3 7,D .add 7 1 8,M 8 3])))<|
 r [M 0 17,Z 17 18,A 0 18 19,C 264 [t 19] 20,aU (.bin .eql (t 20) (gS [93])) 21,gU [z0,z0,z0,z0,e0,e0,.ai,z0,z0,z0,e0,e0,.ai,.bool false,.bool false] [(0,1,gJ 6),(13,1,t 21)] 22,J [z0,z0,z0,z0,e0,e0,.ai,z0,z0,z0,e0,e0,.ai,.bool false,.bool false] 4,W 15 4 22]<|
 gR [M 0 23,C 290 [t 23,gS [91]] 24,U 24 25,M 25 26,MT 0 27 26,CT 290 [t 27,gS [93]] 28 26,UT 28 29 26,P 26 29 30] 30 [M 0 31,C 309 [t 31] 32,gU [z0,z0,z0,z0,e0,e0,.ai,z0,z0,z0,e0,e0,.ai,.bool false,.bool false] [(0,1,gJ 1),(1,6,t 32)] 33,W 15 2 33]<|
 r [M 0 34,C 309 [t 34] 35,A 1 4 36,W 6 36 35]<|
 r [M 0 37,C 291 [t 37,gS [46,46]] 38]<|
 r [M 0 39,C 309 [t 39] 40,A 7 4 41,W 6 41 40]<|
 q (r [M 0 42,C 290 [t 42,gS [91]] 43,A 14 4 44,W 1 44 43]<|
 r [A 14 4 45,K 45 46,U 46 47]<|
 c 47 (R [M 0 48,C 291 [t 48,gS [93]] 49]) k)<|
 r [L 15 4 50,W 15 2 50]<|
 .ret):=bt Tryz.func289
def Di: Of aE 290 26 [.tmp 4] (r [gF 4]<|
 gR [M 0 5,Z 5 6,A 2 6 7,K 7 8,M 8 9,MF 0 10 9,ZF 10 11 9,AF 0 11 12 9,CF 264 [t 12] 13 9,MF 1 14 9,BF .neq 13 14 15 9,O 9 15 16] 16 [gF 4]<|
 r [M 0 17,Z 17 18,A 0 18 19,A 1 19 20,K 20 21,D .add 21 1 22,Z 17 23,A 0 23 24,A 1 24 25,W 1 25 22]<|
 r [gT 4]<|
 .ret):=bt Tryz.func290
def AI: Of aE 291 11 [] (r [M 0 4,M 1 5,C 290 [t 4,t 5] 6,U 6 7]<|
 c 7 (R [M 0 8,Z 8 9,A 2 9 10,⟨.store 1 (t 10) (.c (.bool true)),none,none⟩]) k):=bt Tryz.func291
def eU: Of aE 292 71 [.cell 4 true 6] (r [J [z0,z0,z0,e0,e0,.ai] 4]<|
 .scope 0 (q (.block 0 (r [M 0 8,Z 8 9,A 2 9 10,K 10 11,M 11 7]<|
 c 7 (r [gU [z0,z0,z0,e0,e0,.ai] [] 12,W 6 4 12]<|
 .ret) (r [M 1 14,D .eql 14 0 15,M 15 16,MT 0 17 16,CT 310 [t 17,gJ 1,gS [105,102]] 18 16,P 16 18 19,M 19 13]<|
 c 13 (r [M 0 20,C 311 [t 20] 21,W 6 4 21]<|
 .ret) (r [M 1 23,D .eql 23 0 24,M 24 22]<|
 c 22 (r [M 0 25,C 292 [t 25,gJ 1] 26,W 6 4 26]<|
 .ret) (r [M 1 28,D .eql 28 6 29,M 29 30,MT 0 31 30,CT 310 [t 31,gJ 4,gS [45]] 32 30,P 30 32 33,M 33 27]<|
 c 27 (r [M 0 34,C 292 [t 34,gJ 6] 35,gB true 6 (.agg [z0,z0,z0,e0,e0,.ai]) 1 [(0,t 35)] 36,gU [z0,z0,z0,e0,e0,.ai] [(0,1,gJ 3),(5,1,t 36)] 37,W 6 4 37]<|
 .ret) (r [M 1 39,D .geq 39 6 40,M 40 38]<|
 c 38 (r [M 0 41,C 312 [t 41] 42,W 6 4 42]<|
 .ret) k))))))<|
 r [M 0 43,M 1 44,D .add 44 1 45,C 292 [t 43,t 45] 46,J [z0,z0,z0,e0,e0,.ai] 5,W 6 5 46]<|
 q (.label 0)<|
 r [M 0 47,M 1 48,C 313 [t 47,t 48] 49,M 49 6]<|
 gR [M 6 50,D .eql 50 0 51] 51 [L 6 5 52,W 6 4 52]<|
 q (.draw [M 6 53,L 6 5 54,M 0 55,M 1 56,D .add 56 1 57,aU (.mJ (.c (.fn (.func 292) [] [])) [t 55,t 57]) 58,gB true 6 (.agg [z0,z0,z0,e0,e0,.ai]) 2 [(0,t 54),(1,t 58)] 59,gU [z0,z0,z0,e0,e0,.ai] [(0,1,t 53),(5,1,t 59)] 60,W 6 5 60] [(t 5,t 55)])<|
 q (r [M 1 61,D .neq 61 3 62,M 62 63,MT 0 64 63,ZT 64 65 63,AT 2 65 66 63,KT 66 67 63,UT 67 68 63,P 63 68 69]<|
 c 69 (.goto 0) k)<|
 r [L 6 5 70,W 6 4 70]<|
 .ret) (.seq k <|
 r [M 0 47,M 1 48,C 313 [t 47,t 48] 49,M 49 6]<|
 gR [M 6 50,D .eql 50 0 51] 51 [L 6 5 52,W 6 4 52]<|
 q (.draw [M 6 53,L 6 5 54,M 0 55,M 1 56,D .add 56 1 57,aU (.mJ (.c (.fn (.func 292) [] [])) [t 55,t 57]) 58,gB true 6 (.agg [z0,z0,z0,e0,e0,.ai]) 2 [(0,t 54),(1,t 58)] 59,gU [z0,z0,z0,e0,e0,.ai] [(0,1,t 53),(5,1,t 59)] 60,W 6 5 60] [(t 5,t 55)])<|
 q (r [M 1 61,D .neq 61 3 62,M 62 63,MT 0 64 63,ZT 64 65 63,AT 2 65 66 63,KT 66 67 63,UT 67 68 63,P 63 68 69]<|
 c 69 (.goto 0) k)<|
 r [L 6 5 70,W 6 4 70]<|
 .ret)):=mM ⟨[],[],[],[],[58],[]⟩ Tryz.func292
def sL: Of aE 293 82 [.tmp 4,.tmp 5] (r [V z0 4,gF 5]<|
 q (r [M 0 7]<|
 .block 0 (q (r [D .eql 7 3 9,M 9 8]<|
 c 8 k (r [D .eql 7 5 10,M 10 8]<|
 c 8 k (r [D .eql 7 6 11,M 11 8]<|
 c 8 k (R [D .eql 7 7 12,M 12 8]))))<|
 c 8 (r [M 1 13,C 314 [gJ 1,t 13] 14,V (i6 1) 4,M 14 5]<|
 .ret) (r [D .eql 7 4 16,M 16 15]<|
 c 15 (q (.draw [M 1 17,gI false 1 17 0 18,K 18 19,M 1 20,gI false 1 20 1 21,K 21 22,Q 315 [t 19,t 22] 23,M 23 6] [])<|
 q (r [M 6 24,D .neq 24 2 25]<|
 c 25 (R [V (i6 1) 6]) k)<|
 r [M 6 26,M 6 27,M 1 28,C 314 [t 27,t 28] 29,M 26 4,M 29 5]<|
 .ret) (q (r [D .eql 7 8 31,M 31 30]<|
 c 30 k (R [D .eql 7 9 32,M 32 30]))<|
 c 30 (q (.draw [M 1 33,gI false 1 33 0 34,K 34 35,M 1 36,gI false 1 36 1 37,K 37 38,Q 235 [t 35,t 38] 39,V (i6 3) 4,M 39 5] [])<|
 .ret) (q (r [D .eql 7 10 41,M 41 40]<|
 c 40 k (r [D .eql 7 11 42,M 42 40]<|
 c 40 k (r [D .eql 7 12 43,M 43 40]<|
 c 40 k (R [D .eql 7 13 44,M 44 40]))))<|
 c 40 (q (.draw [M 1 45,gI false 1 45 0 46,K 46 47,M 1 48,gI false 1 48 1 49,K 49 50,Q 235 [t 47,t 50] 51,M 51 52,MT 1 53 52,QT 316 [t 53,gJ 3] 54 52,UT 54 55 52,P 52 55 56,V (i6 3) 4,M 56 5] [])<|
 .ret) (q (r [D .eql 7 14 58,M 58 57]<|
 c 57 k (R [D .eql 7 15 59,M 59 57]))<|
 c 57 (r [M 1 60,C 314 [gJ 3,t 60] 61,V (i6 3) 4,M 61 5]<|
 .ret) k))))))<|
 q (.draw [M 1 62,gI false 1 62 1 63,K 63 64,M 1 65,gI false 1 65 2 66,K 66 67,Q 315 [t 64,t 67] 68,M 1 69,gI false 1 69 0 70,K 70 71,Q 235 [t 71,gJ 3] 72,M 72 73,MT 1 74 73,⟨.eH ⟨false,1⟩ none (t 74) (gJ 1),(some 75),some (73,true)⟩,KT 75 76 73,MT 1 77 73,⟨.eH ⟨false,1⟩ none (t 77) (gJ 2),(some 78),some (73,true)⟩,KT 78 79 73,QT 235 [t 76,t 79] 80 73,P 73 80 81,M 68 4,M 81 5] [])<|
 .ret):=bt Tryz.func293
def Ld: Of aE 294 16 [.cell 2 true 4,.tmp 3,.tmp 4] (r [J [z0,e0,z0,z0] 2,V z0 3,V z0 4]<|
 r [M 0 6,C 95 [t 6] 7,M 7 5]<|
 gR [M 5 8,D .gtr 8 16 9] 9 [gU [z0,e0,z0,z0] [] 10,W 4 2 10,V z0 3,V (i6 5) 4]<|
 r [M 0 11,M 5 12,aU (.lf (t 11) none (some (t 12))) 13,gU [z0,e0,z0,z0] [(0,1,gJ 1),(1,1,t 13)] 14,M 5 15,W 4 2 14,M 15 3,V z0 4]<|
 .ret):=bt Tryz.func294
def Gr: Of aE 295 55 [.cell 2 true 4,.tmp 3,.tmp 4] (r [J [z0,e0,z0,z0] 2,V z0 3,V z0 4]<|
 r [V z0 5,V z0 6,gF 7]<|
 q (gL 0 [M 5 9,M 0 10,S 10 11,B .lss 9 11 12,M 12 13,MT 0 14 13,MT 5 15 13,⟨.fU (t 14) (t 15),(some 16),some (13,true)⟩,CT 140 [t 16] 17 13,P 13 17 18] 18 ((
 .block 1 (r [M 0 19,M 5 20,aU (.fU (t 19) (t 20)) 21,aU (.bin .sub (t 21) (.c (.int .u8 48))) 22,aU (.ld .i64 (t 22)) 23,M 23 8]<|
 r [M 7 24,M 24 25,MF 6 26 25,MF 8 27 25,⟨.bin .sub (gJ 9223372036854775807) (t 27),(some 28),some (25,false)⟩,DF .quo 28 10 29 25,BF .gtr 26 29 30 25,O 25 30 31,M 31 7]<|
 q (r [M 7 32,U 32 33]<|
 c 33 (R [M 6 34,aU (.bin .mul (gJ 10) (t 34)) 35,M 8 36,B .add 35 36 37,M 37 6]) k)<|
 R [M 5 38,D .add 38 1 39,M 39 5]))))<|
 q (.block 2 (r [M 5 41,D .gtr 41 1 42,M 42 43,MT 0 44 43,⟨.fU (t 44) (.c z0),(some 45),some (43,true)⟩,⟨.bin .eql (t 45) (.c (.int .u8 48)),(some 46),some (43,true)⟩,P 43 46 47,M 47 40]<|
 c 40 (r [gU [z0,e0,z0,z0] [] 48,W 4 2 48,V z0 3,V (i6 11) 4]<|
 .ret) (r [M 7 50,M 50 49]<|
 c 49 (r [gU [z0,e0,z0,z0] [] 51,W 4 2 51,V z0 3,V (i6 15) 4]<|
 .ret) k)))<|
 r [M 6 52,gU [z0,e0,z0,z0] [(0,1,gJ 2),(2,1,t 52)] 53,M 5 54,W 4 2 53,M 54 3,V z0 4]<|
 .ret):=bt Tryz.func295
def Le: Of aE 296 67 [.cell 2 true 4,.tmp 3,.tmp 4] (r [J [z0,e0,z0,z0] 2,V z0 3,V z0 4]<|
 r [V e0 5]<|
 q (r [V (i6 1) 6]<|
 gL 0 [M 6 8,M 0 9,S 9 10,B .lss 8 10 11] 11 ((
 q (.block 1 (r [M 0 14,M 6 15,aU (.fU (t 14) (t 15)) 16,M 16 7]<|
 q (r [M 7 17,aU (.bin .eql (t 17) (.c (.int .u8 34))) 18]<|
 c 18 (gR [M 5 19,S 19 20,D .gtr 20 40 21] 21 [gU [z0,e0,z0,z0] [] 22,W 4 2 22,V z0 3,V (i6 5) 4]<|
 r [M 5 23,gU [z0,e0,z0,z0] [(0,1,gJ 3),(1,1,t 23)] 24,M 6 25,D .add 25 1 26,W 4 2 24,M 26 3,V z0 4]<|
 .ret) k)<|
 q (r [M 7 27,aU (.bin .eql (t 27) (.c (.int .u8 92))) 28]<|
 c 28 (r [M 6 29,D .add 29 1 30,M 30 6]<|
 r [M 6 31,M 0 32,S 32 33,B .eql 31 33 34,M 34 35,MF 0 36 35,MF 6 37 35,⟨.fU (t 36) (t 37),(some 38),some (35,false)⟩,⟨.bin .neq (t 38) (.c (.int .u8 34)),(some 39),some (35,false)⟩,MF 39 40 35,MT 0 41 40,MT 6 42 40,⟨.fU (t 41) (t 42),(some 43),some (40,true)⟩,⟨.bin .neq (t 43) (.c (.int .u8 92)),(some 44),some (40,true)⟩,PF 40 44 45 35,O 35 45 46]<|
 c 46 (r [gU [z0,e0,z0,z0] [] 47,W 4 2 47,V z0 3,V (i6 11) 4]<|
 .ret) k) k)<|
 gR [M 0 48,M 6 49,aU (.fU (t 48) (t 49)) 50,aU (.bin .lss (t 50) (.c (.int .u8 32))) 51,M 51 52,MF 0 53 52,MF 6 54 52,⟨.fU (t 53) (t 54),(some 55),some (52,false)⟩,⟨.bin .gtr (t 55) (.c (.int .u8 126)),(some 56),some (52,false)⟩,O 52 56 57] 57 [gU [z0,e0,z0,z0] [] 58,W 4 2 58,V z0 3,V (i6 11) 4]<|
 R [M 5 59,M 0 60,M 6 61,M 6 62,D .add 62 1 63,aU (.lf (t 60) (some (t 61)) (some (t 63))) 64,B .add 59 64 65,M 65 5]))<|
 R [M 6 12,D .add 12 1 13,M 13 6])))<|
 r [gU [z0,e0,z0,z0] [] 66,W 4 2 66,V z0 3,V (i6 11) 4]<|
 .ret):=bt Tryz.func296
def IQ: Of aE 297 2 [.tmp 0] (r [V .ai 0]<|
 r [gB false 1 e0 16 [(0,gS [46,46]),(1,gS [33,61]),(2,gS [60,61]),(3,gS [62,61]),(4,gS [40]),(5,gS [41]),(6,gS [91]),(7,gS [93]),(8,gS [44]),(9,gS [43]),(10,gS [45]),(11,gS [42]),(12,gS [47]),(13,gS [61]),(14,gS [60]),(15,gS [62])] 1,M 1 0]<|
 .ret):=bt Tryz.func297
def dM: Of aE 298 104 [.cell 2 true 6] (r [J [z0,z0,z0,e0,e0,.ai] 2]<|
 q (q (.draw [M 0 5,Z 5 6,A 2 6 7,K 7 8,M 8 9,MF 0 10 9,ZF 10 11 9,AF 1 11 12 9,KF 12 13 9,MF 0 14 9,ZF 14 15 9,AF 0 15 16 9,KF 16 17 9,NF 17 18 9,BF .geq 13 18 19 9,O 9 19 20] [])<|
 c 20 (r [M 0 21,Z 21 22,A 2 22 23,⟨.store 1 (t 23) (.c (.bool true)),none,none⟩]<|
 r [gU [z0,z0,z0,e0,e0,.ai] [] 24,W 6 2 24]<|
 .ret) k)<|
 q (.draw [M 0 25,Z 25 26,A 0 26 27,K 27 28,M 0 29,Z 29 30,A 1 30 31,K 31 32,I true 4 28 32 33,L 4 33 34,J [z0,e0,z0,z0] 3,W 4 3 34] [])<|
 r [gU [z0,z0,z0,e0,e0,.ai] [(0,1,gJ 1)] 35,J [z0,z0,z0,e0,e0,.ai] 4,W 6 4 35]<|
 q (.block 0 (r [A 0 3 41,K 41 42,D .eql 42 2 43,M 43 40]<|
 c 40 (R [A 2 3 44,K 44 45,gU [z0,z0,e0] [(0,1,gJ 1),(1,1,t 45)] 46,A 1 4 47,W 3 47 46]) (r [A 0 3 49,K 49 50,D .eql 50 3 51,M 51 48]<|
 c 48 (R [A 1 3 52,K 52 53,gU [z0,z0,e0] [(0,1,gJ 2),(2,1,t 53)] 54,A 1 4 55,W 3 55 54]) (r [M 0 57,C 299 [t 57,gJ 1,gS [110,117,108,108]] 58,M 58 56]<|
 c 56 k (r [M 0 60,C 299 [t 60,gJ 1,gS [116,114,117,101]] 61,M 61 59]<|
 c 59 (R [gU [z0,z0,e0] [(0,1,gJ 3),(1,1,gJ 1)] 62,A 1 4 63,W 3 63 62]) (r [M 0 65,C 299 [t 65,gJ 1,gS [102,97,108,115,101]] 66,M 66 64]<|
 c 64 (R [gU [z0,z0,e0] [(0,1,gJ 3)] 67,A 1 4 68,W 3 68 67]) (r [A 0 3 70,K 70 71,D .eql 71 1 72,M 72 73,AT 1 3 74 73,KT 74 75 73,CT 50 [t 75] 76 73,P 73 76 77,M 77 69]<|
 c 69 (R [A 1 3 78,K 78 79,gU [z0,z0,z0,e0,e0,.ai] [(0,1,gJ 2),(4,1,t 79)] 80,W 6 4 80]) (r [M 0 82,C 299 [t 82,gJ 4,gS [40]] 83,M 83 81]<|
 c 81 (r [M 0 84,Z 84 85,A 1 85 86,K 86 87,D .add 87 1 88,Z 84 89,A 1 89 90,W 1 90 88]<|
 r [M 0 91,C 276 [t 91,.c z0] 92,W 6 4 92]<|
 r [M 0 93,C 300 [t 93,gJ 4,gS [41]] 94]<|
 r [L 6 4 95,W 6 2 95]<|
 .ret) (r [M 0 36,Z 36 37,A 2 37 38,⟨.store 1 (t 38) (.c (.bool true)),none,none⟩]<|
 r [gU [z0,z0,z0,e0,e0,.ai] [] 39,W 6 2 39]<|
 .ret)))))))))<|
 r [M 0 96,Z 96 97,A 1 97 98,K 98 99,D .add 99 1 100,Z 96 101,A 1 101 102,W 1 102 100]<|
 r [L 6 4 103,W 6 2 103]<|
 .ret):=bt Tryz.func298
