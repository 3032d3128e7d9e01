/- Part. -/
import Derived.Test.YtoldfccfpameeaaGreatDoorX05
import Derived.KernelRfl
set_option linter.all false
namespace Go.Proofs.YtoldfccfpameeaaGreatDoor
open Go.AM Go.AM.W
set_option maxRecDepth 10000
def vD: Of aH 220 38 [.tmp 2] (r [V e0 2]<|
 q (q (.draw [M 0 3,Z 3 4,A 1 4 5,K 5 6,M 0 7,Z 7 8,A 0 8 9,K 9 10,N 10 11,B .lss 6 11 12,M 12 13,MT 0 14 13,ZT 14 15 13,AT 0 15 16 13,KT 16 17 13,MT 0 18 13,ZT 18 19 13,AT 1 19 20 13,KT 20 21 13,IT true 4 17 21 22 13,AT 0 22 23 13,KT 23 24 13,DT .eql 24 4 25 13,P 13 25 26] [])<|
 c 26 (q (.draw [M 0 27,Z 27 28,A 0 28 29,K 29 30,M 0 31,Z 31 32,A 1 32 33,K 33 34,I true 4 30 34 35,A 1 35 36,K 36 37,M 37 2] [])<|
 .ret) k)<|
 r [V e0 2]<|
 .ret):=bF
def EW: Of aH 221 32 [.cell 2 true 3] (r [J wZ 2]<|
 r [J wZ 3]<|
 q (r [M 0 4,Z 4 5,A 0 5 6,A 0 6 7,K 7 8,C 252 [t 8] 9,A 1 3 10,W 1 10 9]<|
 r [A 1 3 11,K 11 12]<|
 c 12 (R [M 0 13,Z 13 14,A 0 14 15,A 1 15 16,⟨.store 1 (t 16) (gJ 2),none,none⟩]) k)<|
 q (.block 0 (.loop (.block 1 (q (.draw [A 2 3 17,K 17 18,M 0 19,bC (.tV (.c (.fn (.func 253) [] [])) [t 19]) 20,gB true 15 (.agg Dr) 1 [(0,t 20)] 21,gA true 15 18 21 22,A 2 3 23,W 1 23 22] [(t 17,t 19)])<|
 r [M 0 24,C 254 [t 24,gS [44]] 25,U 25 26]<|
 c 26 (.exit 0) k))))<|
 q (r [A 1 3 27,K 27 28]<|
 c 28 (R [M 0 29,C 255 [t 29,gS [41]] 30]) k)<|
 r [L 3 3 31,W 3 2 31]<|
 .ret):=bF ⟨[],[],[],[],[20],[]⟩
def vE: Of aH 274 37 [.cell 2 true 6] (r [J jP 2]<|
 gR [M 0 6,Z 6 7,A 2 7 8,K 8 9] 9 [gU jP [] 10,W 6 2 10]<|
 q (.draw [M 0 12,Z 12 13,A 0 13 14,A 0 14 15,K 15 16,M 0 17,Z 17 18,A 0 18 19,A 1 19 20,K 20 21,Q 224 [t 16,t 21,gJ 4] 22,M 22 11,E 11 0 23,E 11 1 24,E 11 2 25,J jP 3,W 6 3 23,M 24 4,M 25 5] [])<|
 r [M 0 26,M 0 27,M 4 28,M 5 29,D .neq 29 0 30,Z 26 31,A 0 31 32,A 1 32 33,W 1 33 28,Z 27 34,A 2 34 35,W 1 35 30]<|
 r [L 6 3 36,W 6 2 36]<|
 .ret):=bF
def EY: Of aH 255 11 [] (r [M 0 4,M 1 5,C 254 [t 4,t 5] 6,U 6 7]<|
 c 7 (R [M 0 8,Z 8 9,A 2 9 10,⟨.store 1 (t 10) (.c (.bool true)),none,none⟩]) k):=bF
def H6: Of aH 254 26 [.tmp 4] (r [gF 4]<|
 gR [M 0 5,Z 5 6,A 2 6 7,K 7 8,M 8 9,MF 0 10 9,ZF 10 11 9,AF 0 11 12 9,CF 220 [t 12] 13 9,MF 1 14 9,BF .neq 13 14 15 9,O 9 15 16] 16 [gF 4]<|
 r [M 0 17,Z 17 18,A 0 18 19,A 1 19 20,K 20 21,D .add 21 1 22,Z 17 23,A 0 23 24,A 1 24 25,W 1 25 22]<|
 r [gT 4]<|
 .ret):=bF
def EZ: Of aH 253 51 [.cell 2 true 15] (r [J Dr 2]<|
 q (r [V (i6 2) 3]<|
 gL 0 [M 3 5,D .leq 5 5 6] 6 ((
 q (.block 1 (r [M 0 9,M 3 10,C 165 [t 10] 11,C 254 [t 9,t 11] 12]<|
 c 12 (r [M 3 13,M 0 14,C 274 [t 14] 15,gU Dr [(0,1,t 13),(1,6,t 15)] 16,W 15 2 16]<|
 .ret) k))<|
 R [M 3 7,D .add 7 1 8,M 8 3])))<|
 r [M 0 17,Z 17 18,A 0 18 19,C 220 [t 19] 20,bC (.bin .eql (t 20) (gS [93])) 21,gU Dr [(0,1,gJ 6),(13,1,t 21)] 22,J Dr 4,W 15 4 22]<|
 gR [M 0 23,C 254 [t 23,gS [91]] 24,U 24 25,M 25 26,MT 0 27 26,CT 254 [t 27,gS [93]] 28 26,UT 28 29 26,P 26 29 30] 30 [M 0 31,C 274 [t 31] 32,gU Dr [(0,1,gJ 1),(1,6,t 32)] 33,W 15 2 33]<|
 r [M 0 34,C 274 [t 34] 35,A 1 4 36,W 6 36 35]<|
 r [M 0 37,C 255 [t 37,gS [46,46]] 38]<|
 r [M 0 39,C 274 [t 39] 40,A 7 4 41,W 6 41 40]<|
 q (r [M 0 42,C 254 [t 42,gS [91]] 43,A 14 4 44,W 1 44 43]<|
 r [A 14 4 45,K 45 46,U 46 47]<|
 c 47 (R [M 0 48,C 255 [t 48,gS [93]] 49]) k)<|
 r [L 15 4 50,W 15 2 50]<|
 .ret):=bF
def Bh: Of aH 19 44 [.tmp 4] (r [V z0 4]<|
 gR [M 0 7,C 31 [t 7] 8,U 8 9] 9 [V (i6 1) 4]<|
 q (.draw [M 0 11,Z 11 12,A 1 12 13,L 4 13 14,M 0 15,Q 35 [t 15] 16,M 1 17,Q 45 [t 14,t 16,t 17] 18,M 18 10,E 10 0 19,E 10 1 20,J vB 5,W 4 5 19,M 20 6] [])<|
 gR [M 6 21,D .neq 21 0 22] 22 [M 6 23,M 23 4]<|
 q (.draw [M 0 24,M 0 25,Z 25 26,A 5 26 27,K 27 28,M 1 29,M 0 30,Z 30 31,A 1 31 32,A 0 32 33,K 33 34,B .sub 29 34 35,bC (.pC ⟨true,6⟩ (t 28) (some (t 35)) none) 36,Q 32 [t 36] 37,Z 24 38,A 5 38 39,W 1 39 37] [])<|
 r [M 0 40,L 4 5 41,Z 40 42,A 1 42 43,W 4 43 41]<|
 r [V z0 4]<|
 .ret):=bF
def E0: Of aH 17 22 [.tmp 2] (r [V .gO 2]<|
 gR [M 0 3,C 31 [t 3] 4,U 4 5] 5 [V .gO 2]<|
 q (.draw [M 0 6,Z 6 7,A 0 7 8,K 8 9,M 0 11,Z 11 12,A 1 12 13,L 4 13 14,M 0 15,Z 15 16,A 5 16 17,K 17 18,bC (.ex (.cw 43 1 [(true,4),(false,1)]) [t 9,t 13,t 17]) 10,Q 32 [t 18] 19,gU [.iS,z0,z0,e0,e0,.aV] [(0,1,t 10),(1,4,t 14),(5,1,t 19)] 20,X 20 21,M 21 2] [])<|
 .ret):=bF ⟨[],[],[(1100013,⟨true,4⟩),(1100017,⟨false,1⟩)],[],[100010],[]⟩
def B4: Of aH 28 85 [.cell 8 true 6,.tmp 9,.tmp 10] (r [J uN 8,V z0 9,V z0 10]<|
 r [M 0 19,M 1 20,M 2 21,C 13 [t 19,t 20,t 21] 22,M 22 18,E 18 0 23,E 18 1 24,E 18 2 25,J w5 11,W 6 11 23,M 24 12,M 25 13]<|
 gR [M 13 26,D .neq 26 0 27] 27 [gU uN [] 28,M 13 29,W 6 8 28,V z0 9,M 29 10]<|
 r [L 6 11 31,M 12 32,M 3 33,Q 39 [t 31,t 32,t 33] 34,M 34 30,E 30 0 35,E 30 1 36,J uN 14,W 6 14 35,M 36 13]<|
 gR [M 13 37,D .neq 37 0 38] 38 [gU uN [] 39,M 13 40,W 6 8 39,V z0 9,M 40 10]<|
 r [L 6 14 42,C 14 [t 42] 43,M 43 41,E 41 0 44,E 41 1 45,M 44 15,M 45 13]<|
 gR [M 13 46,D .neq 46 0 47] 47 [gU uN [] 48,M 13 49,W 6 8 48,V z0 9,M 49 10]<|
 r [M 0 51,Z 51 52,A 1 52 53,L 4 53 54,M 15 55,C 21 [t 54,t 55] 56,M 56 50,E 50 0 57,E 50 1 58,J vB 16,W 4 16 57,M 58 13]<|
 gR [M 13 59,D .neq 59 0 60] 60 [gU uN [] 61,M 13 62,W 6 8 61,V z0 9,M 62 10]<|
 r [M 0 63,Z 63 64,A 1 64 65,A 1 65 66,K 66 67,M 67 17]<|
 r [M 0 68,L 4 16 69,Z 68 70,A 1 70 71,W 4 71 69]<|
 q (.draw [M 0 72,M 0 73,Z 73 74,A 5 74 75,K 75 76,Q 54 [t 76] 77,L 6 14 78,gB true 6 (.agg uN) 1 [(0,t 78)] 79,bC (.ex (.xJ ⟨true,6⟩) [t 77,t 79]) 80,Z 72 81,A 5 81 82,W 1 82 80] [])<|
 r [L 6 14 83,M 17 84,W 6 8 83,M 84 9,V z0 10]<|
 .ret):=bF ⟨[],[80,34],[],[],[],[]⟩
def E5: Of aH 22 35 [.tmp 2,.tmp 3] (r [V .aV 2,V z0 3]<|
 gR [M 0 7,C 31 [t 7] 8,U 8 9] 9 [V .aV 2,V (i6 1) 3]<|
 r [bC (.lE ⟨true,2⟩) 4]<|
 q (r [M 0 10,Z 10 11,A 0 11 12,K 12 13,C 49 [t 13] 14,C 48 [t 14] 15,N 15 16,V z0 17]<|
 .block 0 (.loop (r [B .lss 17 16 18]<|
 q (c 18 k (.exit 0))<|
 q (.block 1 (r [I false 1 15 17 19,K 19 20,M 20 6]<|
 R [M 4 21,M 6 22,M 0 23,Z 23 24,A 0 24 25,K 25 26,M 6 27,bC (.ex (.vM none false .aV) [t 26,t 27]) 28,N 28 29,gU [e0,z0] [(0,1,t 22),(1,1,t 29)] 30,gB true 2 (.agg [e0,z0]) 1 [(0,t 30)] 31,gA true 2 21 31 32,M 32 4]))<|
 R [D .add 17 1 33,M 33 17])))<|
 r [M 4 34,M 34 2,V z0 3]<|
 .ret):=bF ⟨[],[],[(4,⟨true,2⟩)],[],[],[]⟩
def FU: Of aH 11 53 [.tmp 6,.tmp 7] (r [V .aV 6,V z0 7]<|
 q (.block 0 (r [M 0 10,C 31 [t 10] 11,U 11 12,M 12 9]<|
 c 9 (r [V .aV 6,V (i6 1) 7]<|
 .ret) (r [M 1 14,M 0 15,Z 15 16,A 1 16 17,A 0 17 18,K 18 19,B .lss 14 19 20,M 20 21,MF 1 22 21,MF 0 23 21,ZF 23 24 21,AF 1 24 25 21,AF 1 25 26 21,KF 26 27 21,BF .gtr 22 27 28 21,O 21 28 29,M 29 30,MF 2 31 30,DF .lss 31 0 32 30,O 30 32 33,M 33 13]<|
 c 13 (r [V .aV 6,V (i6 22) 7]<|
 .ret) k)))<|
 q (.draw [M 0 34,Z 34 35,A 5 35 36,K 36 37,M 1 38,M 0 39,Z 39 40,A 1 40 41,A 0 41 42,K 42 43,B .sub 38 43 44,bC (.pC ⟨true,6⟩ (t 37) (some (t 44)) none) 45,M 45 8] [])<|
 r [M 8 46,M 2 47,M 8 48,N 48 49,bC (.min (t 47) [t 49]) 50,bC (.pC ⟨true,6⟩ (t 46) none (some (t 50))) 51,C 32 [t 51] 52,M 52 6,V z0 7]<|
 .ret):=bF
def E6: Of aH 10 12 [.cell 2 true 4,.tmp 3] (r [J vB 2,V z0 3]<|
 gR [M 0 4,C 31 [t 4] 5,U 5 6] 6 [gU vB [] 7,W 4 2 7,V (i6 1) 3]<|
 r [M 0 8,Z 8 9,A 1 9 10,L 4 10 11,W 4 2 11,V z0 3]<|
 .ret):=bF
def Bi: Of aH 26 62 [.tmp 4,.tmp 5] (r [X 1 3,V z0 4,V z0 5]<|
 gR [M 0 13,C 31 [t 13] 14,U 14 15] 15 [V z0 4,V (i6 1) 5]<|
 r [L 6 3 17,Q 52 [t 17] 18,M 18 16,E 16 0 19,E 16 1 20,E 16 2 21,E 16 3 22,J w5 6,W 6 6 19,M 20 7,M 21 8,M 22 9]<|
 gR [M 9 23,D .neq 23 0 24] 24 [M 9 25,V z0 4,M 25 5]<|
 q (r [L 6 6 27,C 53 [t 27] 28,M 28 26,E 26 0 29,E 26 1 30,M 29 10,M 30 11]<|
 r [M 11 31,D .neq 31 0 32]<|
 c 32 (r [M 11 33,V z0 4,M 33 5]<|
 .ret) k)<|
 q (.draw [M 0 34,Z 34 35,A 0 35 36,K 36 37,A 0 6 38,K 38 39,bC (.ex (.vM none false .aV) [t 37,t 39]) 40,M 40 12] [])<|
 gR [M 12 41,N 41 42,D .eql 42 2147483648 43] 43 [V z0 4,V (i6 24) 5]<|
 q (.draw [M 0 44,Z 44 45,A 0 45 46,K 46 47,A 0 6 48,K 48 49,M 12 50,M 12 51,N 51 52,M 12 53,N 53 54,bC (.ex (.yW ⟨true,6⟩ false) [t 50,t 52,t 54]) 55,L 6 6 56,gB true 6 (.agg w5) 1 [(0,t 56)] 57,bC (.ex (.xJ ⟨true,6⟩) [t 55,t 57]) 58,⟨.ex (.wR none) [t 47,t 49,t 58],none,none⟩] [])<|
 r [M 12 59,N 59 60,D .add 60 1 61,M 61 4,V z0 5]<|
 .ret):=bF ⟨[],[18,58],[],[],[],[]⟩
def Bj: Of aH 13 45 [.cell 6 true 6,.tmp 7,.tmp 8] (r [J w5 6,V z0 7,V z0 8]<|
 q (.block 0 (r [M 0 11,C 31 [t 11] 12,U 12 13,M 13 10]<|
 c 10 (r [gU w5 [] 14,W 6 6 14,V z0 7,V (i6 1) 8]<|
 .ret) (r [M 1 16,C 36 [t 16] 17,U 17 18,M 18 15]<|
 c 15 (r [gU w5 [] 19,W 6 6 19,V z0 7,V (i6 13) 8]<|
 .ret) k)))<|
 r [M 0 20,Z 20 21,A 0 21 22,K 22 23,M 1 24,bC (.ex (.vM none false .aV) [t 23,t 24]) 25,M 25 9]<|
 q (r [M 2 26,D .eql 26 0 27]<|
 c 27 (R [M 9 28,N 28 29,M 29 2]) k)<|
 gR [M 2 30,D .lss 30 1 31,M 31 32,MF 2 33 32,MF 9 34 32,NF 34 35 32,BF .gtr 33 35 36 32,O 32 36 37] 37 [gU w5 [] 38,W 6 6 38,V z0 7,V (i6 6) 8]<|
 r [M 9 39,M 2 40,D .sub 40 1 41,I true 6 39 41 42,L 6 42 43,M 2 44,W 6 6 43,M 44 7,V z0 8]<|
 .ret):=bF
def E7: Of aH 31 12 [.tmp 2] (r [gF 2]<|
 r [M 0 3,bC (.n_ true .p (t 3) (.c .gO)) 4,M 4 5,MT 0 6 5,ZT 6 7 5,AT 0 7 8 5,KT 8 9 5,⟨.n_ true .m (t 9) (.c .iS),(some 10),some (5,true)⟩,P 5 10 11,M 11 2]<|
 .ret):=bF
def Ds: Of aH 35 28 [.tmp 2] (r [V .aV 2]<|
 r [bC (.lE ⟨false,1⟩) 3]<|
 q (r [M 0 8,Z 8 9,A 5 9 10,K 10 11,N 11 12,V z0 13]<|
 .block 0 (.loop (r [B .lss 13 12 14]<|
 q (c 14 k (.exit 0))<|
 q (.block 1 (r [I true 6 11 13 15,L 6 15 16,J uN 5,W 6 5 16]<|
 r [L 6 5 18,C 14 [t 18] 19,M 19 17,E 17 0 20,E 17 1 21,M 20 6,M 21 7]<|
 R [M 3 22,M 6 23,gB false 1 e0 1 [(0,t 23)] 24,gA false 1 22 24 25,M 25 3]))<|
 R [D .add 13 1 26,M 26 13])))<|
 r [M 3 27,M 27 2]<|
 .ret):=bF ⟨[],[],[(3,⟨false,1⟩)],[],[],[]⟩
def JM: Of aH 149 109 [] (r [J ads 4]<|
 r [M 1 12,C 199 [t 12,t 4] 13]<|
 r [M 0 14,Z 14 15,A 0 15 16,L 8 16 17,J aie 5,W 8 5 17]<|
 q (r [V z0 18]<|
 .block 0 (.loop (r [D .lss 18 64 19]<|
 q (c 19 k (.exit 0))<|
 q (.block 1 (r [M 18 20,M 20 6]<|
 q (.draw [bC (.fA ⟨false,1⟩ (some 8) (t 5) (.c z0)) 21,K 21 22,bC (.fA ⟨false,1⟩ (some 8) (t 5) (gJ 4)) 23,K 23 24,M 22 7,M 24 8] [])<|
 q (.draw [bC (.fA ⟨false,1⟩ (some 8) (t 5) (gJ 7)) 25,K 25 26,M 8 27,Q 200 [t 27,gJ 6] 28,M 8 29,Q 200 [t 29,gJ 11] 30,B .xor 28 30 31,M 8 32,Q 200 [t 32,gJ 25] 33,B .xor 31 33 34,B .add 26 34 35,bC (.fA ⟨false,1⟩ (some 8) (t 5) (gJ 6)) 36,K 36 37,M 8 38,bC (.fA ⟨false,1⟩ (some 8) (t 5) (gJ 5)) 39,K 39 40,bC (.fA ⟨false,1⟩ (some 8) (t 5) (gJ 6)) 41,K 41 42,B .xor 40 42 43,B .and 38 43 44,B .xor 37 44 45,B .add 35 45 46,M 0 47,M 6 48,Z 47 49,A 10 49 50,bC (.fA ⟨false,1⟩ (some 64) (t 50) (t 48)) 51,K 51 52,B .add 46 52 53,M 6 54,bC (.fA ⟨false,1⟩ (some 64) (t 4) (t 54)) 55,K 55 56,B .add 53 56 57,M 57 9] [])<|
 q (.draw [M 7 58,Q 200 [t 58,gJ 2] 59,M 7 60,Q 200 [t 60,gJ 13] 61,B .xor 59 61 62,M 7 63,Q 200 [t 63,gJ 22] 64,B .xor 62 64 65,M 7 66,bC (.fA ⟨false,1⟩ (some 8) (t 5) (gJ 1)) 67,K 67 68,B .and 66 68 69,bC (.fA ⟨false,1⟩ (some 8) (t 5) (gJ 2)) 70,K 70 71,M 7 72,bC (.fA ⟨false,1⟩ (some 8) (t 5) (gJ 1)) 73,K 73 74,B .or 72 74 75,B .and 71 75 76,B .or 69 76 77,B .add 65 77 78,M 78 10] [])<|
 q (.draw [bC (.ex (.ug ⟨false,1⟩ 8 true false) [t 5,gJ 1]) 79,bC (.ex (.ug ⟨false,1⟩ 8 false true) [t 5,gJ 7]) 80,bC (.ex (.copy ⟨false,1⟩) [t 79,t 80]) 81] [])<|
 r [bC (.fA ⟨false,1⟩ (some 8) (t 5) (gJ 4)) 82,K 82 83,M 9 84,B .add 83 84 85,bC (.fA ⟨false,1⟩ (some 8) (t 5) (gJ 4)) 86,W 1 86 85]<|
 R [M 9 87,M 10 88,B .add 87 88 89,bC (.fA ⟨false,1⟩ (some 8) (t 5) (.c z0)) 90,W 1 90 89]))<|
 R [D .add 18 1 91,M 91 18])))<|
 r [V z0 92]<|
 .block 2 (.loop (r [D .lss 92 8 93]<|
 q (c 93 k (.exit 2))<|
 q (.block 3 (r [M 92 94,M 94 11]<|
 .draw [M 0 95,M 11 96,Z 95 97,A 0 97 98,bC (.fA ⟨false,1⟩ (some 8) (t 98) (t 96)) 99,K 99 100,M 11 101,bC (.fA ⟨false,1⟩ (some 8) (t 5) (t 101)) 102,K 102 103,B .add 100 103 104,Z 95 105,A 0 105 106,bC (.fA ⟨false,1⟩ (some 8) (t 106) (t 96)) 107,W 1 107 104] []))<|
 R [D .add 92 1 108,M 108 92]))):=bF
def JN: Of aH 115 66 [.tmp 2] (r [V e0 2]<|
 r [M 0 9,Z 9 10,A 9 10 11,K 11 12,D .mul 12 8 13,M 13 3]<|
 r [M 0 14,C 114 [t 14,gS [128]] 15]<|
 q (gL 0 [M 0 16,Z 16 17,A 8 17 18,K 18 19,N 19 20,D .rem 20 64 21,D .neq 21 56 22] 22 ((
 .block 1 (R [M 0 23,C 114 [t 23,gS [0]] 24]))))<|
 r [J [(.int .u8 0),(.int .u8 0),(.int .u8 0),(.int .u8 0),(.int .u8 0),(.int .u8 0),(.int .u8 0),(.int .u8 0)] 4]<|
 q (r [V z0 25]<|
 .block 2 (.loop (r [D .lss 25 8 26]<|
 q (c 26 k (.exit 2))<|
 q (.block 3 (r [M 25 27,M 27 5]<|
 R [M 5 28,bC (.bin .sub (gJ 7) (t 28)) 29,M 3 30,M 5 31,bC (.bin .mul (gJ 8) (t 31)) 32,B .shr 30 32 33,bC (.jX .u8 (t 33)) 34,bC (.fA ⟨false,1⟩ (some 8) (t 4) (t 29)) 35,W 1 35 34]))<|
 R [D .add 25 1 36,M 36 25])))<|
 r [M 0 37,bC (.ex (.ug ⟨false,1⟩ 8 false false) [t 4]) 38,bC (.yX (t 38)) 39,C 114 [t 37,t 39] 40]<|
 r [bC (.oX ⟨false,1⟩ (.int .u8 0) (.c z0) (gJ 32)) 41,M 41 6]<|
 q (r [M 0 42,Z 42 43,A 0 43 44,L 8 44 45,V z0 46]<|
 .block 4 (.loop (r [D .lss 46 8 47]<|
 q (c 47 k (.exit 4))<|
 q (.block 5 (r [bC (.yZ ⟨false,1⟩ 8 (t 45) (t 46)) 48,M 48 8]<|
 R [M 6 49,M 8 50,bC (.bin .shr (t 50) (.c (.int .u64 24))) 51,bC (.jX .u8 (t 51)) 52,M 8 53,bC (.bin .shr (t 53) (.c (.int .u64 16))) 54,bC (.jX .u8 (t 54)) 55,M 8 56,bC (.bin .shr (t 56) (.c (.int .u64 8))) 57,bC (.jX .u8 (t 57)) 58,M 8 59,bC (.jX .u8 (t 59)) 60,gB false 1 (.int .u8 0) 4 [(0,t 52),(1,t 55),(2,t 58),(3,t 60)] 61,gA false 1 49 61 62,M 62 6]))<|
 R [D .add 46 1 63,M 63 46])))<|
 r [M 6 64,bC (.yX (t 64)) 65,M 65 2]<|
 .ret):=bF
def FV: Of aH 114 43 [] (r [M 0 4,Z 4 5,A 9 5 6,K 6 7,M 1 8,S 8 9,B .add 7 9 10,Z 4 11,A 9 11 12,W 1 12 10]<|
 r [M 0 13,M 0 14,Z 14 15,A 8 15 16,K 16 17,M 1 18,bC (.ex (.Eo ⟨false,1⟩) [t 17,t 18]) 19,Z 13 20,A 8 20 21,W 1 21 19]<|
 gL 0 [M 0 22,Z 22 23,A 8 23 24,K 24 25,N 25 26,D .geq 26 64 27] 27 ((
 .block 1 (r [M 0 28,M 0 29,Z 29 30,A 8 30 31,K 31 32,bC (.pC ⟨false,1⟩ (t 32) none (some (gJ 64))) 33,C 149 [t 28,t 33] 34]<|
 R [M 0 35,M 0 36,Z 36 37,A 8 37 38,K 38 39,bC (.pC ⟨false,1⟩ (t 39) (some (gJ 64)) none) 40,Z 35 41,A 8 41 42,W 1 42 40])))):=bF ⟨[19],[],[],[],[],[]⟩
def jh: Of aH 277 71 [.cell 2 true 6] (r [J jP 2]<|
 q (r [M 0 8,C 275 [t 8,gJ 4,gS [40]] 9]<|
 c 9 (r [M 0 10,C 256 [t 10,.c z0] 11,J jP 3,W 6 3 11]<|
 r [M 0 12,C 296 [t 12,gJ 4,gS [41]] 13]<|
 r [L 6 3 14,W 6 2 14]<|
 .ret) k)<|
 r [M 0 15,C 295 [t 15] 16,J Bf 4,W 4 4 16]<|
 r [gU jP [(0,1,gJ 1)] 17,J jP 5,W 6 5 17]<|
 q (r [A 0 4 18,K 18 19]<|
 .block 0 (r [D .eql 19 2 25,M 25 24]<|
 c 24 (R [A 2 4 26,K 26 27,gU ie [(0,1,gJ 1),(1,1,t 27)] 28,A 1 5 29,W 3 29 28]) (r [D .eql 19 3 31,M 31 30]<|
 c 30 (R [A 1 4 32,K 32 33,gU ie [(0,1,gJ 2),(2,1,t 33)] 34,A 1 5 35,W 3 35 34]) (r [D .eql 19 1 37,M 37 36]<|
 c 36 (r [A 1 4 39,K 39 40,C 297 [t 40] 41,M 41 38,E 38 0 42,E 38 1 43,J ie 6,W 3 6 42,M 43 7]<|
 q (r [M 7 44,U 44 45,M 45 46,AT 1 4 47 46,KT 47 48 46,CT 36 [t 48] 49 46,UT 49 50 46,P 46 50 51]<|
 c 51 (r [M 0 52,Z 52 53,A 2 53 54,⟨.store 1 (t 54) (.c (.bool true)),none,none⟩]<|
 r [gU jP [] 55,W 6 2 55]<|
 .ret) k)<|
 r [L 3 6 56,A 1 5 57,W 3 57 56]<|
 r [M 7 58,U 58 59]<|
 c 59 (R [A 1 4 60,K 60 61,gU jP [(0,1,gJ 2),(4,1,t 61)] 62,W 6 5 62]) k) (r [M 0 20,Z 20 21,A 2 21 22,⟨.store 1 (t 22) (.c (.bool true)),none,none⟩]<|
 r [gU jP [] 23,W 6 2 23]<|
 .ret)))))<|
 r [M 0 63,Z 63 64,A 1 64 65,K 65 66,D .add 66 1 67,Z 63 68,A 1 68 69,W 1 69 67]<|
 r [L 6 5 70,W 6 2 70]<|
 .ret):=bF
def zU: Of aH 278 31 [.tmp 4] (r [V z0 4]<|
 q (r [C 215 [] 8,N 8 9,V z0 10]<|
 .block 0 (.loop (r [B .lss 10 9 11]<|
 q (c 11 k (.exit 0))<|
 q (.block 1 (r [I true 3 8 10 12,L 3 12 13,J vC 6,W 3 6 13]<|
 r [V (i6 4) 7]<|
 q (r [A 2 6 14,K 14 15,D .lss 15 3 16]<|
 c 16 (R [V (i6 1) 7]) k)<|
 r [A 2 6 17,K 17 18,M 1 19,B .eql 18 19 20,M 20 21,MT 0 22 21,MT 7 23 21,AT 1 6 24 21,KT 24 25 21,CT 275 [t 22,t 23,t 25] 26 21,P 21 26 27]<|
 c 27 (r [A 0 6 28,K 28 29,M 29 4]<|
 .ret) k))<|
 R [D .add 10 1 30,M 30 10])))<|
 r [V z0 4]<|
 .ret):=bF
def zV: Of aH 276 19 [.cell 2 true 6] (r [J jP 2]<|
 r [M 0 5,C 256 [t 5,.c z0] 6,J jP 3,W 6 3 6]<|
 r [M 0 7,C 296 [t 7,gJ 1,gS [116,104,101,110]] 8]<|
 r [M 0 9,C 256 [t 9,.c z0] 10,J jP 4,W 6 4 10]<|
 r [M 0 11,C 296 [t 11,gJ 1,gS [101,108,115,101]] 12]<|
 q (.draw [L 6 3 13,L 6 4 14,M 0 15,bC (.tV (.c (.fn (.func 256) [] [])) [t 15,.c z0]) 16,gB true 6 (.agg jP) 3 [(0,t 13),(1,t 14),(2,t 16)] 17,gU jP [(0,1,gJ 16),(5,1,t 17)] 18,W 6 2 18] [(t 3,t 15),(t 4,t 15)])<|
 .ret):=bF ⟨[],[],[],[],[16],[]⟩
def B5: Of aH 296 14 [] (r [M 0 6,M 1 7,M 2 8,C 275 [t 6,t 7,t 8] 9,U 9 10]<|
 c 10 (R [M 0 11,Z 11 12,A 2 12 13,⟨.store 1 (t 13) (.c (.bool true)),none,none⟩]) k):=bF
def Dt: Of aH 295 30 [.cell 2 true 4] (r [J Bf 2]<|
 q (q (.draw [M 0 3,Z 3 4,A 2 4 5,K 5 6,M 6 7,MF 0 8 7,ZF 8 9 7,AF 1 9 10 7,KF 10 11 7,MF 0 12 7,ZF 12 13 7,AF 0 13 14 7,KF 14 15 7,NF 15 16 7,BF .geq 11 16 17 7,O 7 17 18] [])<|
 c 18 (r [gU Bf [] 19,W 4 2 19]<|
 .ret) k)<|
 q (.draw [M 0 20,Z 20 21,A 0 21 22,K 22 23,M 0 24,Z 24 25,A 1 25 26,K 26 27,I true 4 23 27 28,L 4 28 29,W 4 2 29] [])<|
 .ret):=bF
def E9: Of aH 275 27 [.tmp 6] (r [gF 6]<|
 r [M 0 8,C 295 [t 8] 9,J Bf 7,W 4 7 9]<|
 gR [A 0 7 10,K 10 11,M 1 12,B .neq 11 12 13,M 13 14,AF 1 7 15 14,KF 15 16 14,MF 2 17 14,BF .neq 16 17 18 14,O 14 18 19] 19 [gF 6]<|
 r [M 0 20,Z 20 21,A 1 21 22,K 22 23,D .add 23 1 24,Z 20 25,A 1 25 26,W 1 26 24]<|
 r [gT 6]<|
 .ret):=bF
def gP: Of aH 256 71 [.cell 4 true 6] (r [J jP 4]<|
 .scope 0 (q (.block 0 (r [M 0 8,Z 8 9,A 2 9 10,K 10 11,M 11 7]<|
 c 7 (r [gU jP [] 12,W 6 4 12]<|
 .ret) (r [M 1 14,D .eql 14 0 15,M 15 16,MT 0 17 16,CT 275 [t 17,gJ 1,gS [105,102]] 18 16,P 16 18 19,M 19 13]<|
 c 13 (r [M 0 20,C 276 [t 20] 21,W 6 4 21]<|
 .ret) (r [M 1 23,D .eql 23 0 24,M 24 22]<|
 c 22 (r [M 0 25,C 256 [t 25,gJ 1] 26,W 6 4 26]<|
 .ret) (r [M 1 28,D .eql 28 6 29,M 29 30,MT 0 31 30,CT 275 [t 31,gJ 4,gS [45]] 32 30,P 30 32 33,M 33 27]<|
 c 27 (r [M 0 34,C 256 [t 34,gJ 6] 35,gB true 6 (.agg jP) 1 [(0,t 35)] 36,gU jP [(0,1,gJ 3),(5,1,t 36)] 37,W 6 4 37]<|
 .ret) (r [M 1 39,D .geq 39 6 40,M 40 38]<|
 c 38 (r [M 0 41,C 277 [t 41] 42,W 6 4 42]<|
 .ret) k))))))<|
 r [M 0 43,M 1 44,D .add 44 1 45,C 256 [t 43,t 45] 46,J jP 5,W 6 5 46]<|
 q (.label 0)<|
 r [M 0 47,M 1 48,C 278 [t 47,t 48] 49,M 49 6]<|
 gR [M 6 50,D .eql 50 0 51] 51 [L 6 5 52,W 6 4 52]<|
 q (.draw [M 6 53,L 6 5 54,M 0 55,M 1 56,D .add 56 1 57,bC (.tV (.c (.fn (.func 256) [] [])) [t 55,t 57]) 58,gB true 6 (.agg jP) 2 [(0,t 54),(1,t 58)] 59,gU jP [(0,1,t 53),(5,1,t 59)] 60,W 6 5 60] [(t 5,t 55)])<|
 q (r [M 1 61,D .neq 61 3 62,M 62 63,MT 0 64 63,ZT 64 65 63,AT 2 65 66 63,KT 66 67 63,UT 67 68 63,P 63 68 69]<|
 c 69 (.goto 0) k)<|
 r [L 6 5 70,W 6 4 70]<|
 .ret) (.seq k <|
 r [M 0 47,M 1 48,C 278 [t 47,t 48] 49,M 49 6]<|
 gR [M 6 50,D .eql 50 0 51] 51 [L 6 5 52,W 6 4 52]<|
 q (.draw [M 6 53,L 6 5 54,M 0 55,M 1 56,D .add 56 1 57,bC (.tV (.c (.fn (.func 256) [] [])) [t 55,t 57]) 58,gB true 6 (.agg jP) 2 [(0,t 54),(1,t 58)] 59,gU jP [(0,1,t 53),(5,1,t 59)] 60,W 6 5 60] [(t 5,t 55)])<|
 q (r [M 1 61,D .neq 61 3 62,M 62 63,MT 0 64 63,ZT 64 65 63,AT 2 65 66 63,KT 66 67 63,UT 67 68 63,P 63 68 69]<|
 c 69 (.goto 0) k)<|
 r [L 6 5 70,W 6 4 70]<|
 .ret)):=bF ⟨[],[],[],[],[58],[]⟩
def jB: Of aH 124 115 [] (r [X 1 4]<|
 q (r [L 6 4 12,C 169 [t 12] 13,M 2 14,B .lss 13 14 15]<|
 c 15 (r [M 0 16,Z 16 17,A 0 17 18,C 170 [t 18,(.c (.int .u8 40))] 19]<|
 r [M 0 20,L 6 4 21,C 124 [t 20,t 21,.c z0] 22]<|
 r [M 0 23,Z 23 24,A 0 24 25,C 170 [t 25,(.c (.int .u8 41))] 26]<|
 .ret) k)<|
 r [A 0 4 27,K 27 28]<|
 .block 0 (r [D .eql 28 1 63,M 63 62]<|
 c 62 (r [A 1 4 65,L 3 65 66,C 171 [t 66] 67,M 67 64,E 64 0 68,E 64 1 69,M 68 6,M 69 7]<|
 R [M 0 70,Z 70 71,A 0 71 72,M 6 73,C 89 [t 72,t 73] 74]) (r [D .eql 28 2 76,M 76 75]<|
 c 75 (.draw [M 0 77,Z 77 78,A 0 78 79,A 4 4 80,K 80 81,C 89 [t 79,t 81] 82] []) (r [D .eql 28 3 84,M 84 83]<|
 c 83 (r [M 0 85,Z 85 86,A 0 86 87,C 170 [t 87,(.c (.int .u8 45))] 88]<|
 R [M 0 89,A 5 4 90,K 90 91,gI true 6 91 0 92,L 6 92 93,C 124 [t 89,t 93,gJ 6] 94]) (r [D .eql 28 16 96,M 96 95]<|
 c 95 (r [gU [e0,e0,e0] [(0,1,gS [105,102,32]),(1,1,gS [32,116,104,101,110,32]),(2,1,gS [32,101,108,115,101,32])] 97,V z0 98]<|
 .block 1 (.loop (r [D .lss 98 3 99]<|
 q (c 99 k (.exit 1))<|
 q (.block 2 (r [M 98 100,bC (.yZ ⟨false,1⟩ 3 (t 97) (t 98)) 101,M 100 8,M 101 9]<|
 r [M 0 102,Z 102 103,A 0 103 104,M 9 105,C 89 [t 104,t 105] 106]<|
 R [M 0 107,A 5 4 108,K 108 109,M 8 110,I true 6 109 110 111,L 6 111 112,C 124 [t 107,t 112,.c z0] 113]))<|
 R [D .add 98 1 114,M 114 98]))) (r [A 0 4 29,K 29 30,C 172 [t 30] 31,J vC 10,W 3 10 31]<|
 r [A 2 10 32,K 32 33,M 33 11]<|
 q (r [M 11 34,D .eql 34 3 35]<|
 c 35 (R [M 11 36,D .add 36 1 37,M 37 11]) k)<|
 r [M 0 38,A 5 4 39,K 39 40,gI true 6 40 0 41,L 6 41 42,M 11 43,C 124 [t 38,t 42,t 43] 44]<|
 q (.draw [M 0 45,Z 45 46,A 0 46 47,A 1 10 48,K 48 49,bC (.bin .add (gS [32]) (t 49)) 50,bC (.bin .add (t 50) (gS [32])) 51,C 89 [t 47,t 51] 52] [])<|
 .draw [M 0 53,A 5 4 54,K 54 55,gI true 6 55 1 56,L 6 56 57,A 2 10 58,K 58 59,D .add 59 1 60,C 124 [t 53,t 57,t 60] 61] [])))))):=bF ⟨[],[52,61,82],[],[],[],[]⟩
def Bk: Of aH 90 8 [.tmp 2] (r [V z0 2]<|
 r [M 0 3,Z 3 4,A 1 4 5,K 5 6,N 6 7,M 7 2]<|
 .ret):=bF
def yq: Of aH 91 14 [.tmp 2] (r [V e0 2]<|
 q (.draw [M 0 3,Z 3 4,A 1 4 5,K 5 6,bC (.Ep ⟨false,1⟩ (t 6)) 7,M 0 8,Z 8 9,A 1 9 10,K 10 11,N 11 12,bC (.y3 5 (t 7) (t 12)) 13,M 13 2] [])<|
 .ret):=bF
def vQ: Of aH 170 17 [.tmp 4] (r [V .jR 4]<|
 r [M 0 5,C 132 [t 5] 6]<|
 r [M 0 7,M 0 8,Z 8 9,A 1 9 10,K 10 11,M 1 12,gB false 1 (.int .u8 0) 1 [(0,t 12)] 13,bC (.app (some 5) ⟨false,1⟩ (t 11) (t 13)) 14,Z 7 15,A 1 15 16,W 1 16 14]<|
 r [V .jR 4]<|
 .ret):=bF ⟨[],[],[],[14],[],[]⟩
def vR: Of aH 248 30 [.tmp 4,.tmp 5] (r [V z0 4,V .jR 5]<|
 r [M 0 7,C 132 [t 7] 8]<|
 r [M 0 9,Z 9 10,A 1 10 11,K 11 12,N 12 13,M 13 6]<|
 r [M 0 14,M 0 15,Z 15 16,A 1 16 17,K 17 18,M 1 19,C 269 [t 18,t 19] 20,Z 14 21,A 1 21 22,W 1 22 20]<|
 r [M 0 23,Z 23 24,A 1 24 25,K 25 26,N 26 27,M 6 28,B .sub 27 28 29,M 29 4,V .jR 5]<|
 .ret):=bF
def uP: Of aH 89 19 [.tmp 4,.tmp 5] (r [V z0 4,V .jR 5]<|
 r [M 0 6,C 132 [t 6] 7]<|
 r [M 0 8,M 0 9,Z 9 10,A 1 10 11,K 11 12,M 1 13,bC (.app (some 5) ⟨false,1⟩ (t 12) (t 13)) 14,Z 8 15,A 1 15 16,W 1 16 14]<|
 r [M 1 17,S 17 18,M 18 4,V .jR 5]<|
 .ret):=bF ⟨[],[],[],[14],[],[]⟩
def vS: Of aH 132 20 [] (r [M 0 2,Z 2 3,A 0 3 4,K 4 5,bC (.n_ false .p (t 5) (.c .gO)) 6]<|
 c 6 (R [M 0 7,M 0 8,bC (.KX (t 8)) 9,bC (.Hu 174 (t 9)) 10,bC (.KY 162 (t 10)) 11,Z 7 12,A 0 12 13,W 1 13 11]) (r [M 0 14,Z 14 15,A 0 15 16,K 16 17,M 0 18,bC (.Il true (t 17) (t 18)) 19]<|
 c 19 (.stop) k)):=bF
def H7: Of aH 77 20 [.tmp 2] (r [gF 2]<|
 gR [M 0 4,N 4 5,D .gtr 5 12 6] 6 [gF 2]<|
 q (r [V z0 3]<|
 gL 0 [M 3 7,M 0 8,N 8 9,B .lss 7 9 10] 10 ((
 q (.block 1 (r [M 0 13,M 3 14,I true 3 13 14 15,A 0 15 16,K 16 17,S 17 18,D .gtr 18 300 19]<|
 c 19 (r [gF 2]<|
 .ret) k))<|
 R [M 3 11,D .add 11 1 12,M 12 3])))<|
 r [gT 2]<|
 .ret):=bF
def JO: Of aH 25 20 [.tmp 2] (r [gF 2]<|
 gR [M 0 4,N 4 5,D .gtr 5 12 6] 6 [gF 2]<|
 q (r [V z0 3]<|
 gL 0 [M 3 7,M 0 8,N 8 9,B .lss 7 9 10] 10 ((
 q (.block 1 (r [M 0 13,M 3 14,I true 3 13 14 15,A 2 15 16,K 16 17,S 17 18,D .gtr 18 300 19]<|
 c 19 (r [gF 2]<|
 .ret) k))<|
 R [M 3 11,D .add 11 1 12,M 12 3])))<|
 r [gT 2]<|
 .ret):=bF
def JQ: Of aH 24 51 [.tmp 2] (r [X 0 1,gF 2]<|
 gR [A 0 1 4,K 4 5,S 5 6,D .gtr 6 300 7,M 7 8,AF 5 1 9 8,KF 9 10 8,NF 10 11 8,DF .gtr 11 26 12 8,O 8 12 13,M 13 14,AF 1 1 15 14,KF 15 16 14,CF 50 [t 16] 17 14,UF 17 18 14,O 14 18 19,M 19 20,AF 2 1 21 20,KF 21 22 20,CF 50 [t 22] 23 20,UF 23 24 20,O 20 24 25] 25 [gF 2]<|
 q (r [V z0 3]<|
 gL 0 [M 3 26,A 5 1 27,K 27 28,N 28 29,B .lss 26 29 30] 30 ((
 q (.block 1 (r [A 5 1 33,K 33 34,M 3 35,I true 2 34 35 36,A 0 36 37,K 37 38,C 51 [t 38] 39,U 39 40,M 40 41,AF 5 1 42 41,KF 42 43 41,MF 3 44 41,IF true 2 43 44 45 41,AF 1 45 46 41,KF 46 47 41,CF 51 [t 47] 48 41,UF 48 49 41,O 41 49 50]<|
 c 50 (r [gF 2]<|
 .ret) k))<|
 R [M 3 31,D .add 31 1 32,M 32 3])))<|
 r [gT 2]<|
 .ret):=bF
def H8: Of aH 6 38 [.tmp 2] (r [gF 2]<|
 gR [M 0 4,N 4 5,D .gtr 5 30 6] 6 [gF 2]<|
 q (r [V z0 3]<|
 gL 0 [M 3 7,M 0 8,N 8 9,B .lss 7 9 10] 10 ((
 q (.block 1 (r [M 0 13,M 3 14,I true 12 13 14 15,A 1 15 16,L 6 16 17,C 24 [t 17] 18,U 18 19,M 19 20,MF 0 21 20,MF 3 22 20,IF true 12 21 22 23 20,AF 7 23 24 20,KF 24 25 20,SF 25 26 20,DF .gtr 26 300 27 20,O 20 27 28,M 28 29,MF 0 30 29,MF 3 31 29,IF true 12 30 31 32 29,AF 9 32 33 29,KF 33 34 29,CF 25 [t 34] 35 29,UF 35 36 29,O 29 36 37]<|
 c 37 (r [gF 2]<|
 .ret) k))<|
 R [M 3 11,D .add 11 1 12,M 12 3])))<|
 r [gT 2]<|
 .ret):=bF
def fS: Of aH 190 90 [.cell 4 true 3] (r [X 0 2,X 1 3,J ie 4]<|
 q (r [A 0 3 7,K 7 8]<|
 .block 0 (r [D .eql 8 1 10,M 10 9]<|
 c 9 (r [A 1 3 11,L 3 11 12,W 3 4 12]<|
 .ret) (r [D .eql 8 2 14,M 14 13]<|
 c 13 (r [L 2 2 15,A 4 3 16,K 16 17,C 228 [t 15,t 17] 18,W 3 4 18]<|
 .ret) k)))<|
 q (.draw [L 2 2 19,A 5 3 20,K 20 21,gI true 6 21 0 22,L 6 22 23,J ie 5,bC (.ex (.pc 190) [t 19,t 23]) 24,W 3 5 24] [(.c .iS,.c .iS)])<|
 q (r [A 0 3 25,K 25 26]<|
 .block 1 (r [D .eql 26 3 28,M 28 27]<|
 c 27 (gR [L 3 5 29,gB true 3 (.agg ie) 1 [(0,t 29)] 30,C 229 [gJ 1,t 30] 31] 31 [L 3 5 32,W 3 4 32]<|
 r [A 1 5 33,K 33 34,C 231 [.c z0,t 34] 35,E 35 0 36,E 35 1 37,C 230 [t 36,t 37] 38,W 3 4 38]<|
 .ret) (r [D .eql 26 16 40,M 40 39]<|
 c 39 (r [L 3 5 41,gB true 3 (.agg ie) 1 [(0,t 41)] 42,C 229 [gJ 3,t 42] 43]<|
 q (q (.draw [L 3 5 44,Q 232 [(.c (.bool true))] 45,bC (.nw false true [.i,.i,.s] (t 44) (t 45)) 46] [])<|
 c 46 (q (.draw [L 2 2 47,A 5 3 48,K 48 49,gI true 6 49 1 50,L 6 50 51,bC (.ex (.pc 190) [t 47,t 51]) 52,W 3 4 52] [(.c .iS,.c .iS)])<|
 .ret) k)<|
 q (.draw [L 2 2 53,A 5 3 54,K 54 55,gI true 6 55 2 56,L 6 56 57,bC (.ex (.pc 190) [t 53,t 57]) 58,W 3 4 58] [(.c .iS,.c .iS)])<|
 .ret) k)))<|
 q (.draw [L 2 2 59,A 5 3 60,K 60 61,gI true 6 61 1 62,L 6 62 63,J ie 6,bC (.ex (.pc 190) [t 59,t 63]) 64,W 3 6 64] [(.c .iS,.c .iS)])<|
 q (r [A 0 3 65,K 65 66]<|
 .block 2 (q (r [D .eql 66 4 68,M 68 67]<|
 c 67 k (r [D .eql 66 5 69,M 69 67]<|
 c 67 k (r [D .eql 66 6 70,M 70 67]<|
 c 67 k (R [D .eql 66 7 71,M 71 67]))))<|
 c 67 (r [A 0 3 72,K 72 73,L 3 5 74,L 3 6 75,C 233 [t 73,t 74,t 75] 76,W 3 4 76]<|
 .ret) (q (r [D .eql 66 14 78,M 78 77]<|
 c 77 k (R [D .eql 66 15 79,M 79 77]))<|
 c 77 (r [A 0 3 80,K 80 81,L 3 5 82,L 3 6 83,C 234 [t 81,t 82,t 83] 84,W 3 4 84]<|
 .ret) k)))<|
 r [A 0 3 85,K 85 86,L 3 5 87,L 3 6 88,C 235 [t 86,t 87,t 88] 89,W 3 4 89]<|
 .ret):=bF ⟨[],[],[],[],[100024,100064,200024,200052,200058,200064],[]⟩
def FW: Of aH 228 27 [.cell 4 true 3] (r [X 0 2,J ie 4]<|
 q (r [A 0 2 7,K 7 8,N 8 9,V z0 10]<|
 .block 0 (.loop (r [B .lss 10 9 11]<|
 q (c 11 k (.exit 0))<|
 q (.block 1 (r [M 10 12,I true 3 8 10 13,L 3 13 14,J Bg 6,M 12 5,W 3 6 14]<|
 r [A 0 6 15,K 15 16,M 1 17,B .eql 16 17 18]<|
 c 18 (r [A 1 2 19,K 19 20,M 5 21,I true 3 20 21 22,L 3 22 23,W 3 4 23]<|
 .ret) k))<|
 R [D .add 10 1 24,M 24 10])))<|
 r [C 259 [gJ 13] 25]<|
 r [gU ie [] 26,W 3 4 26]<|
 .ret):=bF
def E_: Of aH 238 20 [.tmp 4] (r [V z0 4]<|
 r [M 0 7,C 265 [t 7] 8,M 8 5]<|
 r [M 1 9,C 265 [t 9] 10,M 10 6]<|
 q (r [M 5 11]<|
 c 11 (gR [M 6 12] 12 [V z0 4]<|
 r [V (i6 (-1)) 4]<|
 .ret) k)<|
 gR [M 6 13] 13 [V (i6 1) 4]<|
 gR [M 0 14,M 1 15,B .lss 14 15 16] 16 [V (i6 (-1)) 4]<|
 gR [M 0 17,M 1 18,B .gtr 17 18 19] 19 [V (i6 1) 4]<|
 r [V z0 4]<|
 .ret):=bF
def FX: Of aH 197 20 [.tmp 4] (r [V z0 4]<|
 r [M 0 7,C 243 [t 7] 8,M 8 5]<|
 r [M 1 9,C 243 [t 9] 10,M 10 6]<|
 q (r [M 5 11]<|
 c 11 (gR [M 6 12] 12 [V z0 4]<|
 r [V (i6 (-1)) 4]<|
 .ret) k)<|
 gR [M 6 13] 13 [V (i6 1) 4]<|
 gR [M 0 14,M 1 15,B .lss 14 15 16] 16 [V (i6 (-1)) 4]<|
 gR [M 0 17,M 1 18,B .gtr 17 18 19] 19 [V (i6 1) 4]<|
 r [V z0 4]<|
 .ret):=bF
def Qw: Of aH 237 18 [.tmp 2] (r [V z0 2]<|
 r [V z0 3]<|
 q (r [M 0 6,N 6 7,V z0 8]<|
 .block 0 (.loop (r [B .lss 8 7 9]<|
 q (c 9 k (.exit 0))<|
 q (.block 1 (r [I false 1 6 8 10,K 10 11,M 11 5]<|
 r [M 5 12,M 3 13,B .neq 12 13 14]<|
 c 14 (r [M 5 15,M 15 2]<|
 .ret) k))<|
 R [D .add 8 1 16,M 16 8])))<|
 r [M 3 17,M 17 2]<|
 .ret):=bF
def Qx: Of aH 119 36 [.tmp 2] (r [X 0 1,V z0 2]<|
 q (.block 0 (r [A 0 1 4,K 4 5,M 5 6,AT 1 1 7 6,KT 7 8 6,UT 8 9 6,P 6 9 10,M 10 11,AT 2 1 12 11,KT 12 13 11,NT 13 14 11,DT .eql 14 0 15 11,P 11 15 16,M 16 3]<|
 c 3 (r [V z0 2]<|
 .ret) (r [A 0 1 18,K 18 19,M 19 20,AF 2 1 21 20,KF 21 22 20,NF 22 23 20,DF .eql 23 0 24 20,O 20 24 25,M 25 26,AF 2 1 27 26,KF 27 28 26,NF 28 29 26,DF .gtr 29 12 30 26,O 26 30 31,M 31 17]<|
 c 17 (r [V (i6 2) 2]<|
 .ret) (r [A 2 1 33,K 33 34,C 161 [t 34,(.c (.fn (.func 162) [] []))] 35,M 35 32]<|
 c 32 (r [V (i6 2) 2]<|
 .ret) k))))<|
 r [V z0 2]<|
 .ret):=bF
def LG: Of aH 162 6 [.tmp 2] (r [X 0 1,gF 2]<|
 r [L 15 1 3,C 163 [t 3] 4,U 4 5,M 5 2]<|
 .ret):=bF
def Ew: Of aH 187 54 [.tmp 8,.tmp 9] (r [X 0 4,X 1 5,gF 8,V z0 9]<|
 q (r [L 3 4 15,L 3 5 16,M 2 17,M 3 18,C 226 [t 15,t 16,t 17,t 18] 19,M 19 10]<|
 r [M 10 20,D .neq 20 0 21]<|
 c 21 (r [M 10 22,gF 8,M 22 9]<|
 .ret) k)<|
 q (r [A 2 4 23,K 23 24,N 24 25,V z0 26]<|
 .block 0 (.loop (r [B .lss 26 25 27]<|
 q (c 27 k (.exit 0))<|
 q (.block 1 (r [I true 15 24 26 28,L 15 28 29,J Dr 12,W 15 12 29]<|
 r [L 15 12 31,L 3 5 32,M 2 33,M 3 34,C 227 [t 31,t 32,t 33,t 34] 35,M 35 30,E 30 0 36,E 30 1 37,M 36 13,M 37 14]<|
 .block 2 (r [M 14 39,D .neq 39 0 40,M 40 38]<|
 c 38 (r [M 14 41,gF 8,M 41 9]<|
 .ret) (r [M 13 43,M 43 42]<|
 c 42 (r [A 1 4 44,K 44 45,U 45 46,M 46 8,V z0 9]<|
 .ret) k))))<|
 R [D .add 26 1 47,M 47 26])))<|
 r [A 0 4 48,K 48 49,M 49 50,AF 1 4 51 50,KF 51 52 50,O 50 52 53,M 53 8,V z0 9]<|
 .ret):=bF
def mX: Of aH 182 77 [.cell 2 true 3,.tmp 3,.tmp 4] (r [J wZ 2,V z0 3,V z0 4]<|
 r [M 0 11,C 219 [t 11] 12,M 12 10,E 10 0 13,E 10 1 14,E 10 2 15,M 13 5,M 14 6,M 15 7]<|
 gR [M 7 16,D .neq 16 0 17] 17 [gU wZ [] 18,M 6 19,M 7 20,W 3 2 18,M 19 3,M 20 4]<|
 r [M 5 21,gU [.aV,z0] [(0,1,t 21)] 22,gU [.aV,z0,.bool false] [(0,2,t 22)] 23,X 23 24,M 24 8]<|
 gR [M 5 25,N 25 26,D .eql 26 1 27,M 27 28,MT 8 29 28,ZT 29 30 28,AT 0 30 31 28,CT 220 [t 31] 32 28,⟨.bin .eql (t 32) (gS [45]),(some 33),some (28,true)⟩,P 28 33 34] 34 [gU wZ [(0,1,(.c (.bool true)))] 35,W 3 2 35,V z0 3,V z0 4]<|
 r [M 8 36,C 221 [t 36] 37,J wZ 9,W 3 9 37]<|
 q (.block 0 (r [M 8 39,Z 39 40,A 0 40 41,A 1 41 42,K 42 43,M 5 44,N 44 45,B .lss 43 45 46,M 46 38]<|
 c 38 (q (.draw [gU wZ [] 47,M 5 48,M 8 49,Z 49 50,A 0 50 51,A 1 51 52,K 52 53,I true 4 48 53 54,A 3 54 55,K 55 56,W 3 2 47,M 56 3,V (i6 11) 4] [(t 52,t 2),(t 55,t 2)])<|
 .ret) (r [M 8 58,Z 58 59,A 2 59 60,K 60 61,M 61 57]<|
 c 57 (r [gU wZ [] 62,M 0 63,S 63 64,W 3 2 62,M 64 3,V (i6 11) 4]<|
 .ret) (r [A 2 9 66,K 66 67,N 67 68,D .gtr 68 12 69,M 69 65]<|
 c 65 (r [gU wZ [] 70,W 3 2 70,V z0 3,V (i6 24) 4]<|
 .ret) (r [L 3 9 72,C 119 [t 72] 73,D .neq 73 0 74,M 74 71]<|
 c 71 (r [gU wZ [] 75,W 3 2 75,V z0 3,V (i6 12) 4]<|
 .ret) k)))))<|
 r [L 3 9 76,W 3 2 76,V z0 3,V z0 4]<|
 .ret):=bF
def zf: Of aH 79 49 [.tmp 2,.tmp 3] (r [X 0 1,V e0 2,V z0 3]<|
 q (r [L 3 1 11,C 119 [t 11] 12,M 12 4]<|
 r [M 4 13,D .neq 13 0 14]<|
 c 14 (r [M 4 15,V e0 2,M 15 3]<|
 .ret) k)<|
 gR [A 0 1 16,K 16 17] 17 [V (.str [45]) 2,V z0 3]<|
 r [bC (.lE ⟨false,1⟩) 5]<|
 q (r [A 2 1 18,K 18 19,N 19 20,V z0 21]<|
 .block 0 (.loop (r [B .lss 21 20 22]<|
 q (c 22 k (.exit 0))<|
 q (.block 1 (r [I true 15 19 21 23,L 15 23 24,J Dr 7,W 15 7 24]<|
 r [L 15 7 26,C 120 [t 26] 27,M 27 25,E 25 0 28,E 25 1 29,M 28 8,M 29 9]<|
 gR [M 9 30,D .neq 30 0 31] 31 [M 9 32,V e0 2,M 32 3]<|
 R [M 5 33,M 8 34,gB false 1 e0 1 [(0,t 34)] 35,gA false 1 33 35 36,M 36 5]))<|
 R [D .add 21 1 37,M 37 21])))<|
 r [M 5 38,C 121 [t 38,gS [44,32]] 39,M 39 10]<|
 q (r [A 1 1 40,K 40 41]<|
 c 41 (R [M 10 42,bC (.bin .add (gS [110,111,116,40]) (t 42)) 43,bC (.bin .add (t 43) (gS [41])) 44,M 44 10]) k)<|
 gR [M 10 45,S 45 46,D .gtr 46 200 47] 47 [V e0 2,V (i6 5) 3]<|
 r [M 10 48,M 48 2,V z0 3]<|
 .ret):=bF ⟨[],[],[(5,⟨false,1⟩)],[],[],[]⟩
def Ex: Of aH 183 54 [.tmp 6] (r [X 0 3,V z0 6]<|
 q (r [L 3 3 15,C 119 [t 15] 16,M 16 7]<|
 r [M 7 17,D .neq 17 0 18]<|
 c 18 (r [M 7 19,M 19 6]<|
 .ret) k)<|
 q (r [A 2 3 20,K 20 21,N 21 22,V z0 23]<|
 .block 0 (.loop (r [B .lss 23 22 24]<|
 q (c 24 k (.exit 0))<|
 q (.block 1 (r [I true 15 21 23 25,L 15 25 26,J Dr 9,W 15 9 26]<|
 r [gT 10]<|
 q (r [L 15 9 27,C 222 [t 27] 28,N 28 29,V z0 30]<|
 .block 2 (.loop (r [B .lss 30 29 31]<|
 q (c 31 k (.exit 2))<|
 q (.block 3 (r [I true 6 28 30 32,L 6 32 33,J jP 12,W 6 12 33]<|
 r [L 6 12 35,M 2 36,C 185 [t 35,t 36] 37,M 37 34,E 34 0 38,E 34 1 39,M 38 13,M 39 14]<|
 gR [M 14 40,D .neq 40 0 41] 41 [M 14 42,M 42 6]<|
 R [M 10 43,M 43 44,LT 15 9 45 44,MT 1 46 44,MT 13 47 44,CT 223 [t 45,t 46,t 47] 48 44,P 44 48 49,M 49 10]))<|
 R [D .add 30 1 50,M 50 30])))<|
 r [M 10 51,U 51 52]<|
 c 52 (r [V (i6 14) 6]<|
 .ret) k))<|
 R [D .add 23 1 53,M 53 23])))<|
 r [V z0 6]<|
 .ret):=bF
def UP: Of aH 227 57 [.tmp 8,.tmp 9] (r [X 0 4,X 1 5,gF 8,V z0 9]<|
 r [bC (.lE ⟨true,3⟩) 10]<|
 q (r [L 15 4 17,C 222 [t 17] 18,N 18 19,V z0 20]<|
 .block 0 (.loop (r [B .lss 20 19 21]<|
 q (c 21 k (.exit 0))<|
 q (.block 1 (r [I true 6 18 20 22,L 6 22 23,J jP 12,W 6 12 23]<|
 r [L 6 12 25,M 2 26,M 3 27,C 144 [t 25,t 26,t 27] 28,M 28 24,E 24 0 29,E 24 1 30,J ie 13,W 3 13 29,M 30 14]<|
 gR [M 14 31,D .neq 31 0 32] 32 [M 14 33,gF 8,M 33 9]<|
 R [M 10 34,L 3 13 35,gB true 3 (.agg ie) 1 [(0,t 35)] 36,gA true 3 34 36 37,M 37 10]))<|
 R [D .add 20 1 38,M 38 20])))<|
 q (r [M 10 39,N 39 40,V z0 41]<|
 .block 2 (.loop (r [B .lss 41 40 42]<|
 q (c 42 k (.exit 2))<|
 q (.block 3 (r [I true 3 39 41 43,L 3 43 44,J ie 16,W 3 16 44]<|
 r [L 15 4 45,A 0 5 46,K 46 47,A 0 16 48,K 48 49,C 223 [t 45,t 47,t 49] 50,U 50 51]<|
 c 51 (r [gF 8,V (i6 14) 9]<|
 .ret) k))<|
 R [D .add 41 1 52,M 52 41])))<|
 r [L 15 4 53,L 3 5 54,M 10 55,C 258 [t 53,t 54,t 55] 56,M 56 8,V z0 9]<|
 .ret):=bF ⟨[],[],[(10,⟨true,3⟩)],[],[],[]⟩
def Sj: Of aH 223 23 [.tmp 6] (r [X 0 3,gF 6]<|
 r [M 1 7,M 2 8,C 186 [t 7,t 8] 9,M 9 10,AT 0 3 11 10,KT 11 12 10,DT .eql 12 1 13 10,MT 13 14 10,MF 1 15 14,DF .neq 15 3 16 14,MF 16 17 14,MT 2 18 17,DT .neq 18 3 19 17,PF 17 19 20 14,OT 14 20 21 10,P 10 21 22,M 22 6]<|
 .ret):=bF
def IA: Of aH 226 36 [.tmp 8] (r [X 0 4,X 1 5,V z0 8]<|
 gR [L 3 4 11,C 119 [t 11] 12,D .neq 12 0 13,M 13 14,LF 3 5 15 14,CF 136 [t 15] 16 14,DF .neq 16 0 17 14,O 14 17 18,M 18 19,MF 2 20 19,NF 20 21 19,MF 3 22 19,NF 22 23 19,BF .neq 21 23 24 19,O 19 24 25] 25 [V (i6 2) 8]<|
 q (r [M 3 26,N 26 27,V z0 28]<|
 .block 0 (.loop (r [B .lss 28 27 29]<|
 q (c 29 k (.exit 0))<|
 q (.block 1 (r [I true 3 26 28 30,L 3 30 31,J ie 10,W 3 10 31]<|
 r [L 3 10 32,C 136 [t 32] 33,D .neq 33 0 34]<|
 c 34 (r [V (i6 2) 8]<|
 .ret) k))<|
 R [D .add 28 1 35,M 35 28])))<|
 r [V z0 8]<|
 .ret):=bF
def UQ: Of aH 252 34 [.tmp 2] (r [gF 2]<|
 r [M 0 3,N 3 4,D .gtr 4 1 5,M 5 6,MT 0 7 6,⟨.fA ⟨true,4⟩ none (t 7) (.c z0),(some 8),some (6,true)⟩,AT 0 8 9 6,KT 9 10 6,DT .eql 10 1 11 6,P 6 11 12,M 12 13,MT 0 14 13,⟨.fA ⟨true,4⟩ none (t 14) (.c z0),(some 15),some (13,true)⟩,AT 1 15 16 13,KT 16 17 13,⟨.bin .eql (t 17) (gS [110,111,116]),(some 18),some (13,true)⟩,P 13 18 19,M 19 20,MT 0 21 20,⟨.fA ⟨true,4⟩ none (t 21) (gJ 1),(some 22),some (20,true)⟩,AT 0 22 23 20,KT 23 24 20,DT .eql 24 4 25 20,P 20 25 26,M 26 27,MT 0 28 27,⟨.fA ⟨true,4⟩ none (t 28) (gJ 1),(some 29),some (27,true)⟩,AT 1 29 30 27,KT 30 31 27,⟨.bin .eql (t 31) (gS [40]),(some 32),some (27,true)⟩,P 27 32 33,M 33 2]<|
 .ret):=bF
def Yh: Of aH 210 8 [.cell 2 true 2] (r [X 0 1,J adt 2]<|
 r [A 13 1 3,K 3 4,A 14 1 5,K 5 6,gU adt [(0,1,t 4),(1,1,t 6)] 7,W 2 2 7]<|
 .ret):=bF
def Sk: Of aH 208 11 [.tmp 2] (r [X 0 1,gF 2]<|
 r [L 6 1 3,C 188 [t 3] 4,D .eql 4 0 5,M 5 6,LT 6 1 7 6,CT 123 [t 7] 8 6,DT .leq 8 12 9 6,P 6 9 10,M 10 2]<|
 .ret):=bF
def Ey: Of aH 222 14 [.tmp 2] (r [X 0 1,V .aV 2]<|
 gR [A 0 1 3,K 3 4,D .eql 4 6 5] 5 [A 1 1 6,L 6 6 7,A 7 1 8,L 6 8 9,gB true 6 (.agg jP) 2 [(0,t 7),(1,t 9)] 10,M 10 2]<|
 r [A 1 1 11,L 6 11 12,gB true 6 (.agg jP) 1 [(0,t 12)] 13,M 13 2]<|
 .ret):=bF
def B6: Of aH 258 77 [.tmp 6] (r [X 0 3,X 1 4,gF 6]<|
 q (r [A 0 3 9,K 9 10,D .eql 10 1 11]<|
 c 11 (q (.draw [L 3 4 12,M 2 13,gI true 3 13 0 14,L 3 14 15,bC (.nw false true [.i,.i,.s] (t 12) (t 15)) 16,M 16 6] [])<|
 .ret) k)<|
 gR [A 0 4 17,K 17 18,D .eql 18 0 19,M 19 20,MF 2 21 20,⟨.build ie [],(some 22),some (20,false)⟩,CF 282 [t 21,t 22] 23 20,O 20 23 24] 24 [gF 6]<|
 q (.draw [L 3 4 25,M 2 26,gI true 3 26 0 27,L 3 27 28,Q 194 [t 25,t 28] 29,M 29 7] [])<|
 q (r [A 0 3 30,K 30 31]<|
 .block 0 (r [D .eql 31 2 33,M 33 32]<|
 c 32 (r [M 7 34,D .lss 34 0 35,M 35 6]<|
 .ret) (r [D .eql 31 3 37,M 37 36]<|
 c 36 (r [M 7 38,D .leq 38 0 39,M 39 6]<|
 .ret) (r [D .eql 31 4 41,M 41 40]<|
 c 40 (r [M 7 42,D .gtr 42 0 43,M 43 6]<|
 .ret) (r [D .eql 31 5 45,M 45 44]<|
 c 44 (r [M 7 46,D .geq 46 0 47,M 47 6]<|
 .ret) k)))))<|
 q (.draw [L 3 4 48,M 2 49,gI true 3 49 1 50,L 3 50 51,Q 194 [t 48,t 51] 52,M 52 8] [])<|
 r [M 7 53,D .gtr 53 0 54,M 54 55,MF 7 56 55,DF .eql 56 0 57 55,MF 57 58 55,AT 13 3 59 58,KT 59 60 58,UT 60 61 58,PF 58 61 62 55,O 55 62 63,M 63 64,MT 8 65 64,DT .lss 65 0 66 64,MT 66 67 64,MF 8 68 67,DF .eql 68 0 69 67,MF 69 70 67,AT 14 3 71 70,KT 71 72 70,UT 72 73 70,PF 70 73 74 67,OT 67 74 75 64,P 64 75 76,M 76 6]<|
 .ret):=bF
def Sl: Of aH 165 12 [.tmp 2] (r [V e0 2]<|
 q (r [M 0 3]<|
 .block 0 (r [D .eql 3 2 5,M 5 4]<|
 c 4 (r [V (.str [60]) 2]<|
 .ret) (r [D .eql 3 3 7,M 7 6]<|
 c 6 (r [V (.str [60,61]) 2]<|
 .ret) (r [D .eql 3 4 9,M 9 8]<|
 c 8 (r [V (.str [62]) 2]<|
 .ret) (r [D .eql 3 5 11,M 11 10]<|
 c 10 (r [V (.str [62,61]) 2]<|
 .ret) k)))))<|
 r [V e0 2]<|
 .ret):=bF
def Qy: Of aH 163 39 [.tmp 2] (r [X 0 1,gF 2]<|
 q (.block 0 (r [A 0 1 4,K 4 5,D .eql 5 6 6,M 6 3]<|
 c 3 (r [A 1 1 7,L 6 7 8,C 208 [t 8] 9,M 9 10,AT 7 1 11 10,LT 6 11 12 10,CT 208 [t 12] 13 10,P 10 13 14,M 14 2]<|
 .ret) (r [A 0 1 16,K 16 17,D .lss 17 1 18,M 18 19,AF 0 1 20 19,KF 20 21 19,DF .gtr 21 6 22 19,O 19 22 23,M 23 15]<|
 c 15 (r [gF 2]<|
 .ret) k)))<|
 r [A 1 1 24,L 6 24 25,C 208 [t 25] 26,M 26 27,AT 7 1 28 27,LT 6 28 29 27,⟨.build jP [],(some 30),some (27,true)⟩,CT 209 [t 29,t 30] 31 27,P 27 31 32,M 32 33,LT 15 1 34 33,CT 210 [t 34] 35 33,⟨.build adt [],(some 36),some (33,true)⟩,⟨.nw false true [.b,.b] (t 35) (t 36),(some 37),some (33,true)⟩,P 33 37 38,M 38 2]<|
 .ret):=bF
def rz: Of aH 120 55 [.tmp 2,.tmp 3] (r [X 0 1,V e0 2,V z0 3]<|
 r [A 1 1 10,L 6 10 11,C 164 [t 11] 12,M 12 9,E 9 0 13,E 9 1 14,M 13 4,M 14 5]<|
 gR [M 5 15,D .neq 15 0 16] 16 [M 5 17,V e0 2,M 17 3]<|
 q (r [A 0 1 18,K 18 19]<|
 .block 0 (r [D .eql 19 1 21,M 21 20]<|
 c 20 (r [M 4 22,M 22 2,V z0 3]<|
 .ret) (q (r [D .eql 19 2 24,M 24 23]<|
 c 23 k (r [D .eql 19 3 25,M 25 23]<|
 c 23 k (r [D .eql 19 4 26,M 26 23]<|
 c 23 k (R [D .eql 19 5 27,M 27 23]))))<|
 c 23 (r [A 0 1 28,K 28 29,C 165 [t 29] 30,bC (.bin .add (t 30) (gS [32])) 31,M 4 32,B .add 31 32 33,M 33 2,V z0 3]<|
 .ret) k)))<|
 r [A 7 1 35,L 6 35 36,C 164 [t 36] 37,M 37 34,E 34 0 38,E 34 1 39,M 38 6,M 39 5]<|
 gR [M 5 40,D .neq 40 0 41] 41 [M 5 42,V e0 2,M 42 3]<|
 r [V (.str [91]) 7,V (.str [93]) 8]<|
 q (r [A 13 1 43,K 43 44]<|
 c 44 (R [V (.str [93]) 7]) k)<|
 q (r [A 14 1 45,K 45 46]<|
 c 46 (R [V (.str [91]) 8]) k)<|
 r [M 7 47,M 4 48,B .add 47 48 49,bC (.bin .add (t 49) (gS [46,46])) 50,M 6 51,B .add 50 51 52,M 8 53,B .add 52 53 54,M 54 2,V z0 3]<|
 .ret):=bF
def xL: Of aH 164 28 [.tmp 2,.tmp 3] (r [X 0 1,V e0 2,V z0 3]<|
 r [L 6 1 7,C 80 [t 7] 8,M 8 6,E 6 0 9,E 6 1 10,M 9 4,M 10 5]<|
 q (r [M 5 11,D .eql 11 0 12,M 12 13,AT 0 1 14 13,KT 14 15 13,DT .geq 15 8 16 13,MT 16 17 13,AT 0 1 18 17,KT 18 19 17,DT .leq 19 16 20 17,PT 17 20 21 13,P 13 21 22]<|
 c 22 (R [M 4 23,bC (.bin .add (gS [40]) (t 23)) 24,bC (.bin .add (t 24) (gS [41])) 25,M 25 4]) k)<|
 r [M 4 26,M 5 27,M 26 2,M 27 3]<|
 .ret):=bF
def Nq: Of aH 30 6 [.cell 0 true 4] (r [J vB 0]<|
 r [C 55 [gS [0],gJ 32] 2,M 2 1]<|
 r [M 1 3,M 1 4,gU vB [(2,1,t 3),(3,1,t 4)] 5,W 4 0 5]<|
 .ret):=bF
def Nr: Of aH 41 43 [.tmp 2] (r [X 0 1,V z0 2]<|
 q (.block 0 (r [A 0 1 4,K 4 5,D .lss 5 0 6,M 6 7,AF 0 1 8 7,KF 8 9 7,AF 1 1 10 7,KF 10 11 7,BF .gtr 9 11 12 7,O 7 12 13,M 13 14,AF 1 1 15 14,KF 15 16 14,DF .gtr 16 1125899906842624 17 14,O 14 17 18,M 18 3]<|
 c 3 (r [V (i6 2) 2]<|
 .ret) (r [A 2 1 20,K 20 21,S 21 22,D .neq 22 32 23,M 23 24,AF 3 1 25 24,KF 25 26 24,SF 26 27 24,DF .neq 27 32 28 24,O 24 28 29,M 29 19]<|
 c 19 (r [V (i6 2) 2]<|
 .ret) (r [A 0 1 31,K 31 32,A 1 1 33,K 33 34,B .eql 32 34 35,M 35 36,AT 2 1 37 36,KT 37 38 36,AT 3 1 39 36,KT 39 40 36,BT .neq 38 40 41 36,P 36 41 42,M 42 30]<|
 c 30 (r [V (i6 2) 2]<|
 .ret) k))))<|
 r [V z0 2]<|
 .ret):=bF
def Sm: Of aH 45 40 [.cell 6 true 4,.tmp 7] (r [X 0 3,J vB 6,V z0 7]<|
 q (r [L 4 3 9,M 1 10,C 16 [t 9,t 10] 11,M 11 8]<|
 r [M 8 12,D .neq 12 0 13]<|
 c 13 (r [gU vB [] 14,M 8 15,W 4 6 14,M 15 7]<|
 .ret) k)<|
 gR [M 2 16,A 0 3 17,K 17 18,B .lss 16 18 19,M 19 20,MF 2 21 20,AF 1 3 22 20,KF 22 23 20,BF .gtr 21 23 24 20,O 20 24 25] 25 [gU vB [] 26,W 4 6 26,V (i6 22) 7]<|
 q (.draw [A 2 3 27,K 27 28,M 1 29,M 2 30,A 0 3 31,K 31 32,B .sub 30 32 33,bC (.pC ⟨false,1⟩ (t 29) none (some (t 33))) 34,Q 42 [t 28,t 34] 35,A 2 3 36,W 1 36 35] [])<|
 r [M 2 37,A 0 3 38,W 1 38 37]<|
 r [L 4 3 39,W 4 6 39,V z0 7]<|
 .ret):=bF
def Qz: Of aH 21 27 [.cell 4 true 4,.tmp 5] (r [X 0 2,J vB 4,V z0 5]<|
 q (r [L 4 2 7,C 41 [t 7] 8,M 8 6]<|
 r [M 6 9,D .neq 9 0 10]<|
 c 10 (r [gU vB [] 11,M 6 12,W 4 4 11,M 12 5]<|
 .ret) k)<|
 gR [A 1 2 13,K 13 14,D .eql 14 1125899906842624 15] 15 [gU vB [] 16,W 4 4 16,V (i6 24) 5]<|
 r [A 1 2 17,K 17 18,D .add 18 1 19,A 1 2 20,W 1 20 19]<|
 r [A 3 2 21,K 21 22,M 1 23,C 47 [t 22,t 23] 24,A 3 2 25,W 1 25 24]<|
 r [L 4 2 26,W 4 4 26,V z0 5]<|
 .ret):=bF
def LH: Of aH 16 28 [.tmp 4] (r [X 0 2,V z0 4]<|
 q (r [L 4 2 6,C 41 [t 6] 7,M 7 5]<|
 r [M 5 8,D .neq 8 0 9]<|
 c 9 (r [M 5 10,M 10 4]<|
 .ret) k)<|
 q (q (.draw [M 1 11,N 11 12,A 1 2 13,K 13 14,A 0 2 15,K 15 16,B .sub 14 16 17,B .neq 12 17 18,M 18 19,AF 2 2 20 19,KF 20 21 19,MF 1 22 19,QF 42 [t 21,t 22] 23 19,AF 3 2 24 19,KF 24 25 19,BF .neq 23 25 26 19,O 19 26 27] [])<|
 c 27 (r [V (i6 23) 4]<|
 .ret) k)<|
 r [V z0 4]<|
 .ret):=bF
def Ns: Of aH 50 42 [.tmp 2] (r [gF 2]<|
 gR [M 0 5,C 77 [t 5] 6,U 6 7] 7 [gF 2]<|
 q (r [V z0 3]<|
 gL 0 [M 3 8,M 0 9,N 9 10,B .lss 8 10 11] 11 ((
 q (.block 1 (gR [M 0 14,M 3 15,I true 3 14 15 16,A 2 16 17,K 17 18,N 18 19,D .gtr 19 12 20] 20 [gF 2]<|
 r [V z0 4]<|
 gL 2 [M 4 21,M 0 22,M 3 23,I true 3 22 23 24,A 2 24 25,K 25 26,N 26 27,B .lss 21 27 28] 28 ((
 q (.block 3 (r [M 0 31,M 3 32,I true 3 31 32 33,A 2 33 34,K 34 35,M 4 36,I true 3 35 36 37,A 2 37 38,K 38 39,S 39 40,D .gtr 40 300 41]<|
 c 41 (r [gF 2]<|
 .ret) k))<|
 R [M 4 29,D .add 29 1 30,M 30 4]))))<|
 R [M 3 12,D .add 12 1 13,M 13 3])))<|
 r [gT 2]<|
 .ret):=bF
def Nt: Of aH 51 19 [.tmp 2] (r [gF 2]<|
 gR [M 0 4,N 4 5,D .gtr 5 10 6] 6 [gF 2]<|
 q (r [V z0 3]<|
 gL 0 [M 3 7,M 0 8,N 8 9,B .lss 7 9 10] 10 ((
 q (.block 1 (r [M 0 13,M 3 14,I false 1 13 14 15,K 15 16,S 16 17,D .gtr 17 300 18]<|
 c 18 (r [gF 2]<|
 .ret) k))<|
 R [M 3 11,D .add 11 1 12,M 12 3])))<|
 r [gT 2]<|
 .ret):=bF
def JR: Of aH 27 10 [.cell 0 true 6] (r [J w5 0]<|
 r [gU Bg [(0,1,gS [97]),(1,1,gJ 1)] 1,gB true 3 (.agg Bg) 1 [(0,t 1)] 2,gU Bg [(0,1,gS [111]),(1,1,gJ 1)] 3,gB true 3 (.agg Bg) 1 [(0,t 3)] 4,gB false 1 e0 1 [(0,gS [60,53])] 5,gB false 1 e0 1 [(0,gS [97,32,43,32,49])] 6,gU x7 [(0,1,t 5),(1,1,t 6)] 7,gB true 2 (.agg x7) 1 [(0,t 7)] 8,gU w5 [(0,1,gS [116]),(1,1,t 2),(2,1,t 4),(3,1,gJ 2),(5,1,t 8)] 9,W 6 0 9]<|
 .ret):=bF
def Bl: Of aH 5 204 [.tmp 4] (r [gF 4]<|
 gR [M 0 27,C 6 [t 27] 28,U 28 29] 29 [C 7 [] 30,M 30 4]<|
 r [C 8 [] 31,M 31 5]<|
 q (r [V z0 6]<|
 gL 0 [M 6 32,M 0 33,N 33 34,B .lss 32 34 35] 35 ((
 q (.block 1 (R [M 5 38,M 0 39,M 6 40,I true 12 39 40 41,L 12 41 42,C 9 [t 38,t 42] 43]))<|
 R [M 6 36,D .add 36 1 37,M 37 6])))<|
 r [M 5 44,C 17 [t 44] 45,M 45 7]<|
 gR [M 7 46,bC (.n_ false .p (t 46) (.c .gO)) 47] 47 [gF 4]<|
 r [M 7 49,C 10 [t 49] 50,M 50 48,E 48 0 51,E 48 1 52,J vB 8,W 4 8 51,M 52 9]<|
 r [M 5 53,M 1 54,C 19 [t 53,t 54] 55,M 55 10]<|
 r [M 5 57,C 10 [t 57] 58,M 58 56,E 56 0 59,E 56 1 60,J vB 11,W 4 11 59,M 60 12]<|
 gR [M 1 61,A 0 8 62,K 62 63,B .lss 61 63 64,M 64 65,MF 1 66 65,AF 1 8 67 65,KF 67 68 65,BF .gtr 66 68 69 65,O 65 69 70] 70 [M 10 71,D .eql 71 22 72,M 72 73,MT 5 74 73,MT 7 75 73,CT 18 [t 74,t 75] 76 73,P 73 76 77,M 77 78,CT 7 [] 79 78,P 78 79 80,M 80 4]<|
 r [M 7 82,A 0 8 83,K 83 84,M 1 85,A 0 8 86,K 86 87,B .sub 85 87 88,C 11 [t 82,t 84,t 88] 89,M 89 81,E 81 0 90,E 81 1 91,M 90 13,M 91 14]<|
 r [M 7 93,M 1 94,C 11 [t 93,t 94,gJ 1000] 95,M 95 92,E 92 0 96,E 92 1 97,M 96 15,M 97 16]<|
 r [M 5 99,M 1 100,C 11 [t 99,t 100,gJ 1000] 101,M 101 98,E 98 0 102,E 98 1 103,M 102 17,M 103 18]<|
 gR [M 10 104,D .neq 104 0 105,M 105 106,MF 14 107 106,DF .neq 107 0 108 106,O 106 108 109,M 109 110,MF 16 111 110,DF .neq 111 0 112 110,O 110 112 113,M 113 114,MF 18 115 114,DF .neq 115 0 116 114,O 114 116 117,M 117 118,MF 15 119 118,MF 17 120 118,CF 20 [t 119,t 120] 121 118,UF 121 122 118,O 118 122 123,M 123 124,AF 0 11 125 124,KF 125 126 124,MF 1 127 124,BF .neq 126 127 128 124,O 124 128 129,M 129 130,AF 1 11 131 130,KF 131 132 130,AF 1 8 133 130,KF 133 134 130,BF .neq 132 134 135 130,O 130 135 136,M 136 137,AF 3 11 138 137,KF 138 139 137,AF 3 8 140 137,KF 140 141 137,BF .neq 139 141 142 137,O 137 142 143] 143 [gF 4]<|
 r [A 0 8 144,K 144 145,A 0 8 146,K 146 147,A 2 8 148,K 148 149,A 2 8 150,K 150 151,gU vB [(0,1,t 145),(1,1,t 147),(2,1,t 149),(3,1,t 151)] 152,J vB 19,W 4 19 152]<|
 q (r [V z0 20]<|
 gL 2 [M 20 153,M 13 154,N 154 155,B .lss 153 155 156] 156 ((
 q (.block 3 (r [M 13 160,M 20 161,I true 6 160 161 162,L 6 162 163,C 14 [t 163] 164,M 164 159,E 159 0 165,E 159 1 166,M 165 21,M 166 22]<|
 R [L 4 19 168,M 21 169,C 21 [t 168,t 169] 170,M 170 167,E 167 0 171,E 167 1 172,W 4 19 171]))<|
 R [M 20 157,D .add 157 1 158,M 158 20])))<|
 r [M 5 174,C 22 [t 174] 175,M 175 173,E 173 0 176,E 173 1 177,M 176 23,M 177 24]<|
 r [M 7 179,C 22 [t 179] 180,M 180 178,E 178 0 181,E 178 1 182,M 181 25,M 182 26]<|
 r [A 3 19 183,K 183 184,A 2 11 185,K 185 186,B .eql 184 186 187,M 187 188,MT 23 189 188,MT 25 190 188,CT 23 [t 189,t 190] 191 188,P 188 191 192,M 192 193,MT 24 194 193,DT .eql 194 0 195 193,P 193 195 196,M 196 197,MT 26 198 197,DT .eql 198 0 199 197,P 197 199 200,M 200 201,CT 7 [] 202 201,P 201 202 203,M 203 4]<|
 .ret):=bF
def B7: Of aH 4 54 [.tmp 2] (r [gF 2]<|
 gR [M 0 8,C 6 [t 8] 9,U 9 10] 10 [C 7 [] 11,M 11 2]<|
 r [C 8 [] 12,C 8 [] 13,M 12 3,M 13 4]<|
 q (r [V z0 5]<|
 gL 0 [M 5 14,M 0 15,N 15 16,B .lss 14 16 17] 17 ((
 q (.block 1 (r [M 3 20,C 17 [t 20] 21,M 21 6]<|
 gR [M 6 22,bC (.n_ false .p (t 22) (.c .gO)) 23] 23 [gF 2]<|
 r [M 3 24,M 0 25,M 5 26,I true 12 25 26 27,L 12 27 28,C 9 [t 24,t 28] 29,M 29 7]<|
 r [M 7 30,M 4 31,M 0 32,M 5 33,I true 12 32 33 34,L 12 34 35,C 9 [t 31,t 35] 36,B .neq 30 36 37,M 37 38,MF 7 39 38,DF .neq 39 0 40 38,MF 40 41 38,MT 3 42 41,MT 6 43 41,CT 18 [t 42,t 43] 44 41,UT 44 45 41,PF 41 45 46 38,O 38 46 47]<|
 c 47 (r [gF 2]<|
 .ret) k))<|
 R [M 5 18,D .add 18 1 19,M 19 5])))<|
 r [M 3 48,M 4 49,C 18 [t 48,t 49] 50,M 50 51,CT 7 [] 52 51,P 51 52 53,M 53 2]<|
 .ret):=bF
def Sn: Of aH 29 6 [.tmp 2] (r [V .aV 2]<|
 r [M 0 3,gU ie [(0,1,gJ 1),(1,1,t 3)] 4,gB true 3 (.agg ie) 1 [(0,t 4)] 5,M 5 2]<|
 .ret):=bF
def UR: Of aH 9 39 [.tmp 4] (r [X 1 3,V z0 4]<|
 r [V z0 5]<|
 q (r [A 0 3 6,K 6 7]<|
 .block 0 (r [D .eql 7 0 9,M 9 8]<|
 c 8 (R [M 0 11,A 1 3 12,L 6 12 13,C 26 [t 11,t 13] 14,M 14 10,E 10 0 15,E 10 1 16,M 16 5]) (q (r [D .eql 7 1 18,M 18 17]<|
 c 17 k (R [D .eql 7 2 19,M 19 17]))<|
 c 17 (R [M 0 21,A 7 3 22,K 22 23,A 8 3 24,K 24 25,A 9 3 26,K 26 27,C 28 [t 21,t 23,t 25,t 27] 28,M 28 20,E 20 0 29,E 20 1 30,E 20 2 31,M 31 5]) (r [D .eql 7 6 33,M 33 32]<|
 c 32 (R [M 0 34,A 10 3 35,K 35 36,C 19 [t 34,t 36] 37,M 37 5]) k))))<|
 r [M 5 38,M 38 4]<|
 .ret):=bF
