/- Part. -/
import Derived.Test.YthakfmmgnjpmdaaGreatDoorW15
import Derived.KernelRfl
set_option linter.all false
namespace Go.Proofs.YthakfmmgnjpmdaaGreatDoor
open Go.AM Go.AM.W
set_option maxRecDepth 10000
def pW: Of aH 3 117 [.tmp 8] (r [X 0 4,X 3 7,gF 8]<|
 gR [L 6 4 18,C 4 [t 18] 19,U 19 20,M 20 21,MF 2 22 21,CF 5 [t 22] 23 21,UF 23 24 21,O 21 24 25,M 25 26,AF 1 7 27 26,KF 27 28 26,NF 28 29 26,DF .gtr 29 30 30 26,O 26 30 31,M 31 32,AF 2 7 33 32,KF 33 34 32,NF 34 35 32,DF .gtr 35 30 36 32,O 32 36 37] 37 [C 6 [] 38,M 38 8]<|
 r [L 6 4 40,M 1 41,M 2 42,C 7 [t 40,t 41,t 42] 43,M 43 39,E 39 0 44,E 39 1 45,J [e0,z0,.aA,z0,.aA,.aA] 9,W 6 9 44,M 45 10]<|
 gR [M 10 46,D .neq 46 0 47] 47 [L 6 9 48,gU [e0,z0,.aA,z0,.aA,.aA] [] 49,C 8 [t 48,t 49] 50,M 50 51,CT 6 [] 52 51,P 51 52 53,M 53 8]<|
 r [L 6 9 55,C 9 [t 55] 56,M 56 54,E 54 0 57,E 54 1 58,M 57 11,M 58 12]<|
 gR [L 6 9 59,C 10 [t 59] 60,D .neq 60 0 61,M 61 62,MF 12 63 62,DF .neq 63 0 64 62,O 62 64 65,M 65 66,MF 11 67 66,⟨.bin .eql (t 67) (.c e0),(some 68),some (66,false)⟩,O 66 68 69,M 69 70,LF 6 9 71 70,LF 6 4 72 70,CF 11 [t 71,t 72] 73 70,UF 73 74 70,O 70 74 75] 75 [gF 8]<|
 q (r [L 6 4 77,C 12 [t 77] 78,M 78 76,E 76 0 79,E 76 1 80,E 76 2 81,E 76 3 82,J [e0,.aA,.aA,z0,z0,.aA] 13,W 6 13 79,M 80 14,M 81 15,M 82 16]<|
 r [M 16 83,D .eql 83 0 84,M 84 85,LT 6 9 86 85,LT 6 13 87 85,CT 11 [t 86,t 87] 88 85,UT 88 89 85,P 85 89 90]<|
 c 90 (r [gF 8]<|
 .ret) k)<|
 r [L 6 9 91,J [e0,z0,.aA,z0,.aA,.aA] 17,W 6 17 91]<|
 r [L 3 7 92,A 3 17 93,W 3 93 92]<|
 q (.draw [L 6 17 94,L 6 4 95,Q 11 [t 94,t 95] 96,L 6 9 97,L 6 17 98,Q 13 [t 97,t 98] 99,bA (.mN false false [.b] (t 96) (t 99)) 100,M 100 101,AT 0 9 102 101,KT 102 103 101,AT 0 4 104 101,KT 104 105 101,BT .eql 103 105 106 101,P 101 106 107,M 107 108,AT 1 9 109 108,KT 109 110 108,MT 1 111 108,BT .eql 110 111 112 108,P 108 112 113,M 113 114,QT 6 [] 115 114,P 114 115 116,M 116 8] [])<|
 .ret):=bG Tryz.func3
def G4: Of aH 4 51 [.tmp 2] (r [X 0 1,gF 2]<|
 gR [A 0 1 4,K 4 5,S 5 6,D .gtr 6 300 7,M 7 8,AF 5 1 9 8,KF 9 10 8,NF 10 11 8,DF .gtr 11 26 12 8,O 8 12 13,M 13 14,AF 1 1 15 14,KF 15 16 14,CF 14 [t 16] 17 14,UF 17 18 14,O 14 18 19,M 19 20,AF 2 1 21 20,KF 21 22 20,CF 14 [t 22] 23 20,UF 23 24 20,O 20 24 25] 25 [gF 2]<|
 q (r [V z0 3]<|
 gL 0 [M 3 26,A 5 1 27,K 27 28,N 28 29,B .lss 26 29 30] 30 ((
 q (.block 1 (r [A 5 1 33,K 33 34,M 3 35,I true 2 34 35 36,A 0 36 37,K 37 38,C 15 [t 38] 39,U 39 40,M 40 41,AF 5 1 42 41,KF 42 43 41,MF 3 44 41,IF true 2 43 44 45 41,AF 1 45 46 41,KF 46 47 41,CF 15 [t 47] 48 41,UF 48 49 41,O 41 49 50]<|
 c 50 (r [gF 2]<|
 .ret) k))<|
 R [M 3 31,D .add 31 1 32,M 32 3])))<|
 r [gT 2]<|
 .ret):=bG Tryz.func4
def G5: Of aH 5 20 [.tmp 2] (r [gF 2]<|
 gR [M 0 4,N 4 5,D .gtr 5 12 6] 6 [gF 2]<|
 q (r [V z0 3]<|
 gL 0 [M 3 7,M 0 8,N 8 9,B .lss 7 9 10] 10 ((
 q (.block 1 (r [M 0 13,M 3 14,I true 3 13 14 15,A 2 15 16,K 16 17,S 17 18,D .gtr 18 300 19]<|
 c 19 (r [gF 2]<|
 .ret) k))<|
 R [M 3 11,D .add 11 1 12,M 12 3])))<|
 r [gT 2]<|
 .ret):=bG Tryz.func5
def Kj: Of aH 6 56 [.tmp 0] (r [gF 0]<|
 r [C 16 [] 8,C 17 [gJ 3] 9,gB true 3 (.agg [z0,z0,e0]) 1 [(0,t 9)] 10,C 7 [t 8,gJ 2,t 10] 11,M 11 7,E 7 0 12,E 7 1 13,J [e0,z0,.aA,z0,.aA,.aA] 1,W 6 1 12,M 13 2]<|
 r [L 6 1 15,C 9 [t 15] 16,M 16 14,E 14 0 17,E 14 1 18,M 17 3,M 18 4]<|
 r [M 3 20,C 18 [t 20] 21,M 21 19,E 19 0 22,E 19 1 23,J [e0,z0,.aA,z0,.aA,.aA] 5,W 6 5 22,M 23 6]<|
 q (.draw [L 6 1 24,Q 17 [gJ 3] 25,gB true 3 (.agg [z0,z0,e0]) 1 [(0,t 25)] 26,gB false 1 z0 1 [(0,.c z0)] 27,Q 17 [gJ 3] 28,gB true 3 (.agg [z0,z0,e0]) 1 [(0,t 28)] 29,gB false 1 .aA 1 [(0,t 29)] 30,gU [z0,.aA,.aA] [(1,1,t 27),(2,1,t 30)] 31,gU [e0,z0,.aA,z0,.aA,.aA] [(0,1,gS [116]),(1,1,gJ 2),(2,1,t 26),(3,3,t 31)] 32,Q 8 [t 24,t 32] 33,M 33 34,MT 2 35 34,DT .eql 35 0 36 34,P 34 36 37,M 37 38,MT 4 39 38,DT .eql 39 0 40 38,P 38 40 41,M 41 42,LT 6 1 43 42,LT 6 5 44 42,QT 8 [t 43,t 44] 45 42,P 42 45 46,M 46 47,MT 6 48 47,DT .eql 48 0 49 47,P 47 49 50,M 50 51,LT 6 1 52 51,QT 16 [] 53 51,QT 11 [t 52,t 53] 54 51,P 51 54 55,M 55 0] [])<|
 .ret):=bG Tryz.func6
def rR: Of aH 7 56 [.cell 6 true 6,.tmp 7] (r [X 0 3,J [e0,z0,.aA,z0,.aA,.aA] 6,V z0 7]<|
 gR [M 1 15,D .lss 15 1 16,M 16 17,MF 1 18 17,DF .gtr 18 2147483648 19 17,O 17 19 20] 20 [gU [e0,z0,.aA,z0,.aA,.aA] [] 21,W 6 6 21,V (i6 2) 7]<|
 r [L 6 3 23,C 19 [t 23] 24,M 24 22,E 22 0 25,E 22 1 26,E 22 2 27,E 22 3 28,J [e0,.aA,.aA,z0,z0,.aA,.aA] 8,W 7 8 25,M 26 9,M 27 10,M 28 11]<|
 gR [M 11 29,D .neq 29 0 30] 30 [gU [e0,z0,.aA,z0,.aA,.aA] [] 31,M 11 32,W 6 6 31,M 32 7]<|
 r [L 7 8 34,M 2 35,C 20 [t 34,t 35] 36,M 36 33,E 33 0 37,E 33 1 38,J [z0,.aA,.aA] 12,W 3 12 37,M 38 11]<|
 gR [M 11 39,D .neq 39 0 40] 40 [gU [e0,z0,.aA,z0,.aA,.aA] [] 41,M 11 42,W 6 6 41,M 42 7]<|
 r [A 0 3 43,K 43 44,M 1 45,M 2 46,L 3 12 47,gU [e0,z0,.aA,z0,.aA,.aA] [(0,1,t 44),(1,1,t 45),(2,1,t 46),(3,3,t 47)] 48,J [e0,z0,.aA,z0,.aA,.aA] 13,W 6 13 48]<|
 q (r [L 6 13 49,C 10 [t 49] 50,M 50 14]<|
 r [M 14 51,D .neq 51 0 52]<|
 c 52 (r [gU [e0,z0,.aA,z0,.aA,.aA] [] 53,M 14 54,W 6 6 53,M 54 7]<|
 .ret) k)<|
 r [L 6 13 55,W 6 6 55,V z0 7]<|
 .ret):=bG Tryz.func7
def Nh: Of aH 8 31 [.tmp 4] (r [X 0 2,X 1 3,gF 4]<|
 r [A 0 2 5,K 5 6,A 0 3 7,K 7 8,B .eql 6 8 9,M 9 10,AT 1 2 11 10,KT 11 12 10,AT 1 3 13 10,KT 13 14 10,BT .eql 12 14 15 10,P 10 15 16,M 16 17,AT 2 2 18 17,KT 18 19 17,AT 2 3 20 17,KT 20 21 17,CT 21 [t 19,t 21] 22 17,P 17 22 23,M 23 24,AT 3 2 25 24,LT 3 25 26 24,AT 3 3 27 24,LT 3 27 28 24,CT 22 [t 26,t 28] 29 24,P 24 29 30,M 30 4]<|
 .ret):=bG Tryz.func8
def Am: Of aH 9 12 [.tmp 2,.tmp 3] (r [X 0 1,V e0 2,V z0 3]<|
 q (r [L 6 1 5,C 10 [t 5] 6,M 6 4]<|
 r [M 4 7,D .neq 7 0 8]<|
 c 8 (r [M 4 9,V e0 2,M 9 3]<|
 .ret) k)<|
 r [L 6 1 10,C 23 [t 10] 11,M 11 2,V z0 3]<|
 .ret):=bG Tryz.func9
def Ao: Of aH 10 12 [.tmp 2] (r [X 0 1,V z0 2]<|
 q (.block 0 (r [L 6 1 4,C 24 [t 4] 5,U 5 6,M 6 3]<|
 c 3 (r [V (i6 2) 2]<|
 .ret) (r [L 6 1 8,C 23 [t 8] 9,S 9 10,D .gtr 10 1400 11,M 11 7]<|
 c 7 (r [V (i6 5) 2]<|
 .ret) k)))<|
 r [V z0 2]<|
 .ret):=bG Tryz.func10
def Ap: Of aH 11 23 [.tmp 4] (r [X 0 2,X 1 3,gF 4]<|
 r [L 6 3 8,A 1 2 9,K 9 10,A 2 2 11,K 11 12,C 7 [t 8,t 10,t 12] 13,M 13 7,E 7 0 14,E 7 1 15,J [e0,z0,.aA,z0,.aA,.aA] 5,W 6 5 14,M 15 6]<|
 r [M 6 16,D .eql 16 0 17,M 17 18,LT 6 2 19 18,LT 6 5 20 18,CT 13 [t 19,t 20] 21 18,P 18 21 22,M 22 4]<|
 .ret):=bG Tryz.func11
def za: Of aH 12 106 [.cell 2 true 6,.tmp 3,.tmp 4,.tmp 5] (r [X 0 1,J [e0,.aA,.aA,z0,z0,.aA] 2,V z0 3,V z0 4,V z0 5]<|
 .scope 0 (r [L 6 1 22,C 19 [t 22] 23,M 23 21,E 21 0 24,E 21 1 25,E 21 2 26,E 21 3 27,J [e0,.aA,.aA,z0,z0,.aA,.aA] 6,W 7 6 24,M 25 7,M 26 8,M 27 9]<|
 gR [M 9 28,D .neq 28 0 29] 29 [gU [e0,.aA,.aA,z0,z0,.aA] [] 30,M 7 31,M 8 32,M 9 33,W 6 2 30,M 31 3,M 32 4,M 33 5]<|
 r [L 6 1 34,J [e0,.aA,.aA,z0,z0,.aA] 10,W 6 10 34]<|
 r [A 5 10 35,⟨.store 1 (t 35) (.c .aA),none,none⟩]<|
 r [J [.aA,.aA] 11]<|
 r [V (.fn (.func 25) [] []) 12]<|
 q (.label 0)<|
 q (r [A 6 6 36,K 36 37,N 37 38,V z0 39]<|
 .block 0 (.loop (r [B .lss 39 38 40]<|
 q (c 40 k (.exit 0))<|
 q (.block 1 (r [M 39 41,I true 2 37 39 42,L 2 42 43,J [.aA,.aA] 14,M 41 13,W 2 14 43]<|
 r [gU [.aA,.aA] [] 44,M 13 45,W 2 11 44,M 45 7]<|
 q (r [A 0 14 46,K 46 47,N 47 48,V z0 49]<|
 .block 2 (.loop (r [B .lss 49 48 50]<|
 q (c 50 k (.exit 2))<|
 q (.block 3 (r [M 49 51,I true 3 47 49 52,L 3 52 53,J [.bool false,.bool false,.aA] 16,M 51 15,W 3 16 53]<|
 r [V e0 17]<|
 r [L 3 16 55,C 26 [t 55] 56,M 56 54,E 54 0 57,E 54 1 58,M 57 17,M 58 9]<|
 r [M 15 59,M 59 8]<|
 r [M 12 60,A 0 11 61,M 17 62,M 9 63,bA (.call false (t 60) [t 61,t 62,t 63]) 64,U 64 65]<|
 c 65 (.exit 0) k))<|
 R [D .add 49 1 66,M 66 49])))<|
 q (r [A 1 14 67,K 67 68,N 68 69,V z0 70]<|
 .block 4 (.loop (r [B .lss 70 69 71]<|
 q (c 71 k (.exit 4))<|
 q (.block 5 (r [M 70 72,I true 6 68 70 73,L 6 73 74,J [z0,z0,z0,e0,e0,.aA] 19,M 72 18,W 6 19 74]<|
 r [V e0 20]<|
 r [L 6 19 76,C 27 [t 76] 77,M 77 75,E 75 0 78,E 75 1 79,M 78 20,M 79 9]<|
 r [A 1 1 80,K 80 81,N 81 82,M 18 83,B .add 82 83 84,M 84 8]<|
 r [M 12 85,A 1 11 86,M 20 87,M 9 88,bA (.call false (t 85) [t 86,t 87,t 88]) 89,U 89 90]<|
 c 90 (.exit 0) k))<|
 R [D .add 70 1 91,M 91 70])))<|
 R [A 5 10 92,K 92 93,L 2 11 94,gB true 2 (.agg [.aA,.aA]) 1 [(0,t 94)] 95,gA true 2 93 95 96,A 5 10 97,W 1 97 96]))<|
 R [D .add 39 1 98,M 98 39])))<|
 gR [M 9 99,D .neq 99 0 100] 100 [gU [e0,.aA,.aA,z0,z0,.aA] [] 101,M 7 102,M 8 103,M 9 104,W 6 2 101,M 102 3,M 103 4,M 104 5]<|
 r [L 6 10 105,W 6 2 105,V z0 3,V z0 4,V z0 5]<|
 .ret) (.seq k <|
 q (r [A 6 6 36,K 36 37,N 37 38,V z0 39]<|
 .block 0 (.loop (r [B .lss 39 38 40]<|
 q (c 40 k (.exit 0))<|
 q (.block 1 (r [M 39 41,I true 2 37 39 42,L 2 42 43,J [.aA,.aA] 14,M 41 13,W 2 14 43]<|
 r [gU [.aA,.aA] [] 44,M 13 45,W 2 11 44,M 45 7]<|
 q (r [A 0 14 46,K 46 47,N 47 48,V z0 49]<|
 .block 2 (.loop (r [B .lss 49 48 50]<|
 q (c 50 k (.exit 2))<|
 q (.block 3 (r [M 49 51,I true 3 47 49 52,L 3 52 53,J [.bool false,.bool false,.aA] 16,M 51 15,W 3 16 53]<|
 r [V e0 17]<|
 r [L 3 16 55,C 26 [t 55] 56,M 56 54,E 54 0 57,E 54 1 58,M 57 17,M 58 9]<|
 r [M 15 59,M 59 8]<|
 r [M 12 60,A 0 11 61,M 17 62,M 9 63,bA (.call false (t 60) [t 61,t 62,t 63]) 64,U 64 65]<|
 c 65 (.exit 0) k))<|
 R [D .add 49 1 66,M 66 49])))<|
 q (r [A 1 14 67,K 67 68,N 68 69,V z0 70]<|
 .block 4 (.loop (r [B .lss 70 69 71]<|
 q (c 71 k (.exit 4))<|
 q (.block 5 (r [M 70 72,I true 6 68 70 73,L 6 73 74,J [z0,z0,z0,e0,e0,.aA] 19,M 72 18,W 6 19 74]<|
 r [V e0 20]<|
 r [L 6 19 76,C 27 [t 76] 77,M 77 75,E 75 0 78,E 75 1 79,M 78 20,M 79 9]<|
 r [A 1 1 80,K 80 81,N 81 82,M 18 83,B .add 82 83 84,M 84 8]<|
 r [M 12 85,A 1 11 86,M 20 87,M 9 88,bA (.call false (t 85) [t 86,t 87,t 88]) 89,U 89 90]<|
 c 90 (.exit 0) k))<|
 R [D .add 70 1 91,M 91 70])))<|
 R [A 5 10 92,K 92 93,L 2 11 94,gB true 2 (.agg [.aA,.aA]) 1 [(0,t 94)] 95,gA true 2 93 95 96,A 5 10 97,W 1 97 96]))<|
 R [D .add 39 1 98,M 98 39])))<|
 gR [M 9 99,D .neq 99 0 100] 100 [gU [e0,.aA,.aA,z0,z0,.aA] [] 101,M 7 102,M 8 103,M 9 104,W 6 2 101,M 102 3,M 103 4,M 104 5]<|
 r [L 6 10 105,W 6 2 105,V z0 3,V z0 4,V z0 5]<|
 .ret)):=bG Tryz.func12
def Ni: Of aH 13 31 [.tmp 4] (r [X 0 2,X 1 3,gF 4]<|
 r [A 0 2 5,K 5 6,A 0 3 7,K 7 8,B .eql 6 8 9,M 9 10,AT 1 2 11 10,KT 11 12 10,AT 1 3 13 10,KT 13 14 10,BT .eql 12 14 15 10,P 10 15 16,M 16 17,AT 2 2 18 17,KT 18 19 17,AT 2 3 20 17,KT 20 21 17,CT 28 [t 19,t 21] 22 17,P 17 22 23,M 23 24,AT 3 2 25 24,LT 3 25 26 24,AT 3 3 27 24,LT 3 27 28 24,CT 29 [t 26,t 28] 29 24,P 24 29 30,M 30 4]<|
 .ret):=bG Tryz.func13
def Kk: Of aH 14 42 [.tmp 2] (r [gF 2]<|
 gR [M 0 5,C 30 [t 5] 6,U 6 7] 7 [gF 2]<|
 q (r [V z0 3]<|
 gL 0 [M 3 8,M 0 9,N 9 10,B .lss 8 10 11] 11 ((
 q (.block 1 (gR [M 0 14,M 3 15,I true 3 14 15 16,A 2 16 17,K 17 18,N 18 19,D .gtr 19 12 20] 20 [gF 2]<|
 r [V z0 4]<|
 gL 2 [M 4 21,M 0 22,M 3 23,I true 3 22 23 24,A 2 24 25,K 25 26,N 26 27,B .lss 21 27 28] 28 ((
 q (.block 3 (r [M 0 31,M 3 32,I true 3 31 32 33,A 2 33 34,K 34 35,M 4 36,I true 3 35 36 37,A 2 37 38,K 38 39,S 39 40,D .gtr 40 300 41]<|
 c 41 (r [gF 2]<|
 .ret) k))<|
 R [M 4 29,D .add 29 1 30,M 30 4]))))<|
 R [M 3 12,D .add 12 1 13,M 13 3])))<|
 r [gT 2]<|
 .ret):=bG Tryz.func14
def Kl: Of aH 15 19 [.tmp 2] (r [gF 2]<|
 gR [M 0 4,N 4 5,D .gtr 5 10 6] 6 [gF 2]<|
 q (r [V z0 3]<|
 gL 0 [M 3 7,M 0 8,N 8 9,B .lss 7 9 10] 10 ((
 q (.block 1 (r [M 0 13,M 3 14,I false 1 13 14 15,K 15 16,S 16 17,D .gtr 17 300 18]<|
 c 18 (r [gF 2]<|
 .ret) k))<|
 R [M 3 11,D .add 11 1 12,M 12 3])))<|
 r [gT 2]<|
 .ret):=bG Tryz.func15
def G6: Of aH 16 10 [.cell 0 true 6] (r [J [e0,.aA,.aA,z0,z0,.aA] 0]<|
 r [gU [e0,z0,.aA] [(0,1,gS [97]),(1,1,gJ 1)] 1,gB true 3 (.agg [e0,z0,.aA]) 1 [(0,t 1)] 2,gU [e0,z0,.aA] [(0,1,gS [111]),(1,1,gJ 1)] 3,gB true 3 (.agg [e0,z0,.aA]) 1 [(0,t 3)] 4,gB false 1 e0 1 [(0,gS [45])] 5,gB false 1 e0 1 [(0,gS [97])] 6,gU [.aA,.aA] [(0,1,t 5),(1,1,t 6)] 7,gB true 2 (.agg [.aA,.aA]) 1 [(0,t 7)] 8,gU [e0,.aA,.aA,z0,z0,.aA] [(0,1,gS [116]),(1,1,t 2),(2,1,t 4),(3,1,gJ 2),(5,1,t 8)] 9,W 6 0 9]<|
 .ret):=bG Tryz.func16
def OY: Of aH 17 5 [.cell 2 true 3] (r [J [z0,z0,e0] 2]<|
 r [M 0 3,gU [z0,z0,e0] [(0,1,gJ 1),(1,1,t 3)] 4,W 3 2 4]<|
 .ret):=bG Tryz.func17
def Km: Of aH 18 66 [.cell 2 true 6,.tmp 3] (r [J [e0,z0,.aA,z0,.aA,.aA] 2,V z0 3]<|
 r [J [e0,z0,.aA,z0,.aA,.aA] 4]<|
 r [gU [e0,z0] [] 8,X 8 9,M 9 5]<|
 r [M 5 11,M 5 12,M 0 13,C 31 [t 13,gJ 1400] 14,M 14 10,E 10 0 15,E 10 1 16,E 10 2 17,A 0 4 18,W 1 18 15,Z 11 19,A 0 19 20,W 1 20 16,Z 12 21,A 1 21 22,W 1 22 17]<|
 r [M 5 23,C 32 [t 23] 24,A 1 4 25,W 1 25 24]<|
 r [M 5 26,C 33 [t 26] 27,A 2 4 28,W 1 28 27]<|
 r [M 5 29,C 32 [t 29] 30,A 3 4 31,A 0 31 32,W 1 32 30]<|
 r [M 5 33,M 5 34,bA (.rH (.func 32) [t 34] []) 35,C 34 [t 33,t 35] 36,A 3 4 37,A 1 37 38,W 1 38 36]<|
 r [M 5 39,M 5 40,bA (.rH (.func 33) [t 40] []) 41,C 35 [t 39,t 41] 42,A 3 4 43,A 2 43 44,W 1 44 42]<|
 q (r [L 6 4 46,C 9 [t 46] 47,M 47 45,E 45 0 48,E 45 1 49,M 48 6,M 49 7]<|
 r [M 5 50,Z 50 51,A 1 51 52,K 52 53,D .neq 53 0 54,M 54 55,MF 7 56 55,DF .neq 56 0 57 55,O 55 57 58,M 58 59,MF 6 60 59,MF 0 61 59,BF .neq 60 61 62 59,O 59 62 63]<|
 c 63 (r [gU [e0,z0,.aA,z0,.aA,.aA] [] 64,W 6 2 64,V (i6 4) 3]<|
 .ret) k)<|
 r [L 6 4 65,W 6 2 65,V z0 3]<|
 .ret):=bG Tryz.func18
def Aq: Of aH 19 50 [.cell 2 true 7,.tmp 3,.tmp 4,.tmp 5] (r [X 0 1,J [e0,.aA,.aA,z0,z0,.aA,.aA] 2,V z0 3,V z0 4,V z0 5]<|
 q (r [L 6 1 13,C 36 [t 13] 14,M 14 6]<|
 r [M 6 15,D .neq 15 0 16]<|
 c 16 (r [gU [e0,.aA,.aA,z0,z0,.aA,.aA] [] 17,M 6 18,W 7 2 17,V (i6 (-1)) 3,V z0 4,M 18 5]<|
 .ret) k)<|
 r [L 6 1 19,gU [e0,.aA,.aA,z0,z0,.aA,.aA] [(0,6,t 19)] 20,J [e0,.aA,.aA,z0,z0,.aA,.aA] 7,W 7 7 20]<|
 q (r [A 5 1 21,K 21 22,N 22 23,V z0 24]<|
 .block 0 (.loop (r [B .lss 24 23 25]<|
 q (c 25 k (.exit 0))<|
 q (.block 1 (r [M 24 26,I true 2 22 24 27,L 2 27 28,J [.aA,.aA] 9,M 26 8,W 2 9 28]<|
 r [L 6 1 30,L 2 9 31,C 37 [t 30,t 31] 32,M 32 29,E 29 0 33,E 29 1 34,E 29 2 35,J [.aA,.aA] 10,W 2 10 33,M 34 11,M 35 12]<|
 gR [M 12 36,D .neq 36 0 37] 37 [gU [e0,.aA,.aA,z0,z0,.aA,.aA] [] 38,M 8 39,M 11 40,M 12 41,W 7 2 38,M 39 3,M 40 4,M 41 5]<|
 R [A 6 7 42,K 42 43,L 2 10 44,gB true 2 (.agg [.aA,.aA]) 1 [(0,t 44)] 45,gA true 2 43 45 46,A 6 7 47,W 1 47 46]))<|
 R [D .add 24 1 48,M 48 24])))<|
 r [L 7 7 49,W 7 2 49,V z0 3,V z0 4,V z0 5]<|
 .ret):=bG Tryz.func19
def sn: Of aH 20 60 [.cell 4 true 3,.tmp 5] (r [X 0 2,J [z0,.aA,.aA] 4,V z0 5]<|
 r [L 7 2 11,M 1 12,C 38 [t 11,t 12] 13,M 13 10,E 10 0 14,E 10 1 15,E 10 2 16,M 14 6,M 15 7,M 16 8]<|
 q (.block 0 (r [M 8 18,D .eql 18 21 19,M 19 17]<|
 c 17 (r [gU [z0,.aA,.aA] [] 20,M 8 21,W 3 4 20,M 21 5]<|
 .ret) (r [M 8 23,D .neq 23 0 24,M 24 22]<|
 c 22 (r [M 8 25,M 7 26,gB false 1 z0 1 [(0,t 26)] 27,gU [z0,.aA,.aA] [(0,1,t 25),(1,1,t 27)] 28,W 3 4 28,V z0 5]<|
 .ret) (r [A 0 2 30,A 3 30 31,K 31 32,D .eql 32 1 33,M 33 34,MT 6 35 34,NT 35 36 34,DT .gtr 36 1 37 34,P 34 37 38,M 38 29]<|
 c 29 (r [M 6 39,gU [z0,.aA,.aA] [(0,1,gJ 19),(1,1,t 39)] 40,W 3 4 40,V z0 5]<|
 .ret) k))))<|
 r [L 7 2 42,M 6 43,M 1 44,C 39 [t 42,t 43,t 44] 45,M 45 41,E 41 0 46,E 41 1 47,E 41 2 48,M 46 9,M 47 7,M 48 8]<|
 gR [M 8 49,D .neq 49 0 50] 50 [M 8 51,M 7 52,gB false 1 z0 1 [(0,t 52)] 53,gU [z0,.aA,.aA] [(0,1,t 51),(1,1,t 53)] 54,W 3 4 54,V z0 5]<|
 r [A 0 2 55,L 6 55 56,M 6 57,M 9 58,C 40 [t 56,t 57,t 58] 59,W 3 4 59,V z0 5]<|
 .ret):=bG Tryz.func20
def G7: Of aH 21 26 [.tmp 4] (r [gF 4]<|
 gR [M 0 6,N 6 7,M 1 8,N 8 9,B .neq 7 9 10] 10 [gF 4]<|
 q (r [V z0 5]<|
 gL 0 [M 5 11,M 0 12,N 12 13,B .lss 11 13 14] 14 ((
 q (.block 1 (q (.draw [M 0 17,M 5 18,I true 3 17 18 19,L 3 19 20,M 1 21,M 5 22,I true 3 21 22 23,L 3 23 24,bA (.mN true true [.i,.i,.s] (t 20) (t 24)) 25] [])<|
 c 25 (r [gF 4]<|
 .ret) k))<|
 R [M 5 15,D .add 15 1 16,M 16 5])))<|
 r [gT 4]<|
 .ret):=bG Tryz.func21
def Nj: Of aH 22 24 [.tmp 4] (r [X 0 2,X 1 3,gF 4]<|
 r [A 0 2 5,K 5 6,A 0 3 7,K 7 8,B .eql 6 8 9,M 9 10,AT 1 2 11 10,KT 11 12 10,AT 1 3 13 10,KT 13 14 10,CT 41 [t 12,t 14] 15 10,P 10 15 16,M 16 17,AT 2 2 18 17,KT 18 19 17,AT 2 3 20 17,KT 20 21 17,CT 42 [t 19,t 21] 22 17,P 17 22 23,M 23 4]<|
 .ret):=bG Tryz.func22
def Nk: Of aH 23 66 [.tmp 2] (r [X 0 1,V e0 2]<|
 q (.draw [A 0 1 9,K 9 10,Q 43 [t 10] 11,A 1 1 12,K 12 13,Q 44 [t 13] 14,B .add 11 14 15,J [e0] 3,W 1 3 15] [])<|
 r [bA (.rH (.func 45) [] [t 3]) 16,M 16 4]<|
 r [M 4 17,A 2 1 18,K 18 19,bA (.call false (t 17) [t 19]) 20]<|
 q (.draw [K 3 21,A 3 1 22,A 0 22 23,K 23 24,Q 44 [t 24] 25,A 3 1 26,A 1 26 27,K 27 28,N 28 29,Q 44 [t 29] 30,B .add 25 30 31,B .add 21 31 32,W 1 3 32] [])<|
 q (r [A 3 1 33,A 1 33 34,K 34 35,N 35 36,V z0 37]<|
 .block 0 (.loop (r [B .lss 37 36 38]<|
 q (c 38 k (.exit 0))<|
 q (.block 1 (r [I false 1 35 37 39,K 39 40,M 40 6]<|
 .draw [K 3 41,M 6 42,Q 44 [t 42] 43,B .add 41 43 44,W 1 3 44] []))<|
 R [D .add 37 1 45,M 45 37])))<|
 q (.draw [K 3 46,A 3 1 47,A 2 47 48,K 48 49,N 49 50,Q 44 [t 50] 51,B .add 46 51 52,W 1 3 52] [])<|
 q (r [A 3 1 53,A 2 53 54,K 54 55,N 55 56,V z0 57]<|
 .block 2 (.loop (r [B .lss 57 56 58]<|
 q (c 58 k (.exit 2))<|
 q (.block 3 (r [I false 1 55 57 59,K 59 60,M 60 8]<|
 R [M 4 61,M 8 62,bA (.call false (t 61) [t 62]) 63]))<|
 R [D .add 57 1 64,M 64 57])))<|
 r [K 3 65,M 65 2]<|
 .ret):=bG Tryz.func23
def Kn: Of aH 24 53 [.tmp 2] (r [X 0 1,gF 2]<|
 q (.block 0 (r [A 0 1 4,K 4 5,C 47 [t 5] 6,U 6 7,M 7 8,AF 1 1 9 8,KF 9 10 8,DF .lss 10 1 11 8,O 8 11 12,M 12 13,AF 1 1 14 13,KF 14 15 13,DF .gtr 15 2147483648 16 13,O 13 16 17,M 17 3]<|
 c 3 (r [gF 2]<|
 .ret) (r [A 3 1 19,A 0 19 20,K 20 21,D .lss 21 0 22,M 22 23,AF 3 1 24 23,AF 0 24 25 23,KF 25 26 23,DF .gtr 26 99 27 23,O 23 27 28,M 28 29,AF 3 1 30 29,AF 1 30 31 29,KF 31 32 29,CF 48 [t 32] 33 29,UF 33 34 29,O 29 34 35,M 35 36,AF 3 1 37 36,AF 2 37 38 36,KF 38 39 36,NF 39 40 36,DF .gtr 40 24 41 36,O 36 41 42,M 42 18]<|
 c 18 (r [gF 2]<|
 .ret) k)))<|
 r [A 2 1 43,K 43 44,C 49 [t 44] 45,M 45 46,AT 3 1 47 46,AT 2 47 48 46,KT 48 49 46,CT 50 [t 49,(.c (.fn (.func 51) [] []))] 50 46,UT 50 51 46,P 46 51 52,M 52 2]<|
 .ret):=bG Tryz.func24
def nZ: Of aH 25 17 [.tmp 6] (r [gF 6]<|
 r [M 0 7,M 0 8,Z 8 9,K 9 10,M 1 11,gB false 1 e0 1 [(0,t 11)] 12,gA false 1 10 12 13,Z 7 14,W 1 14 13]<|
 r [M 2 15,D .eql 15 0 16,M 16 6]<|
 .ret):=bG Tryz.func25
def yd: Of aH 26 49 [.tmp 2,.tmp 3] (r [X 0 1,V e0 2,V z0 3]<|
 q (r [L 3 1 11,C 52 [t 11] 12,M 12 4]<|
 r [M 4 13,D .neq 13 0 14]<|
 c 14 (r [M 4 15,V e0 2,M 15 3]<|
 .ret) k)<|
 gR [A 0 1 16,K 16 17] 17 [V (.str [45]) 2,V z0 3]<|
 r [bA (.kK ⟨false,1⟩) 5]<|
 q (r [A 2 1 18,K 18 19,N 19 20,V z0 21]<|
 .block 0 (.loop (r [B .lss 21 20 22]<|
 q (c 22 k (.exit 0))<|
 q (.block 1 (r [I true 15 19 21 23,L 15 23 24,J [z0,z0,z0,z0,e0,e0,.aA,z0,z0,z0,e0,e0,.aA,.bool false,.bool false] 7,W 15 7 24]<|
 r [L 15 7 26,C 53 [t 26] 27,M 27 25,E 25 0 28,E 25 1 29,M 28 8,M 29 9]<|
 gR [M 9 30,D .neq 30 0 31] 31 [M 9 32,V e0 2,M 32 3]<|
 R [M 5 33,M 8 34,gB false 1 e0 1 [(0,t 34)] 35,gA false 1 33 35 36,M 36 5]))<|
 R [D .add 21 1 37,M 37 21])))<|
 r [M 5 38,C 54 [t 38,gS [44,32]] 39,M 39 10]<|
 q (r [A 1 1 40,K 40 41]<|
 c 41 (R [M 10 42,bA (.bin .add (gS [110,111,116,40]) (t 42)) 43,bA (.bin .add (t 43) (gS [41])) 44,M 44 10]) k)<|
 gR [M 10 45,S 45 46,D .gtr 46 200 47] 47 [V e0 2,V (i6 5) 3]<|
 r [M 10 48,M 48 2,V z0 3]<|
 .ret):=rE ⟨[],[],[(5,⟨false,1⟩)],[],[],[]⟩ Tryz.func26
def Ar: Of aH 27 27 [.tmp 2,.tmp 3] (r [X 0 1,V e0 2,V z0 3]<|
 q (.block 0 (r [L 6 1 6,C 55 [t 6] 7,U 7 8,M 8 5]<|
 c 5 (r [V e0 2,V (i6 2) 3]<|
 .ret) (r [L 6 1 10,C 56 [t 10] 11,D .gtr 11 12 12,M 12 9]<|
 c 9 (r [V e0 2,V (i6 12) 3]<|
 .ret) k)))<|
 r [gU [.jA,.aA] [] 13,bA (.xU 129 (t 13)) 14,M 14 4]<|
 r [M 4 15,L 6 1 16,C 57 [t 15,t 16,.c z0] 17]<|
 gR [M 4 18,Z 18 19,A 0 19 20,C 58 [t 20] 21,D .gtr 21 200 22] 22 [V e0 2,V (i6 5) 3]<|
 r [M 4 23,Z 23 24,A 0 24 25,C 59 [t 25] 26,M 26 2,V z0 3]<|
 .ret):=rE ⟨[],[],[],[14],[],[]⟩ Tryz.func27
def As: Of aH 28 26 [.tmp 4] (r [gF 4]<|
 gR [M 0 6,N 6 7,M 1 8,N 8 9,B .neq 7 9 10] 10 [gF 4]<|
 q (r [M 0 11,N 11 12,V z0 13]<|
 .block 0 (.loop (r [B .lss 13 12 14]<|
 q (c 14 k (.exit 0))<|
 q (.block 1 (r [M 13 15,M 15 5]<|
 q (.draw [M 0 16,M 5 17,I true 3 16 17 18,L 3 18 19,M 1 20,M 5 21,I true 3 20 21 22,L 3 22 23,bA (.mN true true [.i,.i,.s] (t 19) (t 23)) 24] [])<|
 c 24 (r [gF 4]<|
 .ret) k))<|
 R [D .add 13 1 25,M 25 13])))<|
 r [gT 4]<|
 .ret):=bG Tryz.func28
def Rq: Of aH 29 24 [.tmp 4] (r [X 0 2,X 1 3,gF 4]<|
 r [A 0 2 5,K 5 6,A 0 3 7,K 7 8,B .eql 6 8 9,M 9 10,AT 1 2 11 10,KT 11 12 10,AT 1 3 13 10,KT 13 14 10,CT 60 [t 12,t 14] 15 10,P 10 15 16,M 16 17,AT 2 2 18 17,KT 18 19 17,AT 2 3 20 17,KT 20 21 17,CT 61 [t 19,t 21,(.c (.fn (.func 62) [] []))] 22 17,P 17 22 23,M 23 4]<|
 .ret):=bG Tryz.func29
def FL: Of aH 30 20 [.tmp 2] (r [gF 2]<|
 gR [M 0 4,N 4 5,D .gtr 5 12 6] 6 [gF 2]<|
 q (r [V z0 3]<|
 gL 0 [M 3 7,M 0 8,N 8 9,B .lss 7 9 10] 10 ((
 q (.block 1 (r [M 0 13,M 3 14,I true 3 13 14 15,A 0 15 16,K 16 17,S 17 18,D .gtr 18 300 19]<|
 c 19 (r [gF 2]<|
 .ret) k))<|
 R [M 3 11,D .add 11 1 12,M 12 3])))<|
 r [gT 2]<|
 .ret):=bG Tryz.func30
def me: Of aH 31 32 [.tmp 4,.tmp 5,.tmp 6] (r [V e0 4,V e0 5,V z0 6]<|
 r [M 0 11,M 1 12,C 63 [t 11,t 12] 13,M 13 10,E 10 0 14,E 10 1 15,E 10 2 16,M 14 7,M 15 8,M 16 9]<|
 q (.block 0 (r [M 9 18,D .neq 18 0 19,M 19 17]<|
 c 17 (r [M 9 20,V e0 4,V e0 5,M 20 6]<|
 .ret) (r [M 7 22,M 8 23,S 23 24,B .gtr 22 24 25,M 25 21]<|
 c 21 (r [V e0 4,V e0 5,V (i6 3) 6]<|
 .ret) k)))<|
 q (.draw [M 8 26,M 7 27,bA (.uK (t 26) none (some (t 27))) 28,M 8 29,M 7 30,bA (.uK (t 29) (some (t 30)) none) 31,M 28 4,M 31 5,V z0 6] [])<|
 .ret):=bG Tryz.func31
def CX: Of aH 32 26 [.tmp 2] (r [V z0 2]<|
 r [M 0 7,Z 7 8,A 0 8 9,K 9 10,C 64 [t 10] 11,M 11 6,E 6 0 12,E 6 1 13,E 6 2 14,M 12 3,M 13 4,M 14 5]<|
 r [M 0 15,M 4 16,Z 15 17,A 0 17 18,W 1 18 16]<|
 q (r [M 5 19,D .neq 19 0 20]<|
 c 20 (R [M 0 21,M 5 22,Z 21 23,A 1 23 24,W 1 24 22]) k)<|
 r [M 3 25,M 25 2]<|
 .ret):=bG Tryz.func32
def CY: Of aH 33 26 [.tmp 2] (r [V .aA 2]<|
 r [M 0 7,Z 7 8,A 0 8 9,K 9 10,C 65 [t 10,gJ 6] 11,M 11 6,E 6 0 12,E 6 1 13,E 6 2 14,M 12 3,M 13 4,M 14 5]<|
 r [M 0 15,M 4 16,Z 15 17,A 0 17 18,W 1 18 16]<|
 q (r [M 5 19,D .neq 19 0 20]<|
 c 20 (R [M 0 21,M 5 22,Z 21 23,A 1 23 24,W 1 24 22]) k)<|
 r [M 3 25,M 25 2]<|
 .ret):=bG Tryz.func33
def FM: Of aH 34 28 [.tmp 4] (r [V .aA 4]<|
 r [bA (.kK ⟨false,1⟩) 5]<|
 q (r [M 0 8,C 32 [t 8] 9,M 9 6]<|
 gL 0 [M 5 10,N 10 11,M 6 12,B .lss 11 12 13,M 13 14,MT 0 15 14,ZT 15 16 14,AT 1 16 17 14,KT 17 18 14,DT .eql 18 0 19 14,P 14 19 20] 20 ((
 .block 1 (r [M 1 21,bA (.call false (t 21) []) 22,M 22 7]<|
 R [M 5 23,M 7 24,gB false 1 z0 1 [(0,t 24)] 25,gA false 1 23 25 26,M 26 5]))))<|
 r [M 5 27,M 27 4]<|
 .ret):=rE ⟨[],[],[(5,⟨false,1⟩)],[],[],[]⟩ Tryz.func34
def BI: Of aH 35 28 [.tmp 4] (r [V .aA 4]<|
 r [bA (.kK ⟨false,1⟩) 5]<|
 q (r [M 0 8,C 32 [t 8] 9,M 9 6]<|
 gL 0 [M 5 10,N 10 11,M 6 12,B .lss 11 12 13,M 13 14,MT 0 15 14,ZT 15 16 14,AT 1 16 17 14,KT 17 18 14,DT .eql 18 0 19 14,P 14 19 20] 20 ((
 .block 1 (r [M 1 21,bA (.call false (t 21) []) 22,M 22 7]<|
 R [M 5 23,M 7 24,gB false 1 .aA 1 [(0,t 24)] 25,gA false 1 23 25 26,M 26 5]))))<|
 r [M 5 27,M 27 4]<|
 .ret):=rE ⟨[],[],[(5,⟨false,1⟩)],[],[],[]⟩ Tryz.func35
def zb: Of aH 36 33 [.tmp 2] (r [X 0 1,V z0 2]<|
 gR [A 0 1 5,K 5 6,C 47 [t 6] 7,U 7 8] 8 [V (i6 13) 2]<|
 q (r [A 1 1 9,K 9 10,C 66 [t 10,(.c (.bool false))] 11,M 11 3]<|
 r [M 3 12,D .neq 12 0 13]<|
 c 13 (r [M 3 14,M 14 2]<|
 .ret) k)<|
 q (r [A 2 1 15,K 15 16,A 3 1 17,K 17 18,D .eql 18 3 19,C 66 [t 16,t 19] 20,M 20 4]<|
 r [M 4 21,D .neq 21 0 22]<|
 c 22 (r [M 4 23,M 23 2]<|
 .ret) k)<|
 q (.block 0 (r [L 6 1 25,C 67 [t 25] 26,U 26 27,M 27 24]<|
 c 24 (r [V (i6 17) 2]<|
 .ret) (r [A 5 1 29,K 29 30,N 30 31,D .gtr 31 24 32,M 32 28]<|
 c 28 (r [V (i6 24) 2]<|
 .ret) k)))<|
 r [V z0 2]<|
 .ret):=bG Tryz.func36
def Au: Of aH 37 91 [.cell 4 true 2,.tmp 5,.tmp 6] (r [X 0 2,X 1 3,J [.aA,.aA] 4,V z0 5,V z0 6]<|
 gR [A 0 3 15,K 15 16,N 16 17,A 1 2 18,K 18 19,N 19 20,B .neq 17 20 21,M 21 22,AF 1 3 23 22,KF 23 24 22,NF 24 25 22,AF 2 2 26 22,KF 26 27 22,NF 27 28 22,BF .neq 25 28 29 22,O 22 29 30] 30 [L 2 4 31,W 2 4 31,V z0 5,V (i6 17) 6]<|
 q (r [A 0 3 32,K 32 33,N 33 34,V z0 35]<|
 .block 0 (.loop (r [B .lss 35 34 36]<|
 q (c 36 k (.exit 0))<|
 q (.block 1 (r [M 35 37,I false 1 33 35 38,K 38 39,M 37 7,M 39 8]<|
 r [L 6 2 41,M 7 42,M 8 43,C 68 [t 41,t 42,t 43] 44,M 44 40,E 40 0 45,E 40 1 46,J [.bool false,.bool false,.aA] 9,W 3 9 45,M 46 10]<|
 gR [M 10 47,D .neq 47 0 48] 48 [L 2 4 49,M 7 50,M 10 51,W 2 4 49,M 50 5,M 51 6]<|
 R [A 0 4 52,K 52 53,L 3 9 54,gB true 3 (.agg [.bool false,.bool false,.aA]) 1 [(0,t 54)] 55,gA true 3 53 55 56,A 0 4 57,W 1 57 56]))<|
 R [D .add 35 1 58,M 58 35])))<|
 q (r [A 1 3 59,K 59 60,N 60 61,V z0 62]<|
 .block 2 (.loop (r [B .lss 62 61 63]<|
 q (c 63 k (.exit 2))<|
 q (.block 3 (r [M 62 64,I false 1 60 62 65,K 65 66,M 64 11,M 66 12]<|
 r [L 6 2 68,M 11 69,M 12 70,C 69 [t 68,t 69,t 70] 71,M 71 67,E 67 0 72,E 67 1 73,J [z0,z0,z0,e0,e0,.aA] 13,W 6 13 72,M 73 14]<|
 q (r [M 14 74,D .neq 74 0 75]<|
 c 75 (q (.draw [L 2 4 76,A 1 2 77,K 77 78,N 78 79,M 11 80,B .add 79 80 81,M 14 82,W 2 4 76,M 81 5,M 82 6] [(t 77,t 4)])<|
 .ret) k)<|
 R [A 1 4 83,K 83 84,L 6 13 85,gB true 6 (.agg [z0,z0,z0,e0,e0,.aA]) 1 [(0,t 85)] 86,gA true 6 84 86 87,A 1 4 88,W 1 88 87]))<|
 R [D .add 62 1 89,M 89 62])))<|
 r [L 2 4 90,W 2 4 90,V z0 5,V z0 6]<|
 .ret):=bG Tryz.func37
def DJ: Of aH 38 54 [.tmp 4,.tmp 5,.tmp 6] (r [X 0 2,V .aA 4,V z0 5,V z0 6]<|
 q (r [L 7 2 12,M 1 13,C 70 [t 12,t 13] 14,M 14 7]<|
 r [M 7 15,D .neq 15 0 16]<|
 c 16 (r [M 7 17,V .aA 4,V z0 5,M 17 6]<|
 .ret) k)<|
 r [bA (.kK ⟨false,1⟩) 8]<|
 q (r [A 6 2 18,K 18 19,N 19 20,V z0 21]<|
 .block 0 (.loop (r [B .lss 21 20 22]<|
 q (c 22 k (.exit 0))<|
 q (.block 1 (r [M 21 23,M 23 9]<|
 r [L 7 2 25,M 9 26,M 1 27,C 71 [t 25,t 26,t 27] 28,M 28 24,E 24 0 29,E 24 1 30,M 29 10,M 30 11]<|
 .block 2 (r [M 11 32,D .neq 32 0 33,M 33 31]<|
 c 31 (r [M 9 34,M 11 35,V .aA 4,M 34 5,M 35 6]<|
 .ret) (r [M 10 37,M 37 38,AT 0 2 39 38,AT 3 39 40 38,KT 40 41 38,DT .eql 41 2 42 38,P 38 42 43,M 43 36]<|
 c 36 (r [M 9 44,gB false 1 z0 1 [(0,t 44)] 45,M 45 4,V z0 5,V z0 6]<|
 .ret) (r [M 10 47,M 47 46]<|
 c 46 (R [M 8 48,M 9 49,gB false 1 z0 1 [(0,t 49)] 50,gA false 1 48 50 51,M 51 8]) k)))))<|
 R [D .add 21 1 52,M 52 21])))<|
 r [M 8 53,M 53 4,V z0 5,V z0 6]<|
 .ret):=rE ⟨[],[],[(8,⟨false,1⟩)],[],[],[]⟩ Tryz.func38
def Rr: Of aH 39 58 [.tmp 6,.tmp 7,.tmp 8] (r [X 0 3,V .aA 6,V z0 7,V z0 8]<|
 r [bA (.kK ⟨false,1⟩) 9]<|
 q (r [M 1 17,N 17 18,V z0 19]<|
 .block 0 (.loop (r [B .lss 19 18 20]<|
 q (c 20 k (.exit 0))<|
 q (.block 1 (r [I false 1 17 19 21,K 21 22,M 22 11]<|
 r [bA (.kK ⟨true,3⟩) 12]<|
 q (r [A 6 3 23,K 23 24,M 11 25,I true 2 24 25 26,A 1 26 27,K 27 28,N 28 29,V z0 30]<|
 .block 2 (.loop (r [B .lss 30 29 31]<|
 q (c 31 k (.exit 2))<|
 q (.block 3 (r [I true 6 28 30 32,L 6 32 33,J [z0,z0,z0,e0,e0,.aA] 14,W 6 14 33]<|
 r [L 6 14 35,A 0 3 36,A 1 36 37,K 37 38,M 2 39,C 72 [t 35,t 38,t 39] 40,M 40 34,E 34 0 41,E 34 1 42,J [z0,z0,e0] 15,W 3 15 41,M 42 16]<|
 gR [M 16 43,D .neq 43 0 44] 44 [M 11 45,M 16 46,V .aA 6,M 45 7,M 46 8]<|
 R [M 12 47,L 3 15 48,gB true 3 (.agg [z0,z0,e0]) 1 [(0,t 48)] 49,gA true 3 47 49 50,M 50 12]))<|
 R [D .add 30 1 51,M 51 30])))<|
 R [M 9 52,bA (.ex .Wx [t 12]) 53,gB false 1 .aA 1 [(0,t 53)] 54,gA false 1 52 54 55,M 55 9]))<|
 R [D .add 19 1 56,M 56 19])))<|
 r [M 9 57,M 57 6,V z0 7,V z0 8]<|
 .ret):=rE ⟨[],[53],[(9,⟨false,1⟩),(12,⟨true,3⟩)],[],[],[]⟩ Tryz.func39
def j9: Of aH 40 54 [.cell 6 true 3] (r [X 0 3,J [z0,.aA,.aA] 6]<|
 r [V z0 7]<|
 q (r [A 3 3 8,K 8 9]<|
 .block 0 (q (.block 4 (q (.block 3 (q (.block 2 (q (.block 1 (q (q (r [D .eql 9 5 11,M 11 10]<|
 c 10 (.exit 1) k)<|
 q (r [D .eql 9 4 13,M 13 12]<|
 c 12 (.exit 2) k)<|
 q (r [D .eql 9 6 15,M 15 14]<|
 c 14 (.exit 3) k)<|
 r [D .eql 9 3 17,M 17 16]<|
 c 16 (.exit 4) k)<|
 .exit 0))<|
 q (r [A 4 3 18,K 18 19,M 1 20,M 2 21,C 73 [t 19,t 20,t 21] 22,W 3 6 22]<|
 .ret)<|
 .exit 0))<|
 gR [M 2 23,C 74 [t 23] 24] 24 [M 1 25,gU [z0,.aA,.aA] [(0,1,gJ 20),(1,1,t 25)] 26,W 3 6 26]<|
 R [M 2 27,M 2 28,N 28 29,bA (.min (t 29) [gJ 1]) 30,bA (.uL ⟨false,1⟩ (t 27) none (some (t 30))) 31,M 31 2]))<|
 q (r [M 1 32,M 2 33,gU [z0,.aA,.aA] [(1,1,t 32),(2,1,t 33)] 34,W 3 6 34]<|
 .ret)<|
 .exit 0))<|
 r [A 2 3 35,K 35 36,M 2 37,C 75 [t 36,t 37] 38,M 38 7]<|
 .exit 0))<|
 gR [M 1 39,N 39 40,D .eql 40 0 41] 41 [gU [z0,.aA,.aA] [] 42,W 3 6 42]<|
 q (.draw [M 1 43,M 7 44,M 7 45,D .add 45 1 46,bA (.uL ⟨false,1⟩ (t 43) (some (t 44)) (some (t 46))) 47,M 2 48,M 7 49,M 7 50,D .add 50 1 51,bA (.uL ⟨false,1⟩ (t 48) (some (t 49)) (some (t 51))) 52,gU [z0,.aA,.aA] [(1,1,t 47),(2,1,t 52)] 53,W 3 6 53] [])<|
 .ret):=bG Tryz.func40
def FN: Of aH 41 26 [.tmp 4] (r [gF 4]<|
 gR [M 0 6,N 6 7,M 1 8,N 8 9,B .neq 7 9 10] 10 [gF 4]<|
 q (r [V z0 5]<|
 gL 0 [M 5 11,M 0 12,N 12 13,B .lss 11 13 14] 14 ((
 q (.block 1 (q (.draw [M 0 17,M 5 18,I false 1 17 18 19,K 19 20,M 1 21,M 5 22,I false 1 21 22 23,K 23 24,B .neq 20 24 25] [])<|
 c 25 (r [gF 4]<|
 .ret) k))<|
 R [M 5 15,D .add 15 1 16,M 16 5])))<|
 r [gT 4]<|
 .ret):=bG Tryz.func41
def FO: Of aH 42 27 [.tmp 4] (r [gF 4]<|
 gR [M 0 6,N 6 7,M 1 8,N 8 9,B .neq 7 9 10] 10 [gF 4]<|
 q (r [V z0 5]<|
 gL 0 [M 5 11,M 0 12,N 12 13,B .lss 11 13 14] 14 ((
 q (.block 1 (q (.draw [M 0 17,M 5 18,I false 1 17 18 19,K 19 20,M 1 21,M 5 22,I false 1 21 22 23,K 23 24,Q 21 [t 20,t 24] 25,U 25 26] [])<|
 c 26 (r [gF 4]<|
 .ret) k))<|
 R [M 5 15,D .add 15 1 16,M 16 5])))<|
 r [gT 4]<|
 .ret):=bG Tryz.func42
def Nl: Of aH 43 8 [.tmp 2] (r [V e0 2]<|
 r [M 0 3,S 3 4,C 44 [t 4] 5,M 0 6,B .add 5 6 7,M 7 2]<|
 .ret):=bG Tryz.func43
def OZ: Of aH 44 24 [.tmp 2] (r [V e0 2]<|
 r [M 0 5,C 76 [t 5] 6,M 6 3]<|
 r [bA (.pK ⟨false,1⟩ (.int .u8 0) (.c z0) (gJ 10)) 7,M 7 4]<|
 q (gL 0 [M 3 8,bA (.bin .geq (t 8) (.c (.int .u64 128))) 9] 9 ((
 .block 1 (r [M 4 10,M 3 11,C 77 [t 11] 12,bA (.bin .or (t 12) (.c (.int .u8 128))) 13,gB false 1 (.int .u8 0) 1 [(0,t 13)] 14,gA false 1 10 14 15,M 15 4]<|
 R [M 3 16,bA (.bin .shr (t 16) (.c (.int .u64 7))) 17,M 17 3]))))<|
 r [M 4 18,M 3 19,C 77 [t 19] 20,gB false 1 (.int .u8 0) 1 [(0,t 20)] 21,gA false 1 18 21 22,bA (.C9 (t 22)) 23,M 23 2]<|
 .ret):=bG Tryz.func44
def IG: Of aH 45 13 [] (r [M 0 6,C 46 [t 6] 7,M 7 5,E 5 0 8,E 5 1 9,M 8 3,M 9 4]<|
 R [K 1 10,M 3 11,B .add 10 11 12,W 1 1 12]):=bG Tryz.func45
def O1: Of aH 46 31 [.tmp 2,.tmp 3] (r [V e0 2,V z0 3]<|
 r [M 0 9,N 9 10,C 44 [t 10] 11,M 11 4]<|
 q (r [M 0 12,N 12 13,V z0 14]<|
 .block 0 (.loop (r [B .lss 14 13 15]<|
 q (c 15 k (.exit 0))<|
 q (.block 1 (r [I true 3 12 14 16,L 3 16 17,J [z0,z0,e0] 6,W 3 6 17]<|
 r [L 3 6 19,C 78 [t 19] 20,M 20 18,E 18 0 21,E 18 1 22,M 21 7,M 22 8]<|
 gR [M 8 23,D .neq 23 0 24] 24 [M 8 25,V e0 2,M 25 3]<|
 R [M 4 26,M 7 27,B .add 26 27 28,M 28 4]))<|
 R [D .add 14 1 29,M 29 14])))<|
 r [M 4 30,M 30 2,V z0 3]<|
 .ret):=bG Tryz.func46
def Rs: Of aH 47 22 [.tmp 2] (r [gF 2]<|
 r [M 0 3,bA (.bin .neq (t 3) (.c e0)) 4,M 4 5,MT 0 6 5,CT 79 [t 6] 7 5,MT 0 8 5,ST 8 9 5,BT .eql 7 9 10 5,P 5 10 11,M 11 12,MT 0 13 12,ST 13 14 12,DT .leq 14 16 15 12,P 12 15 16,M 16 17,MT 0 18 17,CT 80 [t 18] 19 17,UT 19 20 17,P 17 20 21,M 21 2]<|
 .ret):=bG Tryz.func47
def II: Of aH 48 21 [.tmp 2] (r [gF 2]<|
 r [V (i6 (-1)) 3]<|
 q (r [M 0 6,N 6 7,V z0 8]<|
 .block 0 (.loop (r [B .lss 8 7 9]<|
 q (c 9 k (.exit 0))<|
 q (.block 1 (r [I false 1 6 8 10,K 10 11,M 11 5]<|
 gR [M 5 12,M 3 13,B .leq 12 13 14,M 14 15,MF 5 16 15,DF .geq 16 24 17 15,O 15 17 18] 18 [gF 2]<|
 R [M 5 19,M 19 3]))<|
 R [D .add 8 1 20,M 20 8])))<|
 r [gT 2]<|
 .ret):=bG Tryz.func48
def Ko: Of aH 49 11 [.tmp 2] (r [gF 2]<|
 r [M 0 3,N 3 4,D .leq 4 6 5,M 5 6,MT 0 7 6,CT 81 [t 7,(.c (.fn (.func 82) [] []))] 8 6,UT 8 9 6,P 6 9 10,M 10 2]<|
 .ret):=bG Tryz.func49
def uH: Of aH 50 9 [.tmp 4] (r [gF 4]<|
 r [M 0 5,M 1 6,C 84 [t 5,t 6] 7,D .geq 7 0 8,M 8 4]<|
 .ret):=bG Tryz.func50
def G8: Of aH 51 6 [.tmp 2] (r [gF 2]<|
 r [M 0 3,C 49 [t 3] 4,U 4 5,M 5 2]<|
 .ret):=bG Tryz.func51
def Nn: Of aH 52 36 [.tmp 2] (r [X 0 1,V z0 2]<|
 q (.block 0 (r [A 0 1 4,K 4 5,M 5 6,AT 1 1 7 6,KT 7 8 6,UT 8 9 6,P 6 9 10,M 10 11,AT 2 1 12 11,KT 12 13 11,NT 13 14 11,DT .eql 14 0 15 11,P 11 15 16,M 16 3]<|
 c 3 (r [V z0 2]<|
 .ret) (r [A 0 1 18,K 18 19,M 19 20,AF 2 1 21 20,KF 21 22 20,NF 22 23 20,DF .eql 23 0 24 20,O 20 24 25,M 25 26,AF 2 1 27 26,KF 27 28 26,NF 28 29 26,DF .gtr 29 12 30 26,O 26 30 31,M 31 17]<|
 c 17 (r [V (i6 2) 2]<|
 .ret) (r [A 2 1 33,K 33 34,C 85 [t 34,(.c (.fn (.func 86) [] []))] 35,M 35 32]<|
 c 32 (r [V (i6 2) 2]<|
 .ret) k))))<|
 r [V z0 2]<|
 .ret):=bG Tryz.func52
def qD: Of aH 53 55 [.tmp 2,.tmp 3] (r [X 0 1,V e0 2,V z0 3]<|
 r [A 1 1 10,L 6 10 11,C 88 [t 11] 12,M 12 9,E 9 0 13,E 9 1 14,M 13 4,M 14 5]<|
 gR [M 5 15,D .neq 15 0 16] 16 [M 5 17,V e0 2,M 17 3]<|
 q (r [A 0 1 18,K 18 19]<|
 .block 0 (r [D .eql 19 1 21,M 21 20]<|
 c 20 (r [M 4 22,M 22 2,V z0 3]<|
 .ret) (q (r [D .eql 19 2 24,M 24 23]<|
 c 23 k (r [D .eql 19 3 25,M 25 23]<|
 c 23 k (r [D .eql 19 4 26,M 26 23]<|
 c 23 k (R [D .eql 19 5 27,M 27 23]))))<|
 c 23 (r [A 0 1 28,K 28 29,C 89 [t 29] 30,bA (.bin .add (t 30) (gS [32])) 31,M 4 32,B .add 31 32 33,M 33 2,V z0 3]<|
 .ret) k)))<|
 r [A 7 1 35,L 6 35 36,C 88 [t 36] 37,M 37 34,E 34 0 38,E 34 1 39,M 38 6,M 39 5]<|
 gR [M 5 40,D .neq 40 0 41] 41 [M 5 42,V e0 2,M 42 3]<|
 r [V (.str [91]) 7,V (.str [93]) 8]<|
 q (r [A 13 1 43,K 43 44]<|
 c 44 (R [V (.str [93]) 7]) k)<|
 q (r [A 14 1 45,K 45 46]<|
 c 46 (R [V (.str [91]) 8]) k)<|
 r [M 7 47,M 4 48,B .add 47 48 49,bA (.bin .add (t 49) (gS [46,46])) 50,M 6 51,B .add 50 51 52,M 8 53,B .add 52 53 54,M 54 2,V z0 3]<|
 .ret):=bG Tryz.func53
def IJ: Of aH 55 61 [.tmp 2] (r [X 0 1,gF 2]<|
 q (q (.draw [A 5 1 3,K 3 4,N 4 5,A 0 1 6,K 6 7,Q 92 [t 7] 8,B .neq 5 8 9] [])<|
 c 9 (r [gF 2]<|
 .ret) k)<|
 q (r [A 0 1 10,K 10 11]<|
 .block 0 (r [D .eql 11 1 13,M 13 12]<|
 c 12 (r [A 4 1 14,K 14 15,bA (.bin .eql (t 15) (.c e0)) 16,M 16 17,AT 1 1 18 17,LT 3 18 19 17,CT 83 [t 19] 20 17,DT .eql 20 0 21 17,P 17 21 22,M 22 23,AT 1 1 24 23,AT 0 24 25 23,KT 25 26 23,DT .neq 26 1 27 23,MT 27 28 23,AF 1 1 29 28,AF 1 29 30 28,KF 30 31 28,DF .geq 31 0 32 28,OT 28 32 33 23,P 23 33 34,M 34 2]<|
 .ret) (r [D .eql 11 2 36,M 36 35]<|
 c 35 (r [A 1 1 37,L 3 37 38,gU [z0,z0,e0] [] 39,bA (.mN false true [.i,.i,.s] (t 38) (t 39)) 40,M 40 41,AT 4 1 42 41,KT 42 43 41,CT 47 [t 43] 44 41,P 41 44 45,M 45 2]<|
 .ret) k)))<|
 r [A 1 1 46,L 3 46 47,gU [z0,z0,e0] [] 48,bA (.mN false true [.i,.i,.s] (t 47) (t 48)) 49,M 49 50,AT 4 1 51 50,KT 51 52 50,⟨.bin .eql (t 52) (.c e0),(some 53),some (50,true)⟩,P 50 53 54,M 54 55,AT 5 1 56 55,KT 56 57 55,CT 93 [t 57,(.c (.fn (.func 94) [] []))] 58 55,UT 58 59 55,P 55 59 60,M 60 2]<|
 .ret):=bG Tryz.func55
def Kq: Of aH 56 20 [.tmp 2] (r [X 0 1,V z0 2]<|
 r [V z0 3]<|
 q (r [A 5 1 6,K 6 7,N 7 8,V z0 9]<|
 .block 0 (.loop (r [B .lss 9 8 10]<|
 q (c 10 k (.exit 0))<|
 q (.block 1 (r [I true 6 7 9 11,L 6 11 12,J [z0,z0,z0,e0,e0,.aA] 5,W 6 5 12]<|
 R [M 3 13,L 6 5 14,C 56 [t 14] 15,bA (.max (t 13) [t 15]) 16,M 16 3]))<|
 R [D .add 9 1 17,M 17 9])))<|
 r [M 3 18,D .add 18 1 19,M 19 2]<|
 .ret):=bG Tryz.func56
def iU: Of aH 57 115 [] (r [X 1 4]<|
 q (r [L 6 4 12,C 95 [t 12] 13,M 2 14,B .lss 13 14 15]<|
 c 15 (r [M 0 16,Z 16 17,A 0 17 18,C 96 [t 18,(.c (.int .u8 40))] 19]<|
 r [M 0 20,L 6 4 21,C 57 [t 20,t 21,.c z0] 22]<|
 r [M 0 23,Z 23 24,A 0 24 25,C 96 [t 25,(.c (.int .u8 41))] 26]<|
 .ret) k)<|
 r [A 0 4 27,K 27 28]<|
 .block 0 (r [D .eql 28 1 63,M 63 62]<|
 c 62 (r [A 1 4 65,L 3 65 66,C 97 [t 66] 67,M 67 64,E 64 0 68,E 64 1 69,M 68 6,M 69 7]<|
 R [M 0 70,Z 70 71,A 0 71 72,M 6 73,C 91 [t 72,t 73] 74]) (r [D .eql 28 2 76,M 76 75]<|
 c 75 (.draw [M 0 77,Z 77 78,A 0 78 79,A 4 4 80,K 80 81,C 91 [t 79,t 81] 82] []) (r [D .eql 28 3 84,M 84 83]<|
 c 83 (r [M 0 85,Z 85 86,A 0 86 87,C 96 [t 87,(.c (.int .u8 45))] 88]<|
 R [M 0 89,A 5 4 90,K 90 91,gI true 6 91 0 92,L 6 92 93,C 57 [t 89,t 93,gJ 6] 94]) (r [D .eql 28 16 96,M 96 95]<|
 c 95 (r [gU [e0,e0,e0] [(0,1,gS [105,102,32]),(1,1,gS [32,116,104,101,110,32]),(2,1,gS [32,101,108,115,101,32])] 97,V z0 98]<|
 .block 1 (.loop (r [D .lss 98 3 99]<|
 q (c 99 k (.exit 1))<|
 q (.block 2 (r [M 98 100,bA (.zB ⟨false,1⟩ 3 (t 97) (t 98)) 101,M 100 8,M 101 9]<|
 r [M 0 102,Z 102 103,A 0 103 104,M 9 105,C 91 [t 104,t 105] 106]<|
 R [M 0 107,A 5 4 108,K 108 109,M 8 110,I true 6 109 110 111,L 6 111 112,C 57 [t 107,t 112,.c z0] 113]))<|
 R [D .add 98 1 114,M 114 98]))) (r [A 0 4 29,K 29 30,C 98 [t 30] 31,J [z0,e0,z0] 10,W 3 10 31]<|
 r [A 2 10 32,K 32 33,M 33 11]<|
 q (r [M 11 34,D .eql 34 3 35]<|
 c 35 (R [M 11 36,D .add 36 1 37,M 37 11]) k)<|
 r [M 0 38,A 5 4 39,K 39 40,gI true 6 40 0 41,L 6 41 42,M 11 43,C 57 [t 38,t 42,t 43] 44]<|
 q (.draw [M 0 45,Z 45 46,A 0 46 47,A 1 10 48,K 48 49,bA (.bin .add (gS [32]) (t 49)) 50,bA (.bin .add (t 50) (gS [32])) 51,C 91 [t 47,t 51] 52] [])<|
 .draw [M 0 53,A 5 4 54,K 54 55,gI true 6 55 1 56,L 6 56 57,A 2 10 58,K 58 59,D .add 59 1 60,C 57 [t 53,t 57,t 60] 61] [])))))):=rE ⟨[],[52,61,82],[],[],[],[]⟩ Tryz.func57
def zI: Of aH 58 8 [.tmp 2] (r [V z0 2]<|
 r [M 0 3,Z 3 4,A 1 4 5,K 5 6,N 6 7,M 7 2]<|
 .ret):=bG Tryz.func58
def xk: Of aH 59 14 [.tmp 2] (r [V e0 2]<|
 q (.draw [M 0 3,Z 3 4,A 1 4 5,K 5 6,bA (.Cx ⟨false,1⟩ (t 6)) 7,M 0 8,Z 8 9,A 1 9 10,K 10 11,N 11 12,bA (.xS 5 (t 7) (t 12)) 13,M 13 2] [])<|
 .ret):=bG Tryz.func59
def CZ: Of aH 60 26 [.tmp 4] (r [gF 4]<|
 gR [M 0 6,N 6 7,M 1 8,N 8 9,B .neq 7 9 10] 10 [gF 4]<|
 q (r [M 0 11,N 11 12,V z0 13]<|
 .block 0 (.loop (r [B .lss 13 12 14]<|
 q (c 14 k (.exit 0))<|
 q (.block 1 (r [M 13 15,M 15 5]<|
 q (.draw [M 0 16,M 5 17,I false 1 16 17 18,K 18 19,M 1 20,M 5 21,I false 1 20 21 22,K 22 23,B .neq 19 23 24] [])<|
 c 24 (r [gF 4]<|
 .ret) k))<|
 R [D .add 13 1 25,M 25 13])))<|
 r [gT 4]<|
 .ret):=bG Tryz.func60
def wD: Of aH 61 32 [.tmp 6] (r [gF 6]<|
 gR [M 0 10,N 10 11,M 1 12,N 12 13,B .neq 11 13 14] 14 [gF 6]<|
 q (r [M 0 15,N 15 16,V z0 17]<|
 .block 0 (.loop (r [B .lss 17 16 18]<|
 q (c 18 k (.exit 0))<|
 q (.block 1 (r [M 17 19,I false 1 15 17 20,K 20 21,M 19 7,M 21 8]<|
 r [M 1 22,M 7 23,I false 1 22 23 24,K 24 25,M 25 9]<|
 r [M 2 26,M 8 27,M 9 28,bA (.call false (t 26) [t 27,t 28]) 29,U 29 30]<|
 c 30 (r [gF 6]<|
 .ret) k))<|
 R [D .add 17 1 31,M 31 17])))<|
 r [gT 6]<|
 .ret):=bG Tryz.func61
def Np: Of aH 62 8 [.tmp 4] (r [gF 4]<|
 r [M 0 5,M 1 6,C 28 [t 5,t 6] 7,M 7 4]<|
 .ret):=bG Tryz.func62
def Nq: Of aH 63 29 [.tmp 4,.tmp 5,.tmp 6] (r [V z0 4,V e0 5,V z0 6]<|
 r [M 0 11,C 64 [t 11] 12,M 12 10,E 10 0 13,E 10 1 14,E 10 2 15,M 13 7,M 14 8,M 15 9]<|
 q (.block 0 (r [M 9 17,D .neq 17 0 18,M 18 16]<|
 c 16 (r [M 9 19,V z0 4,V e0 5,M 19 6]<|
 .ret) (r [M 7 21,D .lss 21 0 22,M 22 20]<|
 c 20 (r [V z0 4,V e0 5,V (i6 4) 6]<|
 .ret) (r [M 7 24,M 1 25,B .gtr 24 25 26,M 26 23]<|
 c 23 (r [V z0 4,V e0 5,V (i6 5) 6]<|
 .ret) k))))<|
 r [M 7 27,M 8 28,M 27 4,M 28 5,V z0 6]<|
 .ret):=bG Tryz.func63
def G9: Of aH 64 49 [.tmp 2,.tmp 3,.tmp 4] (r [V z0 2,V e0 3,V z0 4]<|
 r [V (.int .u64 0) 5]<|
 q (r [M 0 8,S 8 9,bA (.min (t 9) [gJ 10]) 10,V z0 11]<|
 .block 0 (.loop (r [B .lss 11 10 12]<|
 q (c 12 k (.exit 0))<|
 q (.block 1 (r [M 11 13,M 13 6]<|
 r [M 0 14,M 6 15,bA (.nR (t 14) (t 15)) 16,M 16 7]<|
 gR [M 6 17,D .gtr 17 0 18,M 18 19,MT 7 20 19,⟨.bin .eql (t 20) (.c (.int .u8 0)),(some 21),some (19,true)⟩,P 19 21 22,M 22 23,MF 6 24 23,DF .eql 24 9 25 23,MF 25 26 23,MT 7 27 26,⟨.bin .gtr (t 27) (.c (.int .u8 1)),(some 28),some (26,true)⟩,PF 26 28 29 23,O 23 29 30] 30 [V z0 2,V e0 3,V (i6 4) 4]<|
 r [M 5 31,M 7 32,bA (.ko .i64 (t 32)) 33,C 99 [t 33] 34,bA (.ko .u64 (t 34)) 35,M 6 36,bA (.bin .mul (gJ 7) (t 36)) 37,B .shl 35 37 38,B .or 31 38 39,M 39 5]<|
 r [M 7 40,bA (.bin .lss (t 40) (.c (.int .u8 128))) 41]<|
 c 41 (q (.draw [M 5 42,Q 100 [t 42] 43,M 0 44,M 6 45,D .add 45 1 46,bA (.uK (t 44) (some (t 46)) none) 47,M 43 2,M 47 3,V z0 4] [])<|
 .ret) k))<|
 R [D .add 11 1 48,M 48 11])))<|
 r [V z0 2,V e0 3,V (i6 3) 4]<|
 .ret):=bG Tryz.func64
def G_: Of aH 65 48 [.tmp 4,.tmp 5,.tmp 6] (r [V .aA 4,V e0 5,V z0 6]<|
 r [M 0 13,C 64 [t 13] 14,M 14 12,E 12 0 15,E 12 1 16,E 12 2 17,M 15 7,M 16 8,M 17 9]<|
 q (.block 0 (r [M 9 19,D .neq 19 0 20,M 20 18]<|
 c 18 (r [M 9 21,V .aA 4,V e0 5,M 21 6]<|
 .ret) (r [M 7 23,D .lss 23 0 24,M 24 22]<|
 c 22 (r [V .aA 4,V e0 5,V (i6 4) 6]<|
 .ret) (r [M 7 26,M 1 27,B .gtr 26 27 28,M 28 25]<|
 c 25 (r [V .aA 4,V e0 5,V (i6 5) 6]<|
 .ret) k))))<|
 r [bA (.kK ⟨true,3⟩) 10]<|
 q (gL 1 [M 10 29,N 29 30,M 7 31,B .lss 30 31 32] 32 ((
 .block 2 (r [J [z0,z0,e0] 11]<|
 q (r [M 8 34,C 101 [t 34] 35,M 35 33,E 33 0 36,E 33 1 37,E 33 2 38,W 3 11 36,M 37 8,M 38 9]<|
 r [M 9 39,D .neq 39 0 40]<|
 c 40 (r [M 9 41,V .aA 4,V e0 5,M 41 6]<|
 .ret) k)<|
 R [M 10 42,L 3 11 43,gB true 3 (.agg [z0,z0,e0]) 1 [(0,t 43)] 44,gA true 3 42 44 45,M 45 10]))))<|
 r [M 10 46,M 8 47,M 46 4,M 47 5,V z0 6]<|
 .ret):=rE ⟨[],[],[(10,⟨true,3⟩)],[],[],[]⟩ Tryz.func65
def FP: Of aH 66 19 [.tmp 4] (r [X 1 3,V z0 4]<|
 q (r [M 0 6,C 102 [t 6] 7,M 7 5]<|
 r [M 5 8,D .neq 8 0 9]<|
 c 9 (r [M 5 10,M 10 4]<|
 .ret) k)<|
 gR [M 0 11,N 11 12,D .eql 12 0 13,M 13 14,MF 0 15 14,⟨.rH (.func 104) [] [t 3],(some 16),some (14,false)⟩,CF 103 [t 15,t 16] 17 14,O 14 17 18] 18 [V (i6 17) 4]<|
 r [V z0 4]<|
 .ret):=bG Tryz.func66
def He: Of aH 67 45 [.tmp 2] (r [X 0 1,gF 2]<|
 q (.block 0 (r [A 3 1 5,K 5 6,D .lss 6 1 7,M 7 8,AF 3 1 9 8,KF 9 10 8,DF .gtr 10 6 11 8,O 8 11 12,M 12 4]<|
 c 4 (r [gF 2]<|
 .ret) (r [A 4 1 14,K 14 15,D .eql 15 0 16,M 16 13]<|
 c 13 (r [gT 2]<|
 .ret) (r [A 3 1 18,K 18 19,D .neq 19 5 20,M 20 21,AF 2 1 22 21,KF 22 23 21,NF 23 24 21,DF .neq 24 1 25 21,O 21 25 26,M 26 17]<|
 c 17 (r [gF 2]<|
 .ret) k))))<|
 q (r [A 2 1 27,K 27 28,gI true 3 28 0 29,A 1 29 30,K 30 31,M 31 3]<|
 r [A 4 1 32,K 32 33]<|
 .block 1 (r [D .eql 33 1 35,M 35 34]<|
 c 34 (r [M 3 36,D .eql 36 1 37,M 37 2]<|
 .ret) (q (r [D .eql 33 2 39,M 39 38]<|
 c 38 k (R [D .eql 33 3 40,M 40 38]))<|
 c 38 (r [M 3 41,D .neq 41 3 42,M 42 2]<|
 .ret) (r [D .eql 33 4 44,M 44 43]<|
 c 43 (r [gT 2]<|
 .ret) k))))<|
 r [gF 2]<|
 .ret):=bG Tryz.func67
def Nr: Of aH 68 31 [.cell 6 true 3,.tmp 7] (r [X 0 3,J [.bool false,.bool false,.aA] 6,V z0 7]<|
 r [M 2 12,C 106 [t 12] 13,M 13 11,E 11 0 14,E 11 1 15,E 11 2 16,J [.bool false,.bool false,.aA] 8,W 3 8 14,M 15 9,M 16 10]<|
 q (r [M 10 17,D .eql 17 0 18]<|
 c 18 (.draw [L 3 8 19,A 1 3 20,K 20 21,M 1 22,I true 3 21 22 23,A 1 23 24,K 24 25,A 1 3 26,K 26 27,Q 107 [t 19,t 25,t 27] 28,M 28 10] []) k)<|
 r [L 3 8 29,M 10 30,W 3 6 29,M 30 7]<|
 .ret):=bG Tryz.func68
def Kr: Of aH 69 44 [.cell 6 true 6,.tmp 7] (r [X 0 3,J [z0,z0,z0,e0,e0,.aA] 6,V z0 7]<|
 r [M 2 13,C 108 [t 13] 14,M 14 12,E 12 0 15,E 12 1 16,E 12 2 17,J [z0,z0,z0,e0,e0,.aA] 8,W 6 8 15,M 16 9,M 17 10]<|
 gR [M 10 18,D .neq 18 0 19] 19 [L 6 8 20,M 10 21,W 6 6 20,M 21 7]<|
 r [L 6 8 23,A 1 3 24,K 24 25,C 109 [t 23,t 25] 26,M 26 22,E 22 0 27,E 22 1 28,M 27 11,M 28 10]<|
 q (r [M 10 29,D .eql 29 0 30,M 30 31,MT 11 32 31,AT 2 3 33 31,KT 33 34 31,MT 1 35 31,IT true 3 34 35 36 31,AT 1 36 37 31,KT 37 38 31,CT 110 [t 32,t 38] 39 31,UT 39 40 31,P 31 40 41]<|
 c 41 (R [V (i6 14) 10]) k)<|
 r [L 6 8 42,M 10 43,W 6 6 42,M 43 7]<|
 .ret):=bG Tryz.func69
def DK: Of aH 70 38 [.tmp 4] (r [X 0 2,V z0 4]<|
 gR [M 1 7,N 7 8,A 0 2 9,A 1 9 10,K 10 11,N 11 12,B .neq 8 12 13] 13 [V (i6 21) 4]<|
 q (r [M 1 14,N 14 15,V z0 16]<|
 .block 0 (.loop (r [B .lss 16 15 17]<|
 q (c 17 k (.exit 0))<|
 q (.block 1 (r [M 16 18,I true 3 14 16 19,L 3 19 20,J [z0,z0,e0] 6,M 18 5,W 3 6 20]<|
 q (.draw [L 3 6 21,Q 83 [t 21] 22,D .neq 22 0 23,M 23 24,AF 0 6 25 24,KF 25 26 24,AF 0 2 27 24,AF 1 27 28 24,KF 28 29 24,MF 5 30 24,IF true 3 29 30 31 24,AF 1 31 32 24,KF 32 33 24,QF 110 [t 26,t 33] 34 24,UF 34 35 24,O 24 35 36] [])<|
 c 36 (r [V (i6 21) 4]<|
 .ret) k))<|
 R [D .add 16 1 37,M 37 16])))<|
 r [V z0 4]<|
 .ret):=bG Tryz.func70
def O2: Of aH 71 45 [.tmp 6,.tmp 7] (r [X 0 3,gF 6,V z0 7]<|
 q (r [A 6 3 12,K 12 13,M 1 14,I true 2 13 14 15,A 0 15 16,K 16 17,N 17 18,V z0 19]<|
 .block 0 (.loop (r [B .lss 19 18 20]<|
 q (c 20 k (.exit 0))<|
 q (.block 1 (r [M 19 21,I true 3 17 19 22,L 3 22 23,J [.bool false,.bool false,.aA] 9,M 21 8,W 3 9 23]<|
 q (.draw [L 3 9 25,M 2 26,M 8 27,I true 3 26 27 28,L 3 28 29,A 0 3 30,A 1 30 31,K 31 32,M 2 33,Q 111 [t 25,t 29,t 32,t 33] 34,M 34 24,E 24 0 35,E 24 1 36,M 35 10,M 36 11] [])<|
 r [M 11 37,D .neq 37 0 38,M 38 39,MF 10 40 39,UF 40 41 39,O 39 41 42]<|
 c 42 (r [M 11 43,gF 6,M 43 7]<|
 .ret) k))<|
 R [D .add 19 1 44,M 44 19])))<|
 r [gT 6,V z0 7]<|
 .ret):=bG Tryz.func71
def u5: Of aH 73 32 [.cell 6 true 3] (r [J [z0,.aA,.aA] 6]<|
 q (r [M 0 9,D .eql 9 0 10]<|
 c 10 (r [M 2 11,C 115 [t 11,(.c (.fn (.func 116) [] []))] 12]<|
 r [M 1 13,M 2 14,gU [z0,.aA,.aA] [(1,1,t 13),(2,1,t 14)] 15,W 3 6 15]<|
 .ret) k)<|
 r [M 0 17,M 2 18,C 119 [t 17,t 18] 19,M 19 16,E 16 0 20,E 16 1 21,J [z0,z0,e0] 7,W 3 7 20,M 21 8]<|
 gR [M 8 22,D .neq 22 0 23] 23 [M 8 24,M 1 25,gU [z0,.aA,.aA] [(0,1,t 24),(1,1,t 25)] 26,W 3 6 26]<|
 r [M 1 27,L 3 7 28,gB true 3 (.agg [z0,z0,e0]) 1 [(0,t 28)] 29,gB false 1 .aA 1 [(0,t 29)] 30,gU [z0,.aA,.aA] [(1,1,t 27),(2,1,t 30)] 31,W 3 6 31]<|
 .ret):=bG Tryz.func73
def Ns: Of aH 74 6 [.tmp 2] (r [X 0 1,gF 2]<|
 r [K 1 3,bA (.rH (.func 120) [] [t 1]) 4,C 50 [t 3,t 4] 5,M 5 2]<|
 .ret):=bG Tryz.func74
def O4: Of aH 75 49 [.tmp 4] (r [V z0 4]<|
 r [V z0 5]<|
 q (r [M 1 10,N 10 11,V z0 12]<|
 .block 0 (.loop (r [B .lss 12 11 13]<|
 q (c 13 k (.exit 0))<|
 q (.block 1 (r [M 12 14,M 14 6]<|
 r [V z0 7]<|
 q (r [M 0 15,N 15 16,V z0 17]<|
 .block 2 (.loop (r [B .lss 17 16 18]<|
 q (c 18 k (.exit 2))<|
 q (.block 3 (r [M 17 19,I true 3 15 17 20,L 3 20 21,J [e0,z0,.aA] 9,M 19 8,W 3 9 21]<|
 r [M 7 22,D .eql 22 0 23]<|
 c 23 (.draw [L 3 9 24,M 1 25,M 6 26,I false 1 25 26 27,K 27 28,M 8 29,I true 3 28 29 30,L 3 30 31,Q 122 [t 24,t 31] 32,L 3 9 33,M 1 34,M 5 35,I false 1 34 35 36,K 36 37,M 8 38,I true 3 37 38 39,L 3 39 40,Q 122 [t 33,t 40] 41,Q 121 [t 32,t 41] 42,M 42 7] []) k))<|
 R [D .add 17 1 43,M 43 17])))<|
 r [M 7 44,D .lss 44 0 45]<|
 c 45 (R [M 6 46,M 46 5]) k))<|
 R [D .add 12 1 47,M 47 12])))<|
 r [M 5 48,M 48 4]<|
 .ret):=bG Tryz.func75
def Nt: Of aH 76 10 [.tmp 2] (r [V (.int .u64 0) 2]<|
 r [M 0 3,bA (.ko .u64 (t 3)) 4,bA (.bin .shl (t 4) (.c (.int .u64 1))) 5,M 0 6,bA (.bin .shr (t 6) (.c (.int .u64 63))) 7,bA (.ko .u64 (t 7)) 8,B .xor 5 8 9,M 9 2]<|
 .ret):=bG Tryz.func76
def C0: Of aH 77 6 [.tmp 2] (r [V (.int .u8 0) 2]<|
 r [M 0 3,bA (.ko .u8 (t 3)) 4,bA (.bin .and (t 4) (.c (.int .u8 127))) 5,M 5 2]<|
 .ret):=bG Tryz.func77
def Av: Of aH 78 32 [.tmp 2,.tmp 3] (r [X 0 1,V e0 2,V z0 3]<|
 q (r [L 3 1 6,C 83 [t 6] 7,M 7 4]<|
 r [M 4 8,D .neq 8 0 9]<|
 c 9 (r [M 4 10,V e0 2,M 10 3]<|
 .ret) k)<|
 r [A 0 1 11,K 11 12,C 44 [t 12] 13,M 13 5]<|
 q (r [A 0 1 14,K 14 15]<|
 .block 0 (r [D .eql 15 2 17,M 17 16]<|
 c 16 (R [M 5 18,A 2 1 19,K 19 20,C 43 [t 20] 21,B .add 18 21 22,M 22 5]) (q (r [D .eql 15 1 24,M 24 23]<|
 c 23 k (R [D .eql 15 3 25,M 25 23]))<|
 c 23 (R [M 5 26,A 1 1 27,K 27 28,C 44 [t 28] 29,B .add 26 29 30,M 30 5]) k)))<|
 r [M 5 31,M 31 2,V z0 3]<|
 .ret):=bG Tryz.func78
def Rt: Of aH 79 13 [.tmp 2] (r [V z0 2]<|
 gR [M 0 3,bA (.bin .eql (t 3) (.c e0)) 4,M 4 5,MF 0 6 5,⟨.nR (t 6) (.c z0),(some 7),some (5,false)⟩,CF 123 [t 7] 8 5,UF 8 9 5,O 5 9 10] 10 [V z0 2]<|
 r [M 0 11,C 124 [t 11,(.c (.fn (.func 125) [] []))] 12,M 12 2]<|
 .ret):=bG Tryz.func79
def IK: Of aH 80 14 [.tmp 2] (r [gF 2]<|
 q (r [M 0 3]<|
 .block 0 (q (r [bA (.bin .eql (t 3) (gS [97,110,100])) 5,M 5 4]<|
 c 4 k (r [bA (.bin .eql (t 3) (gS [111,114])) 6,M 6 4]<|
 c 4 k (r [bA (.bin .eql (t 3) (gS [110,111,116])) 7,M 7 4]<|
 c 4 k (r [bA (.bin .eql (t 3) (gS [105,102])) 8,M 8 4]<|
 c 4 k (r [bA (.bin .eql (t 3) (gS [116,104,101,110])) 9,M 9 4]<|
 c 4 k (r [bA (.bin .eql (t 3) (gS [101,108,115,101])) 10,M 10 4]<|
 c 4 k (r [bA (.bin .eql (t 3) (gS [116,114,117,101])) 11,M 11 4]<|
 c 4 k (r [bA (.bin .eql (t 3) (gS [102,97,108,115,101])) 12,M 12 4]<|
 c 4 k (R [bA (.bin .eql (t 3) (gS [110,117,108,108])) 13,M 13 4])))))))))<|
 c 4 (r [gT 2]<|
 .ret) k))<|
 r [gF 2]<|
 .ret):=bG Tryz.func80
def u6: Of aH 81 9 [.tmp 4] (r [gF 4]<|
 r [M 0 5,M 1 6,C 127 [t 5,t 6] 7,D .geq 7 0 8,M 8 4]<|
 .ret):=bG Tryz.func81
def Hf: Of aH 82 6 [.tmp 2] (r [X 0 1,gF 2]<|
 r [L 3 1 3,C 83 [t 3] 4,D .neq 4 0 5,M 5 2]<|
 .ret):=bG Tryz.func82
def Ks: Of aH 83 39 [.tmp 2] (r [X 0 1,V z0 2]<|
 r [gF 3]<|
 q (r [A 0 1 4,K 4 5]<|
 .block 0 (r [D .eql 5 0 7,M 7 6]<|
 c 6 (R [L 3 1 8,gU [z0,z0,e0] [] 9,bA (.mN false true [.i,.i,.s] (t 8) (t 9)) 10,M 10 3]) (r [D .eql 5 1 12,M 12 11]<|
 c 11 (R [A 2 1 13,K 13 14,bA (.bin .eql (t 14) (.c e0)) 15,M 15 3]) (r [D .eql 5 2 17,M 17 16]<|
 c 16 (R [A 1 1 18,K 18 19,D .eql 19 0 20,M 20 21,AT 2 1 22 21,KT 22 23 21,CT 128 [t 23] 24 21,P 21 24 25,M 25 3]) (r [D .eql 5 3 27,M 27 26]<|
 c 26 (R [A 2 1 28,K 28 29,bA (.bin .eql (t 29) (.c e0)) 30,M 30 31,AT 1 1 32 31,KT 32 33 31,DT .andNot 33 1 34 31,DT .eql 34 0 35 31,P 31 35 36,M 36 3]) k)))))<|
 gR [M 3 37,U 37 38] 38 [V (i6 2) 2]<|
 r [V z0 2]<|
 .ret):=bG Tryz.func83
def wE: Of aH 84 19 [.tmp 4] (r [V z0 4]<|
 q (r [M 0 6,N 6 7,V z0 8]<|
 .block 0 (.loop (r [B .lss 8 7 9]<|
 q (c 9 k (.exit 0))<|
 q (.block 1 (r [M 8 10,M 10 5]<|
 r [M 1 11,M 0 12,M 5 13,I false 1 12 13 14,K 14 15,bA (.call false (t 11) [t 15]) 16]<|
 c 16 (r [M 5 17,M 17 4]<|
 .ret) k))<|
 R [D .add 8 1 18,M 18 8])))<|
 r [V (i6 (-1)) 4]<|
 .ret):=bG Tryz.func84
def vW: Of aH 85 9 [.tmp 4] (r [gF 4]<|
 r [M 0 5,M 1 6,C 129 [t 5,t 6] 7,D .geq 7 0 8,M 8 4]<|
 .ret):=bG Tryz.func85
def IL: Of aH 86 6 [.tmp 2] (r [X 0 1,gF 2]<|
 r [L 15 1 3,C 87 [t 3] 4,U 4 5,M 5 2]<|
 .ret):=bG Tryz.func86
def Nu: Of aH 87 39 [.tmp 2] (r [X 0 1,gF 2]<|
 q (.block 0 (r [A 0 1 4,K 4 5,D .eql 5 6 6,M 6 3]<|
 c 3 (r [A 1 1 7,L 6 7 8,C 130 [t 8] 9,M 9 10,AT 7 1 11 10,LT 6 11 12 10,CT 130 [t 12] 13 10,P 10 13 14,M 14 2]<|
 .ret) (r [A 0 1 16,K 16 17,D .lss 17 1 18,M 18 19,AF 0 1 20 19,KF 20 21 19,DF .gtr 21 6 22 19,O 19 22 23,M 23 15]<|
 c 15 (r [gF 2]<|
 .ret) k)))<|
 r [A 1 1 24,L 6 24 25,C 130 [t 25] 26,M 26 27,AT 7 1 28 27,LT 6 28 29 27,⟨.build [z0,z0,z0,e0,e0,.aA] [],(some 30),some (27,true)⟩,CT 131 [t 29,t 30] 31 27,P 27 31 32,M 32 33,LT 15 1 34 33,CT 132 [t 34] 35 33,⟨.build [.bool false,.bool false] [],(some 36),some (33,true)⟩,⟨.mN false true [.b,.b] (t 35) (t 36),(some 37),some (33,true)⟩,P 33 37 38,M 38 2]<|
 .ret):=bG Tryz.func87
def wF: Of aH 88 28 [.tmp 2,.tmp 3] (r [X 0 1,V e0 2,V z0 3]<|
 r [L 6 1 7,C 27 [t 7] 8,M 8 6,E 6 0 9,E 6 1 10,M 9 4,M 10 5]<|
 q (r [M 5 11,D .eql 11 0 12,M 12 13,AT 0 1 14 13,KT 14 15 13,DT .geq 15 8 16 13,MT 16 17 13,AT 0 1 18 17,KT 18 19 17,DT .leq 19 16 20 17,PT 17 20 21 13,P 13 21 22]<|
 c 22 (R [M 4 23,bA (.bin .add (gS [40]) (t 23)) 24,bA (.bin .add (t 24) (gS [41])) 25,M 25 4]) k)<|
 r [M 4 26,M 5 27,M 26 2,M 27 3]<|
 .ret):=bG Tryz.func88
def O5: Of aH 89 12 [.tmp 2] (r [V e0 2]<|
 q (r [M 0 3]<|
 .block 0 (r [D .eql 3 2 5,M 5 4]<|
 c 4 (r [V (.str [60]) 2]<|
 .ret) (r [D .eql 3 3 7,M 7 6]<|
 c 6 (r [V (.str [60,61]) 2]<|
 .ret) (r [D .eql 3 4 9,M 9 8]<|
 c 8 (r [V (.str [62]) 2]<|
 .ret) (r [D .eql 3 5 11,M 11 10]<|
 c 10 (r [V (.str [62,61]) 2]<|
 .ret) k)))))<|
 r [V e0 2]<|
 .ret):=bG Tryz.func89
def tU: Of aH 91 19 [.tmp 4,.tmp 5] (r [V z0 4,V .kj 5]<|
 r [M 0 6,C 133 [t 6] 7]<|
 r [M 0 8,M 0 9,Z 9 10,A 1 10 11,K 11 12,M 1 13,bA (.app (some 5) ⟨false,1⟩ (t 12) (t 13)) 14,Z 8 15,A 1 15 16,W 1 16 14]<|
 r [M 1 17,S 17 18,M 18 4,V .kj 5]<|
 .ret):=rE ⟨[],[],[],[14],[],[]⟩ Tryz.func91
def IP: Of aH 92 21 [.tmp 2] (r [V z0 2]<|
 q (.block 0 (r [M 0 4,D .eql 4 1 5,M 5 6,MF 0 7 6,DF .eql 7 2 8 6,O 6 8 9,M 9 3]<|
 c 3 (r [V z0 2]<|
 .ret) (r [M 0 11,D .eql 11 3 12,M 12 10]<|
 c 10 (r [V (i6 1) 2]<|
 .ret) (r [M 0 14,D .eql 14 16 15,M 15 13]<|
 c 13 (r [V (i6 3) 2]<|
 .ret) (r [M 0 17,C 98 [t 17] 18,bA (.field false 2 1 (t 18)) 19,D .gtr 19 0 20,M 20 16]<|
 c 16 (r [V (i6 2) 2]<|
 .ret) k)))))<|
 r [V (i6 (-1)) 2]<|
 .ret):=bG Tryz.func92
def vX: Of aH 93 9 [.tmp 4] (r [gF 4]<|
 r [M 0 5,M 1 6,C 135 [t 5,t 6] 7,D .geq 7 0 8,M 8 4]<|
 .ret):=bG Tryz.func93
def FQ: Of aH 94 6 [.tmp 2] (r [X 0 1,gF 2]<|
 r [L 6 1 3,C 55 [t 3] 4,U 4 5,M 5 2]<|
 .ret):=bG Tryz.func94
