/- Part. -/
import Derived.Test.YtoldfccfpameeaaGreatDoorX06
import Derived.KernelRfl
set_option linter.all false
namespace Go.Proofs.YtoldfccfpameeaaGreatDoor
open Go.AM Go.AM.W
set_option maxRecDepth 10000
def Nu: Of aH 7 84 [.tmp 0] (r [gF 0]<|
 r [C 8 [] 13,M 13 1]<|
 r [M 1 15,C 27 [] 16,C 26 [t 15,t 16] 17,M 17 14,E 14 0 18,E 14 1 19,M 18 2,M 19 3]<|
 r [M 1 21,C 29 [gJ 1] 22,C 28 [t 21,gS [116],.c z0,t 22] 23,M 23 20,E 20 0 24,E 20 1 25,E 20 2 26,J uN 4,W 6 4 24,M 25 5,M 26 6]<|
 r [M 1 28,C 29 [gJ 2] 29,C 28 [t 28,gS [116],gJ 1,t 29] 30,M 30 27,E 27 0 31,E 27 1 32,E 27 2 33,J uN 7,W 6 7 31,M 32 8,M 33 9]<|
 r [M 1 34,C 19 [t 34,gJ 1] 35,M 35 10]<|
 r [M 1 37,C 11 [t 37,gJ 1,gJ 9] 38,M 38 36,E 36 0 39,E 36 1 40,M 39 11,M 40 12]<|
 r [M 2 41,D .eql 41 1 42,M 42 43,MT 3 44 43,DT .eql 44 0 45 43,P 43 45 46,M 46 47,MT 5 48 47,DT .eql 48 0 49 47,P 47 49 50,M 50 51,MT 6 52 51,DT .eql 52 0 53 51,P 51 53 54,M 54 55,MT 8 56 55,DT .eql 56 1 57 55,P 55 57 58,M 58 59,MT 9 60 59,DT .eql 60 0 61 59,P 59 61 62,M 62 63,MT 10 64 63,DT .eql 64 0 65 63,P 63 65 66,M 66 67,MT 12 68 67,DT .eql 68 0 69 67,P 67 69 70,M 70 71,MT 11 72 71,LT 6 7 73 71,⟨.mj false ⟨true,6⟩ (.agg uN) 1 [(0,t 73)],(some 74),some (71,true)⟩,CT 20 [t 72,t 74] 75 71,P 71 75 76,M 76 77,AT 3 7 78 77,AT 2 78 79 77,KT 79 80 77,NT 80 81 77,DT .eql 81 1 82 77,P 77 82 83,M 83 0]<|
 .ret):=bF
def QA: Of aH 18 145 [.tmp 4] (r [gF 4]<|
 r [M 0 26,C 10 [t 26] 27,M 27 25,E 25 0 28,E 25 1 29,J vB 5,W 4 5 28,M 29 6]<|
 r [M 1 31,C 10 [t 31] 32,M 32 30,E 30 0 33,E 30 1 34,J vB 7,W 4 7 33,M 34 8]<|
 r [M 0 36,A 0 5 37,K 37 38,C 11 [t 36,t 38,gJ 1000] 39,M 39 35,E 35 0 40,E 35 1 41,M 40 9,M 41 10]<|
 r [M 1 43,A 0 7 44,K 44 45,C 11 [t 43,t 45,gJ 1000] 46,M 46 42,E 42 0 47,E 42 1 48,M 47 11,M 48 12]<|
 r [M 0 50,C 22 [t 50] 51,M 51 49,E 49 0 52,E 49 1 53,M 52 13,M 53 14]<|
 r [M 1 55,C 22 [t 55] 56,M 56 54,E 54 0 57,E 54 1 58,M 57 15,M 58 16]<|
 gR [L 4 5 59,L 4 7 60,bC (.nw true true [.i,.i,.s,.s] (t 59) (t 60)) 61,M 61 62,MF 10 63 62,DF .neq 63 0 64 62,O 62 64 65,M 65 66,MF 12 67 66,DF .neq 67 0 68 66,O 66 68 69,M 69 70,MF 14 71 70,DF .neq 71 0 72 70,O 70 72 73,M 73 74,MF 16 75 74,DF .neq 75 0 76 74,O 74 76 77,M 77 78,MF 9 79 78,MF 11 80 78,CF 20 [t 79,t 80] 81 78,UF 81 82 78,O 78 82 83,M 83 84,MF 13 85 84,MF 15 86 84,CF 23 [t 85,t 86] 87 84,UF 87 88 84,O 84 88 89] 89 [gF 4]<|
 q (r [V z0 17]<|
 gL 0 [M 17 90,M 13 91,N 91 92,B .lss 90 92 93] 93 ((
 q (.block 1 (r [V (i6 1) 18]<|
 gL 2 [M 18 96,M 13 97,M 17 98,I true 2 97 98 99,A 1 99 100,K 100 101,B .leq 96 101 102,M 102 103,MT 18 104 103,DT .lss 104 1000 105 103,P 103 105 106] 106 ((
 q (.block 3 (r [M 0 110,M 13 111,M 17 112,I true 2 111 112 113,A 0 113 114,K 114 115,M 18 116,C 13 [t 110,t 115,t 116] 117,M 117 109,E 109 0 118,E 109 1 119,E 109 2 120,J w5 19,W 6 19 118,M 119 20,M 120 21]<|
 r [M 1 122,M 13 123,M 17 124,I true 2 123 124 125,A 0 125 126,K 126 127,M 18 128,C 13 [t 122,t 127,t 128] 129,M 129 121,E 121 0 130,E 121 1 131,E 121 2 132,J w5 22,W 6 22 130,M 131 23,M 132 24]<|
 r [L 6 19 133,L 6 22 134,C 44 [t 133,t 134] 135,U 135 136,M 136 137,MF 21 138 137,DF .neq 138 0 139 137,O 137 139 140,M 140 141,MF 24 142 141,DF .neq 142 0 143 141,O 141 143 144]<|
 c 144 (r [gF 4]<|
 .ret) k))<|
 R [M 18 107,D .add 107 1 108,M 108 18]))))<|
 R [M 17 94,D .add 94 1 95,M 95 17])))<|
 r [gT 4]<|
 .ret):=bF
def H9: Of aH 111 26 [.tmp 4] (r [gF 4]<|
 gR [M 0 6,N 6 7,M 1 8,N 8 9,B .neq 7 9 10] 10 [gF 4]<|
 q (r [V z0 5]<|
 gL 0 [M 5 11,M 0 12,N 12 13,B .lss 11 13 14] 14 ((
 q (.block 1 (q (.draw [M 0 17,M 5 18,I false 1 17 18 19,K 19 20,M 1 21,M 5 22,I false 1 21 22 23,K 23 24,B .neq 20 24 25] [])<|
 c 25 (r [gF 4]<|
 .ret) k))<|
 R [M 5 15,D .add 15 1 16,M 16 5])))<|
 r [gT 4]<|
 .ret):=bF
def FY: Of aH 69 26 [.tmp 4] (r [gF 4]<|
 gR [M 0 6,N 6 7,M 1 8,N 8 9,B .neq 7 9 10] 10 [gF 4]<|
 q (r [V z0 5]<|
 gL 0 [M 5 11,M 0 12,N 12 13,B .lss 11 13 14] 14 ((
 q (.block 1 (q (.draw [M 0 17,M 5 18,I false 1 17 18 19,K 19 20,M 1 21,M 5 22,I false 1 21 22 23,K 23 24,B .neq 20 24 25] [])<|
 c 25 (r [gF 4]<|
 .ret) k))<|
 R [M 5 15,D .add 15 1 16,M 16 5])))<|
 r [gT 4]<|
 .ret):=bF
def JT: Of aH 71 26 [.tmp 4] (r [gF 4]<|
 gR [M 0 6,N 6 7,M 1 8,N 8 9,B .neq 7 9 10] 10 [gF 4]<|
 q (r [V z0 5]<|
 gL 0 [M 5 11,M 0 12,N 12 13,B .lss 11 13 14] 14 ((
 q (.block 1 (q (.draw [M 0 17,M 5 18,I true 3 17 18 19,L 3 19 20,M 1 21,M 5 22,I true 3 21 22 23,L 3 23 24,bC (.nw true true [.i,.i,.s] (t 20) (t 24)) 25] [])<|
 c 25 (r [gF 4]<|
 .ret) k))<|
 R [M 5 15,D .add 15 1 16,M 16 5])))<|
 r [gT 4]<|
 .ret):=bF
def Ez: Of aH 44 83 [.tmp 4] (r [X 0 2,X 1 3,gF 4]<|
 gR [A 0 2 6,K 6 7,A 0 3 8,K 8 9,B .neq 7 9 10,M 10 11,AF 3 2 12 11,KF 12 13 11,AF 3 3 14 11,KF 14 15 11,BF .neq 13 15 16 11,O 11 16 17,M 17 18,AF 4 2 19 18,KF 19 20 18,AF 4 3 21 18,KF 21 22 18,BF .neq 20 22 23 18,O 18 23 24,M 24 25,AF 5 2 26 25,KF 26 27 25,NF 27 28 25,AF 5 3 29 25,KF 29 30 25,NF 30 31 25,BF .neq 28 31 32 25,O 25 32 33] 33 [gF 4]<|
 q (r [V z0 5]<|
 gL 0 [M 5 34,A 5 2 35,K 35 36,N 36 37,B .lss 34 37 38] 38 ((
 q (.block 1 (q (.draw [A 5 2 41,K 41 42,M 5 43,I true 2 42 43 44,A 0 44 45,K 45 46,A 5 3 47,K 47 48,M 5 49,I true 2 48 49 50,A 0 50 51,K 51 52,Q 69 [t 46,t 52] 53,U 53 54,M 54 55,AF 5 2 56 55,KF 56 57 55,MF 5 58 55,IF true 2 57 58 59 55,AF 1 59 60 55,KF 60 61 55,AF 5 3 62 55,KF 62 63 55,MF 5 64 55,IF true 2 63 64 65 55,AF 1 65 66 55,KF 66 67 55,QF 69 [t 61,t 67] 68 55,UF 68 69 55,O 55 69 70] [])<|
 c 70 (r [gF 4]<|
 .ret) k))<|
 R [M 5 39,D .add 39 1 40,M 40 5])))<|
 r [A 1 2 71,K 71 72,A 1 3 73,K 73 74,C 70 [t 72,t 74] 75,M 75 76,AT 2 2 77 76,KT 77 78 76,AT 2 3 79 76,KT 79 80 76,CT 70 [t 78,t 80] 81 76,P 76 81 82,M 82 4]<|
 .ret):=bF
def Du: Of aH 70 55 [.tmp 4] (r [gF 4]<|
 gR [M 0 6,N 6 7,M 1 8,N 8 9,B .neq 7 9 10] 10 [gF 4]<|
 q (r [V z0 5]<|
 gL 0 [M 5 11,M 0 12,N 12 13,B .lss 11 13 14] 14 ((
 q (.block 1 (q (.draw [M 0 17,M 5 18,I true 3 17 18 19,A 0 19 20,K 20 21,M 1 22,M 5 23,I true 3 22 23 24,A 0 24 25,K 25 26,B .neq 21 26 27,M 27 28,MF 0 29 28,MF 5 30 28,IF true 3 29 30 31 28,AF 1 31 32 28,KF 32 33 28,MF 1 34 28,MF 5 35 28,IF true 3 34 35 36 28,AF 1 36 37 28,KF 37 38 28,BF .neq 33 38 39 28,O 28 39 40,M 40 41,MF 0 42 41,MF 5 43 41,IF true 3 42 43 44 41,AF 2 44 45 41,KF 45 46 41,MF 1 47 41,MF 5 48 41,IF true 3 47 48 49 41,AF 2 49 50 41,KF 50 51 41,QF 71 [t 46,t 51] 52 41,UF 52 53 41,O 41 53 54] [])<|
 c 54 (r [gF 4]<|
 .ret) k))<|
 R [M 5 15,D .add 15 1 16,M 16 5])))<|
 r [gT 4]<|
 .ret):=bF
def QB: Of aH 72 24 [.tmp 4] (r [X 0 2,X 1 3,gF 4]<|
 r [A 0 2 5,K 5 6,A 0 3 7,K 7 8,B .eql 6 8 9,M 9 10,AT 1 2 11 10,KT 11 12 10,AT 1 3 13 10,KT 13 14 10,CT 111 [t 12,t 14] 15 10,P 10 15 16,M 16 17,AT 2 2 18 17,KT 18 19 17,AT 2 3 20 17,KT 20 21 17,CT 112 [t 19,t 21] 22 17,P 17 22 23,M 23 4]<|
 .ret):=bF
def H_: Of aH 112 27 [.tmp 4] (r [gF 4]<|
 gR [M 0 6,N 6 7,M 1 8,N 8 9,B .neq 7 9 10] 10 [gF 4]<|
 q (r [V z0 5]<|
 gL 0 [M 5 11,M 0 12,N 12 13,B .lss 11 13 14] 14 ((
 q (.block 1 (q (.draw [M 0 17,M 5 18,I false 1 17 18 19,K 19 20,M 1 21,M 5 22,I false 1 21 22 23,K 23 24,Q 71 [t 20,t 24] 25,U 25 26] [])<|
 c 26 (r [gF 4]<|
 .ret) k))<|
 R [M 5 15,D .add 15 1 16,M 16 5])))<|
 r [gT 4]<|
 .ret):=bF
def QC: Of aH 46 31 [.tmp 4] (r [X 0 2,X 1 3,gF 4]<|
 r [A 0 2 5,K 5 6,A 0 3 7,K 7 8,B .eql 6 8 9,M 9 10,AT 1 2 11 10,KT 11 12 10,AT 1 3 13 10,KT 13 14 10,BT .eql 12 14 15 10,P 10 15 16,M 16 17,AT 2 2 18 17,KT 18 19 17,AT 2 3 20 17,KT 20 21 17,CT 71 [t 19,t 21] 22 17,P 17 22 23,M 23 24,AT 3 2 25 24,LT 3 25 26 24,AT 3 3 27 24,LT 3 27 28 24,CT 72 [t 26,t 28] 29 24,P 24 29 30,M 30 4]<|
 .ret):=bF
def JU: Of aH 20 27 [.tmp 4] (r [gF 4]<|
 gR [M 0 6,N 6 7,M 1 8,N 8 9,B .neq 7 9 10] 10 [gF 4]<|
 q (r [V z0 5]<|
 gL 0 [M 5 11,M 0 12,N 12 13,B .lss 11 13 14] 14 ((
 q (.block 1 (q (.draw [M 0 17,M 5 18,I true 6 17 18 19,L 6 19 20,M 1 21,M 5 22,I true 6 21 22 23,L 6 23 24,Q 46 [t 20,t 24] 25,U 25 26] [])<|
 c 26 (r [gF 4]<|
 .ret) k))<|
 R [M 5 15,D .add 15 1 16,M 16 5])))<|
 r [gT 4]<|
 .ret):=bF
def FZ: Of aH 23 26 [.tmp 4] (r [gF 4]<|
 gR [M 0 6,N 6 7,M 1 8,N 8 9,B .neq 7 9 10] 10 [gF 4]<|
 q (r [V z0 5]<|
 gL 0 [M 5 11,M 0 12,N 12 13,B .lss 11 13 14] 14 ((
 q (.block 1 (q (.draw [M 0 17,M 5 18,I true 2 17 18 19,L 2 19 20,M 1 21,M 5 22,I true 2 21 22 23,L 2 23 24,bC (.nw true true [.s,.i] (t 20) (t 24)) 25] [])<|
 c 25 (r [gF 4]<|
 .ret) k))<|
 R [M 5 15,D .add 15 1 16,M 16 5])))<|
 r [gT 4]<|
 .ret):=bF
def Ap: Of aH 52 106 [.cell 2 true 6,.tmp 3,.tmp 4,.tmp 5] (r [X 0 1,J w5 2,V z0 3,V z0 4,V z0 5]<|
 .scope 0 (r [L 6 1 22,C 64 [t 22] 23,M 23 21,E 21 0 24,E 21 1 25,E 21 2 26,E 21 3 27,J JL 6,W 7 6 24,M 25 7,M 26 8,M 27 9]<|
 gR [M 9 28,D .neq 28 0 29] 29 [gU w5 [] 30,M 7 31,M 8 32,M 9 33,W 6 2 30,M 31 3,M 32 4,M 33 5]<|
 r [L 6 1 34,J w5 10,W 6 10 34]<|
 r [A 5 10 35,⟨.store 1 (t 35) (.c .aV),none,none⟩]<|
 r [J x7 11]<|
 r [V (.fn (.func 78) [] []) 12]<|
 q (.label 0)<|
 q (r [A 6 6 36,K 36 37,N 37 38,V z0 39]<|
 .block 0 (.loop (r [B .lss 39 38 40]<|
 q (c 40 k (.exit 0))<|
 q (.block 1 (r [M 39 41,I true 2 37 39 42,L 2 42 43,J x7 14,M 41 13,W 2 14 43]<|
 r [gU x7 [] 44,M 13 45,W 2 11 44,M 45 7]<|
 q (r [A 0 14 46,K 46 47,N 47 48,V z0 49]<|
 .block 2 (.loop (r [B .lss 49 48 50]<|
 q (c 50 k (.exit 2))<|
 q (.block 3 (r [M 49 51,I true 3 47 49 52,L 3 52 53,J wZ 16,M 51 15,W 3 16 53]<|
 r [V e0 17]<|
 r [L 3 16 55,C 79 [t 55] 56,M 56 54,E 54 0 57,E 54 1 58,M 57 17,M 58 9]<|
 r [M 15 59,M 59 8]<|
 r [M 12 60,A 0 11 61,M 17 62,M 9 63,bC (.call false (t 60) [t 61,t 62,t 63]) 64,U 64 65]<|
 c 65 (.exit 0) k))<|
 R [D .add 49 1 66,M 66 49])))<|
 q (r [A 1 14 67,K 67 68,N 68 69,V z0 70]<|
 .block 4 (.loop (r [B .lss 70 69 71]<|
 q (c 71 k (.exit 4))<|
 q (.block 5 (r [M 70 72,I true 6 68 70 73,L 6 73 74,J jP 19,M 72 18,W 6 19 74]<|
 r [V e0 20]<|
 r [L 6 19 76,C 80 [t 76] 77,M 77 75,E 75 0 78,E 75 1 79,M 78 20,M 79 9]<|
 r [A 1 1 80,K 80 81,N 81 82,M 18 83,B .add 82 83 84,M 84 8]<|
 r [M 12 85,A 1 11 86,M 20 87,M 9 88,bC (.call false (t 85) [t 86,t 87,t 88]) 89,U 89 90]<|
 c 90 (.exit 0) k))<|
 R [D .add 70 1 91,M 91 70])))<|
 R [A 5 10 92,K 92 93,L 2 11 94,gB true 2 (.agg x7) 1 [(0,t 94)] 95,gA true 2 93 95 96,A 5 10 97,W 1 97 96]))<|
 R [D .add 39 1 98,M 98 39])))<|
 gR [M 9 99,D .neq 99 0 100] 100 [gU w5 [] 101,M 7 102,M 8 103,M 9 104,W 6 2 101,M 102 3,M 103 4,M 104 5]<|
 r [L 6 10 105,W 6 2 105,V z0 3,V z0 4,V z0 5]<|
 .ret) (.seq k <|
 q (r [A 6 6 36,K 36 37,N 37 38,V z0 39]<|
 .block 0 (.loop (r [B .lss 39 38 40]<|
 q (c 40 k (.exit 0))<|
 q (.block 1 (r [M 39 41,I true 2 37 39 42,L 2 42 43,J x7 14,M 41 13,W 2 14 43]<|
 r [gU x7 [] 44,M 13 45,W 2 11 44,M 45 7]<|
 q (r [A 0 14 46,K 46 47,N 47 48,V z0 49]<|
 .block 2 (.loop (r [B .lss 49 48 50]<|
 q (c 50 k (.exit 2))<|
 q (.block 3 (r [M 49 51,I true 3 47 49 52,L 3 52 53,J wZ 16,M 51 15,W 3 16 53]<|
 r [V e0 17]<|
 r [L 3 16 55,C 79 [t 55] 56,M 56 54,E 54 0 57,E 54 1 58,M 57 17,M 58 9]<|
 r [M 15 59,M 59 8]<|
 r [M 12 60,A 0 11 61,M 17 62,M 9 63,bC (.call false (t 60) [t 61,t 62,t 63]) 64,U 64 65]<|
 c 65 (.exit 0) k))<|
 R [D .add 49 1 66,M 66 49])))<|
 q (r [A 1 14 67,K 67 68,N 68 69,V z0 70]<|
 .block 4 (.loop (r [B .lss 70 69 71]<|
 q (c 71 k (.exit 4))<|
 q (.block 5 (r [M 70 72,I true 6 68 70 73,L 6 73 74,J jP 19,M 72 18,W 6 19 74]<|
 r [V e0 20]<|
 r [L 6 19 76,C 80 [t 76] 77,M 77 75,E 75 0 78,E 75 1 79,M 78 20,M 79 9]<|
 r [A 1 1 80,K 80 81,N 81 82,M 18 83,B .add 82 83 84,M 84 8]<|
 r [M 12 85,A 1 11 86,M 20 87,M 9 88,bC (.call false (t 85) [t 86,t 87,t 88]) 89,U 89 90]<|
 c 90 (.exit 0) k))<|
 R [D .add 70 1 91,M 91 70])))<|
 R [A 5 10 92,K 92 93,L 2 11 94,gB true 2 (.agg x7) 1 [(0,t 94)] 95,gA true 2 93 95 96,A 5 10 97,W 1 97 96]))<|
 R [D .add 39 1 98,M 98 39])))<|
 gR [M 9 99,D .neq 99 0 100] 100 [gU w5 [] 101,M 7 102,M 8 103,M 9 104,W 6 2 101,M 102 3,M 103 4,M 104 5]<|
 r [L 6 10 105,W 6 2 105,V z0 3,V z0 4,V z0 5]<|
 .ret)):=bF
def oR: Of aH 78 17 [.tmp 6] (r [gF 6]<|
 r [M 0 7,M 0 8,Z 8 9,K 9 10,M 1 11,gB false 1 e0 1 [(0,t 11)] 12,gA false 1 10 12 13,Z 7 14,W 1 14 13]<|
 r [M 2 15,D .eql 15 0 16,M 16 6]<|
 .ret):=bF
def B8: Of aH 64 50 [.cell 2 true 7,.tmp 3,.tmp 4,.tmp 5] (r [X 0 1,J JL 2,V z0 3,V z0 4,V z0 5]<|
 q (r [L 6 1 13,C 103 [t 13] 14,M 14 6]<|
 r [M 6 15,D .neq 15 0 16]<|
 c 16 (r [gU JL [] 17,M 6 18,W 7 2 17,V (i6 (-1)) 3,V z0 4,M 18 5]<|
 .ret) k)<|
 r [L 6 1 19,gU JL [(0,6,t 19)] 20,J JL 7,W 7 7 20]<|
 q (r [A 5 1 21,K 21 22,N 22 23,V z0 24]<|
 .block 0 (.loop (r [B .lss 24 23 25]<|
 q (c 25 k (.exit 0))<|
 q (.block 1 (r [M 24 26,I true 2 22 24 27,L 2 27 28,J x7 9,M 26 8,W 2 9 28]<|
 r [L 6 1 30,L 2 9 31,C 104 [t 30,t 31] 32,M 32 29,E 29 0 33,E 29 1 34,E 29 2 35,J x7 10,W 2 10 33,M 34 11,M 35 12]<|
 gR [M 12 36,D .neq 36 0 37] 37 [gU JL [] 38,M 8 39,M 11 40,M 12 41,W 7 2 38,M 39 3,M 40 4,M 41 5]<|
 R [A 6 7 42,K 42 43,L 2 10 44,gB true 2 (.agg x7) 1 [(0,t 44)] 45,gA true 2 43 45 46,A 6 7 47,W 1 47 46]))<|
 R [D .add 24 1 48,M 48 24])))<|
 r [L 7 7 49,W 7 2 49,V z0 3,V z0 4,V z0 5]<|
 .ret):=bF
def Nv: Of aH 81 45 [.tmp 4] (r [X 0 2,X 1 3,gF 4]<|
 r [A 0 2 5,K 5 6,A 0 3 7,K 7 8,B .eql 6 8 9,M 9 10,AT 3 2 11 10,KT 11 12 10,AT 3 3 13 10,KT 13 14 10,BT .eql 12 14 15 10,P 10 15 16,M 16 17,AT 4 2 18 17,KT 18 19 17,AT 4 3 20 17,KT 20 21 17,BT .eql 19 21 22 17,P 17 22 23,M 23 24,AT 1 2 25 24,KT 25 26 24,AT 1 3 27 24,KT 27 28 24,CT 125 [t 26,t 28,(.c (.fn (.func 126) [] []))] 29 24,P 24 29 30,M 30 31,AT 2 2 32 31,KT 32 33 31,AT 2 3 34 31,KT 34 35 31,CT 125 [t 33,t 35,(.c (.fn (.func 126) [] []))] 36 31,P 31 36 37,M 37 38,AT 5 2 39 38,KT 39 40 38,AT 5 3 41 38,KT 41 42 38,CT 127 [t 40,t 42,(.c (.fn (.func 128) [] []))] 43 38,P 38 43 44,M 44 4]<|
 .ret):=bF
def QE: Of aH 140 31 [.cell 6 true 3,.tmp 7] (r [X 0 3,J wZ 6,V z0 7]<|
 r [M 2 12,C 182 [t 12] 13,M 13 11,E 11 0 14,E 11 1 15,E 11 2 16,J wZ 8,W 3 8 14,M 15 9,M 16 10]<|
 q (r [M 10 17,D .eql 17 0 18]<|
 c 18 (.draw [L 3 8 19,A 1 3 20,K 20 21,M 1 22,I true 3 21 22 23,A 1 23 24,K 24 25,A 1 3 26,K 26 27,Q 183 [t 19,t 25,t 27] 28,M 28 10] []) k)<|
 r [L 3 8 29,M 10 30,W 3 6 29,M 30 7]<|
 .ret):=bF
def Ia: Of aH 138 19 [.tmp 4] (r [X 1 3,V z0 4]<|
 q (r [M 0 6,C 178 [t 6] 7,M 7 5]<|
 r [M 5 8,D .neq 8 0 9]<|
 c 9 (r [M 5 10,M 10 4]<|
 .ret) k)<|
 gR [M 0 11,N 11 12,D .eql 12 0 13,M 13 14,MF 0 15 14,⟨.tU (.func 180) [] [t 3],(some 16),some (14,false)⟩,CF 179 [t 15,t 16] 17 14,O 14 17 18] 18 [V (i6 17) 4]<|
 r [V z0 4]<|
 .ret):=bF
def Fa: Of aH 180 8 [.tmp 3] (r [X 0 2,gF 3]<|
 r [L 3 2 4,K 1 5,C 181 [t 4,t 5] 6,U 6 7,M 7 3]<|
 .ret):=bF
def Aq: Of aH 103 33 [.tmp 2] (r [X 0 1,V z0 2]<|
 gR [A 0 1 5,K 5 6,C 36 [t 6] 7,U 7 8] 8 [V (i6 13) 2]<|
 q (r [A 1 1 9,K 9 10,C 138 [t 10,(.c (.bool false))] 11,M 11 3]<|
 r [M 3 12,D .neq 12 0 13]<|
 c 13 (r [M 3 14,M 14 2]<|
 .ret) k)<|
 q (r [A 2 1 15,K 15 16,A 3 1 17,K 17 18,D .eql 18 3 19,C 138 [t 16,t 19] 20,M 20 4]<|
 r [M 4 21,D .neq 21 0 22]<|
 c 22 (r [M 4 23,M 23 2]<|
 .ret) k)<|
 q (.block 0 (r [L 6 1 25,C 139 [t 25] 26,U 26 27,M 27 24]<|
 c 24 (r [V (i6 17) 2]<|
 .ret) (r [A 5 1 29,K 29 30,N 30 31,D .gtr 31 24 32,M 32 28]<|
 c 28 (r [V (i6 24) 2]<|
 .ret) k)))<|
 r [V z0 2]<|
 .ret):=bF
def B9: Of aH 104 91 [.cell 4 true 2,.tmp 5,.tmp 6] (r [X 0 2,X 1 3,J x7 4,V z0 5,V z0 6]<|
 gR [A 0 3 15,K 15 16,N 16 17,A 1 2 18,K 18 19,N 19 20,B .neq 17 20 21,M 21 22,AF 1 3 23 22,KF 23 24 22,NF 24 25 22,AF 2 2 26 22,KF 26 27 22,NF 27 28 22,BF .neq 25 28 29 22,O 22 29 30] 30 [L 2 4 31,W 2 4 31,V z0 5,V (i6 17) 6]<|
 q (r [A 0 3 32,K 32 33,N 33 34,V z0 35]<|
 .block 0 (.loop (r [B .lss 35 34 36]<|
 q (c 36 k (.exit 0))<|
 q (.block 1 (r [M 35 37,I false 1 33 35 38,K 38 39,M 37 7,M 39 8]<|
 r [L 6 2 41,M 7 42,M 8 43,C 140 [t 41,t 42,t 43] 44,M 44 40,E 40 0 45,E 40 1 46,J wZ 9,W 3 9 45,M 46 10]<|
 gR [M 10 47,D .neq 47 0 48] 48 [L 2 4 49,M 7 50,M 10 51,W 2 4 49,M 50 5,M 51 6]<|
 R [A 0 4 52,K 52 53,L 3 9 54,gB true 3 (.agg wZ) 1 [(0,t 54)] 55,gA true 3 53 55 56,A 0 4 57,W 1 57 56]))<|
 R [D .add 35 1 58,M 58 35])))<|
 q (r [A 1 3 59,K 59 60,N 60 61,V z0 62]<|
 .block 2 (.loop (r [B .lss 62 61 63]<|
 q (c 63 k (.exit 2))<|
 q (.block 3 (r [M 62 64,I false 1 60 62 65,K 65 66,M 64 11,M 66 12]<|
 r [L 6 2 68,M 11 69,M 12 70,C 141 [t 68,t 69,t 70] 71,M 71 67,E 67 0 72,E 67 1 73,J jP 13,W 6 13 72,M 73 14]<|
 q (r [M 14 74,D .neq 74 0 75]<|
 c 75 (q (.draw [L 2 4 76,A 1 2 77,K 77 78,N 78 79,M 11 80,B .add 79 80 81,M 14 82,W 2 4 76,M 81 5,M 82 6] [(t 77,t 4)])<|
 .ret) k)<|
 R [A 1 4 83,K 83 84,L 6 13 85,gB true 6 (.agg jP) 1 [(0,t 85)] 86,gA true 6 84 86 87,A 1 4 88,W 1 88 87]))<|
 R [D .add 62 1 89,M 89 62])))<|
 r [L 2 4 90,W 2 4 90,V z0 5,V z0 6]<|
 .ret):=bF
def Ar: Of aH 181 50 [.tmp 4] (r [X 0 2,gF 4]<|
 gR [M 1 7,U 7 8] 8 [A 2 2 9,K 9 10,N 10 11,D .eql 11 0 12,M 12 4]<|
 q (r [A 2 2 13,K 13 14,N 14 15,V z0 16]<|
 .block 0 (.loop (r [B .lss 16 15 17]<|
 q (c 17 k (.exit 0))<|
 q (.block 1 (r [M 16 18,I true 3 14 16 19,L 3 19 20,J ie 6,M 18 5,W 3 6 20]<|
 r [L 3 6 21,C 136 [t 21] 22,D .neq 22 0 23,M 23 24,AF 0 6 25 24,KF 25 26 24,AF 1 2 27 24,KF 27 28 24,BF .neq 26 28 29 24,O 24 29 30,M 30 31,AF 2 2 32 31,KF 32 33 31,LF 3 6 34 31,CF 218 [t 33,t 34] 35 31,MF 5 36 31,BF .neq 35 36 37 31,O 31 37 38]<|
 c 38 (r [gF 4]<|
 .ret) k))<|
 R [D .add 16 1 39,M 39 16])))<|
 r [A 2 2 40,K 40 41,N 41 42,D .geq 42 1 43,M 43 44,AT 2 2 45 44,KT 45 46 44,NT 46 47 44,DT .leq 47 8 48 44,P 44 48 49,M 49 4]<|
 .ret):=bF
def JV: Of aH 139 45 [.tmp 2] (r [X 0 1,gF 2]<|
 q (.block 0 (r [A 3 1 5,K 5 6,D .lss 6 1 7,M 7 8,AF 3 1 9 8,KF 9 10 8,DF .gtr 10 6 11 8,O 8 11 12,M 12 4]<|
 c 4 (r [gF 2]<|
 .ret) (r [A 4 1 14,K 14 15,D .eql 15 0 16,M 16 13]<|
 c 13 (r [gT 2]<|
 .ret) (r [A 3 1 18,K 18 19,D .neq 19 5 20,M 20 21,AF 2 1 22 21,KF 22 23 21,NF 23 24 21,DF .neq 24 1 25 21,O 21 25 26,M 26 17]<|
 c 17 (r [gF 2]<|
 .ret) k))))<|
 q (r [A 2 1 27,K 27 28,gI true 3 28 0 29,A 1 29 30,K 30 31,M 31 3]<|
 r [A 4 1 32,K 32 33]<|
 .block 1 (r [D .eql 33 1 35,M 35 34]<|
 c 34 (r [M 3 36,D .eql 36 1 37,M 37 2]<|
 .ret) (q (r [D .eql 33 2 39,M 39 38]<|
 c 38 k (R [D .eql 33 3 40,M 40 38]))<|
 c 38 (r [M 3 41,D .neq 41 3 42,M 42 2]<|
 .ret) (r [D .eql 33 4 44,M 44 43]<|
 c 43 (r [gT 2]<|
 .ret) k))))<|
 r [gF 2]<|
 .ret):=bF
def Dv: Of aH 126 24 [.tmp 4] (r [X 0 2,X 1 3,gF 4]<|
 r [A 0 2 5,K 5 6,A 0 3 7,K 7 8,B .eql 6 8 9,M 9 10,AT 1 2 11 10,KT 11 12 10,AT 1 3 13 10,KT 13 14 10,BT .eql 12 14 15 10,P 10 15 16,M 16 17,AT 2 2 18 17,KT 18 19 17,AT 2 3 20 17,KT 20 21 17,CT 66 [t 19,t 21] 22 17,P 17 22 23,M 23 4]<|
 .ret):=bF
def F0: Of aH 128 17 [.tmp 4] (r [X 0 2,X 1 3,gF 4]<|
 r [A 0 2 5,K 5 6,A 0 3 7,K 7 8,C 173 [t 6,t 8] 9,M 9 10,AT 1 2 11 10,KT 11 12 10,AT 1 3 13 10,KT 13 14 10,CT 173 [t 12,t 14] 15 10,P 10 15 16,M 16 4]<|
 .ret):=bF
def Nw: Of aH 141 44 [.cell 6 true 6,.tmp 7] (r [X 0 3,J jP 6,V z0 7]<|
 r [M 2 13,C 184 [t 13] 14,M 14 12,E 12 0 15,E 12 1 16,E 12 2 17,J jP 8,W 6 8 15,M 16 9,M 17 10]<|
 gR [M 10 18,D .neq 18 0 19] 19 [L 6 8 20,M 10 21,W 6 6 20,M 21 7]<|
 r [L 6 8 23,A 1 3 24,K 24 25,C 185 [t 23,t 25] 26,M 26 22,E 22 0 27,E 22 1 28,M 27 11,M 28 10]<|
 q (r [M 10 29,D .eql 29 0 30,M 30 31,MT 11 32 31,AT 2 3 33 31,KT 33 34 31,MT 1 35 31,IT true 3 34 35 36 31,AT 1 36 37 31,KT 37 38 31,CT 186 [t 32,t 38] 39 31,UT 39 40 31,P 31 40 41]<|
 c 41 (R [V (i6 14) 10]) k)<|
 r [L 6 8 42,M 10 43,W 6 6 42,M 43 7]<|
 .ret):=bF
def B_: Of aH 14 12 [.tmp 2,.tmp 3] (r [X 0 1,V e0 2,V z0 3]<|
 q (r [L 6 1 5,C 37 [t 5] 6,M 6 4]<|
 r [M 4 7,D .neq 7 0 8]<|
 c 8 (r [M 4 9,V e0 2,M 9 3]<|
 .ret) k)<|
 r [L 6 1 10,C 38 [t 10] 11,M 11 2,V z0 3]<|
 .ret):=bF
def Ca: Of aH 37 12 [.tmp 2] (r [X 0 1,V z0 2]<|
 q (.block 0 (r [L 6 1 4,C 59 [t 4] 5,U 5 6,M 6 3]<|
 c 3 (r [V (i6 2) 2]<|
 .ret) (r [L 6 1 8,C 38 [t 8] 9,S 9 10,D .gtr 10 1400 11,M 11 7]<|
 c 7 (r [V (i6 5) 2]<|
 .ret) k)))<|
 r [V z0 2]<|
 .ret):=bF
def sU: Of aH 39 56 [.cell 6 true 6,.tmp 7] (r [X 0 3,J uN 6,V z0 7]<|
 gR [M 1 15,D .lss 15 1 16,M 16 17,MF 1 18 17,DF .gtr 18 2147483648 19 17,O 17 19 20] 20 [gU uN [] 21,W 6 6 21,V (i6 2) 7]<|
 r [L 6 3 23,C 64 [t 23] 24,M 24 22,E 22 0 25,E 22 1 26,E 22 2 27,E 22 3 28,J JL 8,W 7 8 25,M 26 9,M 27 10,M 28 11]<|
 gR [M 11 29,D .neq 29 0 30] 30 [gU uN [] 31,M 11 32,W 6 6 31,M 32 7]<|
 r [L 7 8 34,M 2 35,C 65 [t 34,t 35] 36,M 36 33,E 33 0 37,E 33 1 38,J ze 12,W 3 12 37,M 38 11]<|
 gR [M 11 39,D .neq 39 0 40] 40 [gU uN [] 41,M 11 42,W 6 6 41,M 42 7]<|
 r [A 0 3 43,K 43 44,M 1 45,M 2 46,L 3 12 47,gU uN [(0,1,t 44),(1,1,t 45),(2,1,t 46),(3,3,t 47)] 48,J uN 13,W 6 13 48]<|
 q (r [L 6 13 49,C 37 [t 49] 50,M 50 14]<|
 r [M 14 51,D .neq 51 0 52]<|
 c 52 (r [gU uN [] 53,M 14 54,W 6 6 53,M 54 7]<|
 .ret) k)<|
 r [L 6 13 55,W 6 6 55,V z0 7]<|
 .ret):=bF
def Nx: Of aH 97 11 [.tmp 2] (r [gF 2]<|
 r [M 0 3,N 3 4,D .leq 4 6 5,M 5 6,MT 0 7 6,CT 134 [t 7,(.c (.fn (.func 135) [] []))] 8 6,UT 8 9 6,P 6 9 10,M 10 2]<|
 .ret):=bF
def JW: Of aH 135 6 [.tmp 2] (r [X 0 1,gF 2]<|
 r [L 3 1 3,C 136 [t 3] 4,D .neq 4 0 5,M 5 2]<|
 .ret):=bF
def Ny: Of aH 59 53 [.tmp 2] (r [X 0 1,gF 2]<|
 q (.block 0 (r [A 0 1 4,K 4 5,C 36 [t 5] 6,U 6 7,M 7 8,AF 1 1 9 8,KF 9 10 8,DF .lss 10 1 11 8,O 8 11 12,M 12 13,AF 1 1 14 13,KF 14 15 13,DF .gtr 15 2147483648 16 13,O 13 16 17,M 17 3]<|
 c 3 (r [gF 2]<|
 .ret) (r [A 3 1 19,A 0 19 20,K 20 21,D .lss 21 0 22,M 22 23,AF 3 1 24 23,AF 0 24 25 23,KF 25 26 23,DF .gtr 26 99 27 23,O 23 27 28,M 28 29,AF 3 1 30 29,AF 1 30 31 29,KF 31 32 29,CF 96 [t 32] 33 29,UF 33 34 29,O 29 34 35,M 35 36,AF 3 1 37 36,AF 2 37 38 36,KF 38 39 36,NF 39 40 36,DF .gtr 40 24 41 36,O 36 41 42,M 42 18]<|
 c 18 (r [gF 2]<|
 .ret) k)))<|
 r [A 2 1 43,K 43 44,C 97 [t 44] 45,M 45 46,AT 3 1 47 46,AT 2 47 48 46,KT 48 49 46,CT 98 [t 49,(.c (.fn (.func 99) [] []))] 50 46,UT 50 51 46,P 46 51 52,M 52 2]<|
 .ret):=bF
def JX: Of aH 99 6 [.tmp 2] (r [gF 2]<|
 r [M 0 3,C 97 [t 3] 4,U 4 5,M 5 2]<|
 .ret):=bF
def LI: Of aH 96 21 [.tmp 2] (r [gF 2]<|
 r [V (i6 (-1)) 3]<|
 q (r [M 0 6,N 6 7,V z0 8]<|
 .block 0 (.loop (r [B .lss 8 7 9]<|
 q (c 9 k (.exit 0))<|
 q (.block 1 (r [I false 1 6 8 10,K 10 11,M 11 5]<|
 gR [M 5 12,M 3 13,B .leq 12 13 14,M 14 15,MF 5 16 15,DF .geq 16 24 17 15,O 15 17 18] 18 [gF 2]<|
 R [M 5 19,M 19 3]))<|
 R [D .add 8 1 20,M 20 8])))<|
 r [gT 2]<|
 .ret):=bF
def QG: Of aH 38 66 [.tmp 2] (r [X 0 1,V e0 2]<|
 q (.draw [A 0 1 9,K 9 10,Q 60 [t 10] 11,A 1 1 12,K 12 13,Q 61 [t 13] 14,B .add 11 14 15,J [e0] 3,W 1 3 15] [])<|
 r [bC (.tU (.func 62) [] [t 3]) 16,M 16 4]<|
 r [M 4 17,A 2 1 18,K 18 19,bC (.call false (t 17) [t 19]) 20]<|
 q (.draw [K 3 21,A 3 1 22,A 0 22 23,K 23 24,Q 61 [t 24] 25,A 3 1 26,A 1 26 27,K 27 28,N 28 29,Q 61 [t 29] 30,B .add 25 30 31,B .add 21 31 32,W 1 3 32] [])<|
 q (r [A 3 1 33,A 1 33 34,K 34 35,N 35 36,V z0 37]<|
 .block 0 (.loop (r [B .lss 37 36 38]<|
 q (c 38 k (.exit 0))<|
 q (.block 1 (r [I false 1 35 37 39,K 39 40,M 40 6]<|
 .draw [K 3 41,M 6 42,Q 61 [t 42] 43,B .add 41 43 44,W 1 3 44] []))<|
 R [D .add 37 1 45,M 45 37])))<|
 q (.draw [K 3 46,A 3 1 47,A 2 47 48,K 48 49,N 49 50,Q 61 [t 50] 51,B .add 46 51 52,W 1 3 52] [])<|
 q (r [A 3 1 53,A 2 53 54,K 54 55,N 55 56,V z0 57]<|
 .block 2 (.loop (r [B .lss 57 56 58]<|
 q (c 58 k (.exit 2))<|
 q (.block 3 (r [I false 1 55 57 59,K 59 60,M 60 8]<|
 R [M 4 61,M 8 62,bC (.call false (t 61) [t 62]) 63]))<|
 R [D .add 57 1 64,M 64 57])))<|
 r [K 3 65,M 65 2]<|
 .ret):=bF
def LJ: Of aH 62 13 [] (r [M 0 6,C 63 [t 6] 7,M 7 5,E 5 0 8,E 5 1 9,M 8 3,M 9 4]<|
 R [K 1 10,M 3 11,B .add 10 11 12,W 1 1 12]):=bF
def Bn: Of aH 267 21 [.tmp 4,.tmp 5] (r [V z0 4,V z0 5]<|
 r [M 0 7,M 1 8,B .add 7 8 9,M 9 6]<|
 gR [M 6 10,M 0 11,B .gtr 10 11 12,M 1 13,D .gtr 13 0 14,bC (.nw true false [.b] (t 12) (t 14)) 15,M 15 16,MT 1 17 16,DT .neq 17 0 18 16,P 16 18 19] 19 [V z0 4,V (i6 15) 5]<|
 r [M 6 20,M 20 4,V z0 5]<|
 .ret):=bF
def Bo: Of aH 284 19 [.tmp 4,.tmp 5] (r [V z0 4,V z0 5]<|
 q (.block 0 (r [M 1 7,D .eql 7 0 8,M 8 6]<|
 c 6 (r [V z0 4,V (i6 16) 5]<|
 .ret) (r [M 0 10,D .eql 10 (-9223372036854775808) 11,M 11 12,MT 1 13 12,DT .eql 13 (-1) 14 12,P 12 14 15,M 15 9]<|
 c 9 (r [V z0 4,V (i6 15) 5]<|
 .ret) k)))<|
 r [M 0 16,M 1 17,B .quo 16 17 18,M 18 4,V z0 5]<|
 .ret):=bF
def wG: Of aH 283 38 [.tmp 4,.tmp 5] (r [V z0 4,V z0 5]<|
 r [M 0 11,C 299 [t 11] 12,M 1 13,C 299 [t 13] 14,C 86 [t 12,t 14] 15,M 15 10,E 10 0 16,E 10 1 17,M 16 6,M 17 7]<|
 r [V (.int .u64 9223372036854775807) 8]<|
 r [M 0 18,D .lss 18 0 19,M 1 20,D .lss 20 0 21,bC (.nw true false [.b] (t 19) (t 21)) 22,M 22 9]<|
 q (r [M 9 23]<|
 c 23 (R [M 8 24,bC (.bin .add (t 24) (.c (.int .u64 1))) 25,M 25 8]) k)<|
 gR [M 6 26,bC (.bin .neq (t 26) (.c (.int .u64 0))) 27,M 27 28,MF 7 29 28,MF 8 30 28,BF .gtr 29 30 31 28,O 28 31 32] 32 [V z0 4,V (i6 15) 5]<|
 q (r [M 9 33]<|
 c 33 (R [M 7 34,bC (.un .neg (t 34)) 35,M 35 7]) k)<|
 r [M 7 36,bC (.jX .i64 (t 36)) 37,M 37 4,V z0 5]<|
 .ret):=bF
def Bp: Of aH 231 21 [.tmp 4,.tmp 5] (r [V z0 4,V z0 5]<|
 r [M 0 7,M 1 8,B .sub 7 8 9,M 9 6]<|
 gR [M 6 10,M 0 11,B .lss 10 11 12,M 1 13,D .gtr 13 0 14,bC (.nw true false [.b] (t 12) (t 14)) 15,M 15 16,MT 1 17 16,DT .neq 17 0 18 16,P 16 18 19] 19 [V z0 4,V (i6 15) 5]<|
 r [M 6 20,M 20 4,V z0 5]<|
 .ret):=bF
def lO: Of aH 235 59 [.cell 6 true 3] (r [X 1 4,X 2 5,J ie 6]<|
 r [L 3 4 9,L 3 5 10,C 262 [t 9,t 10] 11,M 11 7]<|
 q (r [M 0 12]<|
 .block 0 (r [D .eql 12 8 14,M 14 13]<|
 c 13 (r [L 3 4 15,L 3 5 16,bC (.nw false true [.i,.i,.s] (t 15) (t 16)) 17,C 232 [t 17] 18,W 3 6 18]<|
 .ret) (r [D .eql 12 9 20,M 20 19]<|
 c 19 (r [L 3 4 21,L 3 5 22,bC (.nw true true [.i,.i,.s] (t 21) (t 22)) 23,C 232 [t 23] 24,W 3 6 24]<|
 .ret) k)))<|
 q (r [M 7 25,D .eql 25 3 26]<|
 c 26 (R [C 259 [gJ 14] 27]) k)<|
 gR [A 0 4 28,K 28 29,D .eql 29 0 30,M 30 31,AF 0 5 32 31,KF 32 33 31,DF .eql 33 0 34 31,O 31 34 35] 35 [gU ie [] 36,W 3 6 36]<|
 r [L 3 4 37,L 3 5 38,C 194 [t 37,t 38] 39,M 39 8]<|
 q (r [M 0 40]<|
 .block 1 (r [D .eql 40 10 42,M 42 41]<|
 c 41 (r [M 8 43,D .lss 43 0 44,C 232 [t 44] 45,W 3 6 45]<|
 .ret) (r [D .eql 40 11 47,M 47 46]<|
 c 46 (r [M 8 48,D .leq 48 0 49,C 232 [t 49] 50,W 3 6 50]<|
 .ret) (r [D .eql 40 12 52,M 52 51]<|
 c 51 (r [M 8 53,D .gtr 53 0 54,C 232 [t 54] 55,W 3 6 55]<|
 .ret) k))))<|
 r [M 8 56,D .geq 56 0 57,C 232 [t 57] 58,W 3 6 58]<|
 .ret):=bF
def F1: Of aH 260 16 [.cell 4 true 3] (r [J ie 4]<|
 q (r [M 0 5,S 5 6,M 1 7,S 7 8,B .add 6 8 9,D .gtr 9 40 10]<|
 c 10 (R [C 259 [gJ 5] 11]) k)<|
 r [M 0 12,M 1 13,B .add 12 13 14,gU ie [(0,1,gJ 2),(2,1,t 14)] 15,W 3 4 15]<|
 .ret):=bF
def Bq: Of aH 262 18 [.tmp 4] (r [X 0 2,X 1 3,V z0 4]<|
 r [A 0 2 6,K 6 7,M 7 5]<|
 q (r [M 5 8,D .eql 8 0 9]<|
 c 9 (R [A 0 3 10,K 10 11,M 11 5]) k)<|
 r [M 5 12,L 3 2 13,L 3 3 14,gB true 3 (.agg ie) 2 [(0,t 13),(1,t 14)] 15,C 229 [t 12,t 15] 16]<|
 r [M 5 17,M 17 4]<|
 .ret):=bF
def Cb: Of aH 230 9 [.cell 4 true 3] (r [J ie 4]<|
 r [M 1 5,C 259 [t 5] 6]<|
 r [M 0 7,gU ie [(0,1,gJ 1),(1,1,t 7)] 8,W 3 4 8]<|
 .ret):=bF
def LK: Of aH 229 23 [.tmp 4] (r [gF 4]<|
 q (r [M 1 7,N 7 8,V z0 9]<|
 .block 0 (.loop (r [B .lss 9 8 10]<|
 q (c 10 k (.exit 0))<|
 q (.block 1 (r [I true 3 7 9 11,L 3 11 12,J ie 6,W 3 6 12]<|
 r [A 0 6 13,K 13 14]<|
 .block 2 (r [M 0 17,B .eql 14 17 18,M 18 16]<|
 c 16 k (r [D .eql 14 0 20,M 20 19]<|
 c 19 (R [gT 4]) (R [C 259 [gJ 14] 15])))))<|
 R [D .add 9 1 21,M 21 9])))<|
 r [M 4 22,M 22 4]<|
 .ret):=bF
def EB: Of aH 259 6 [] (r [M 0 2,D .neq 2 0 3]<|
 c 3 (R [M 0 4,bC (.wC 27 (t 4)) 5,⟨.panic (t 5),none,none⟩]) k):=bF
def rZ: Of aH 261 38 [.cell 6 true 3] (r [J ie 6]<|
 q (r [M 0 7]<|
 .block 0 (r [D .eql 7 4 9,M 9 8]<|
 c 8 (r [M 1 10,M 2 11,C 267 [t 10,t 11] 12,E 12 0 13,E 12 1 14,C 230 [t 13,t 14] 15,W 3 6 15]<|
 .ret) (r [D .eql 7 5 17,M 17 16]<|
 c 16 (r [M 1 18,M 2 19,C 231 [t 18,t 19] 20,E 20 0 21,E 20 1 22,C 230 [t 21,t 22] 23,W 3 6 23]<|
 .ret) (r [D .eql 7 6 25,M 25 24]<|
 c 24 (r [M 1 26,M 2 27,C 283 [t 26,t 27] 28,E 28 0 29,E 28 1 30,C 230 [t 29,t 30] 31,W 3 6 31]<|
 .ret) k))))<|
 r [M 1 32,M 2 33,C 284 [t 32,t 33] 34,E 34 0 35,E 34 1 36,C 230 [t 35,t 36] 37,W 3 6 37]<|
 .ret):=bF
def F2: Of aH 299 10 [.tmp 2] (r [V (.int .u64 0) 2]<|
 gR [M 0 3,D .lss 3 0 4] 4 [M 0 5,bC (.jX .u64 (t 5)) 6,bC (.un .neg (t 6)) 7,M 7 2]<|
 r [M 0 8,bC (.jX .u64 (t 8)) 9,M 9 2]<|
 .ret):=bF
def uQ: Of aH 233 42 [.cell 6 true 3] (r [X 1 4,X 2 5,J ie 6]<|
 r [M 0 9,D .eql 9 4 10,M 10 11,AT 0 4 12 11,KT 12 13 11,DT .eql 13 2 14 11,MT 14 15 11,AF 0 5 16 15,KF 16 17 15,DF .eql 17 2 18 15,OT 15 18 19 11,P 11 19 20,M 20 7]<|
 r [V (i6 1) 8]<|
 q (r [M 7 21]<|
 c 21 (R [V (i6 2) 8]) k)<|
 q (.block 0 (r [M 8 23,L 3 4 24,L 3 5 25,gB true 3 (.agg ie) 2 [(0,t 24),(1,t 25)] 26,C 229 [t 23,t 26] 27,M 27 22]<|
 c 22 (r [gU ie [] 28,W 3 6 28]<|
 .ret) (r [M 7 30,M 30 29]<|
 c 29 (r [A 2 4 31,K 31 32,A 2 5 33,K 33 34,C 260 [t 32,t 34] 35,W 3 6 35]<|
 .ret) k)))<|
 r [M 0 36,A 1 4 37,K 37 38,A 1 5 39,K 39 40,C 261 [t 36,t 38,t 40] 41,W 3 6 41]<|
 .ret):=bF
def QH: Of aH 232 8 [.cell 2 true 3] (r [J ie 2]<|
 r [gU ie [(0,1,gJ 3)] 4,J ie 3,W 3 3 4]<|
 q (r [M 0 5]<|
 c 5 (R [A 1 3 6,⟨.store 1 (t 6) (gJ 1),none,none⟩]) k)<|
 r [L 3 3 7,W 3 2 7]<|
 .ret):=bF
def r7: Of aH 234 32 [.cell 6 true 3] (r [X 1 4,X 2 5,J ie 6]<|
 r [L 3 4 9,L 3 5 10,gB true 3 (.agg ie) 2 [(0,t 9),(1,t 10)] 11,C 229 [gJ 3,t 11] 12,M 12 7]<|
 r [M 0 13,D .eql 13 15 14,C 232 [t 14] 15,J ie 8,W 3 8 15]<|
 q (.block 0 (r [L 3 4 17,L 3 8 18,bC (.nw false true [.i,.i,.s] (t 17) (t 18)) 19,M 19 20,LF 3 5 21 20,LF 3 8 22 20,⟨.nw false true [.i,.i,.s] (t 21) (t 22),(some 23),some (20,false)⟩,O 20 23 24,M 24 16]<|
 c 16 (r [L 3 8 25,W 3 6 25]<|
 .ret) (r [M 7 27,M 27 26]<|
 c 26 (r [gU ie [] 28,W 3 6 28]<|
 .ret) k)))<|
 r [M 0 29,D .eql 29 14 30,C 232 [t 30] 31,W 3 6 31]<|
 .ret):=bF
def tM: Of aH 65 60 [.cell 4 true 3,.tmp 5] (r [X 0 2,J ze 4,V z0 5]<|
 r [L 7 2 11,M 1 12,C 105 [t 11,t 12] 13,M 13 10,E 10 0 14,E 10 1 15,E 10 2 16,M 14 6,M 15 7,M 16 8]<|
 q (.block 0 (r [M 8 18,D .eql 18 21 19,M 19 17]<|
 c 17 (r [gU ze [] 20,M 8 21,W 3 4 20,M 21 5]<|
 .ret) (r [M 8 23,D .neq 23 0 24,M 24 22]<|
 c 22 (r [M 8 25,M 7 26,gB false 1 z0 1 [(0,t 26)] 27,gU ze [(0,1,t 25),(1,1,t 27)] 28,W 3 4 28,V z0 5]<|
 .ret) (r [A 0 2 30,A 3 30 31,K 31 32,D .eql 32 1 33,M 33 34,MT 6 35 34,NT 35 36 34,DT .gtr 36 1 37 34,P 34 37 38,M 38 29]<|
 c 29 (r [M 6 39,gU ze [(0,1,gJ 19),(1,1,t 39)] 40,W 3 4 40,V z0 5]<|
 .ret) k))))<|
 r [L 7 2 42,M 6 43,M 1 44,C 106 [t 42,t 43,t 44] 45,M 45 41,E 41 0 46,E 41 1 47,E 41 2 48,M 46 9,M 47 7,M 48 8]<|
 gR [M 8 49,D .neq 49 0 50] 50 [M 8 51,M 7 52,gB false 1 z0 1 [(0,t 52)] 53,gU ze [(0,1,t 51),(1,1,t 53)] 54,W 3 4 54,V z0 5]<|
 r [A 0 2 55,L 6 55 56,M 6 57,M 9 58,C 107 [t 56,t 57,t 58] 59,W 3 4 59,V z0 5]<|
 .ret):=bF
def F3: Of aH 142 38 [.tmp 4] (r [X 0 2,V z0 4]<|
 gR [M 1 7,N 7 8,A 0 2 9,A 1 9 10,K 10 11,N 11 12,B .neq 8 12 13] 13 [V (i6 21) 4]<|
 q (r [M 1 14,N 14 15,V z0 16]<|
 .block 0 (.loop (r [B .lss 16 15 17]<|
 q (c 17 k (.exit 0))<|
 q (.block 1 (r [M 16 18,I true 3 14 16 19,L 3 19 20,J ie 6,M 18 5,W 3 6 20]<|
 q (.draw [L 3 6 21,Q 136 [t 21] 22,D .neq 22 0 23,M 23 24,AF 0 6 25 24,KF 25 26 24,AF 0 2 27 24,AF 1 27 28 24,KF 28 29 24,MF 5 30 24,IF true 3 29 30 31 24,AF 1 31 32 24,KF 32 33 24,QF 186 [t 26,t 33] 34 24,UF 34 35 24,O 24 35 36] [])<|
 c 36 (r [V (i6 21) 4]<|
 .ret) k))<|
 R [D .add 16 1 37,M 37 16])))<|
 r [V z0 4]<|
 .ret):=bF
def F4: Of aH 105 54 [.tmp 4,.tmp 5,.tmp 6] (r [X 0 2,V .aV 4,V z0 5,V z0 6]<|
 q (r [L 7 2 12,M 1 13,C 142 [t 12,t 13] 14,M 14 7]<|
 r [M 7 15,D .neq 15 0 16]<|
 c 16 (r [M 7 17,V .aV 4,V z0 5,M 17 6]<|
 .ret) k)<|
 r [bC (.lE ⟨false,1⟩) 8]<|
 q (r [A 6 2 18,K 18 19,N 19 20,V z0 21]<|
 .block 0 (.loop (r [B .lss 21 20 22]<|
 q (c 22 k (.exit 0))<|
 q (.block 1 (r [M 21 23,M 23 9]<|
 r [L 7 2 25,M 9 26,M 1 27,C 143 [t 25,t 26,t 27] 28,M 28 24,E 24 0 29,E 24 1 30,M 29 10,M 30 11]<|
 .block 2 (r [M 11 32,D .neq 32 0 33,M 33 31]<|
 c 31 (r [M 9 34,M 11 35,V .aV 4,M 34 5,M 35 6]<|
 .ret) (r [M 10 37,M 37 38,AT 0 2 39 38,AT 3 39 40 38,KT 40 41 38,DT .eql 41 2 42 38,P 38 42 43,M 43 36]<|
 c 36 (r [M 9 44,gB false 1 z0 1 [(0,t 44)] 45,M 45 4,V z0 5,V z0 6]<|
 .ret) (r [M 10 47,M 47 46]<|
 c 46 (R [M 8 48,M 9 49,gB false 1 z0 1 [(0,t 49)] 50,gA false 1 48 50 51,M 51 8]) k)))))<|
 R [D .add 21 1 52,M 52 21])))<|
 r [M 8 53,M 53 4,V z0 5,V z0 6]<|
 .ret):=bF ⟨[],[],[(8,⟨false,1⟩)],[],[],[]⟩
def kT: Of aH 107 54 [.cell 6 true 3] (r [X 0 3,J ze 6]<|
 r [V z0 7]<|
 q (r [A 3 3 8,K 8 9]<|
 .block 0 (q (.block 4 (q (.block 3 (q (.block 2 (q (.block 1 (q (q (r [D .eql 9 5 11,M 11 10]<|
 c 10 (.exit 1) k)<|
 q (r [D .eql 9 4 13,M 13 12]<|
 c 12 (.exit 2) k)<|
 q (r [D .eql 9 6 15,M 15 14]<|
 c 14 (.exit 3) k)<|
 r [D .eql 9 3 17,M 17 16]<|
 c 16 (.exit 4) k)<|
 .exit 0))<|
 q (r [A 4 3 18,K 18 19,M 1 20,M 2 21,C 145 [t 19,t 20,t 21] 22,W 3 6 22]<|
 .ret)<|
 .exit 0))<|
 gR [M 2 23,C 146 [t 23] 24] 24 [M 1 25,gU ze [(0,1,gJ 20),(1,1,t 25)] 26,W 3 6 26]<|
 R [M 2 27,M 2 28,N 28 29,bC (.min (t 29) [gJ 1]) 30,bC (.pC ⟨false,1⟩ (t 27) none (some (t 30))) 31,M 31 2]))<|
 q (r [M 1 32,M 2 33,gU ze [(1,1,t 32),(2,1,t 33)] 34,W 3 6 34]<|
 .ret)<|
 .exit 0))<|
 r [A 2 3 35,K 35 36,M 2 37,C 147 [t 36,t 37] 38,M 38 7]<|
 .exit 0))<|
 gR [M 1 39,N 39 40,D .eql 40 0 41] 41 [gU ze [] 42,W 3 6 42]<|
 q (.draw [M 1 43,M 7 44,M 7 45,D .add 45 1 46,bC (.pC ⟨false,1⟩ (t 43) (some (t 44)) (some (t 46))) 47,M 2 48,M 7 49,M 7 50,D .add 50 1 51,bC (.pC ⟨false,1⟩ (t 48) (some (t 49)) (some (t 51))) 52,gU ze [(1,1,t 47),(2,1,t 52)] 53,W 3 6 53] [])<|
 .ret):=bF
def vT: Of aH 145 32 [.cell 6 true 3] (r [J ze 6]<|
 q (r [M 0 9,D .eql 9 0 10]<|
 c 10 (r [M 2 11,C 191 [t 11,(.c (.fn (.func 192) [] []))] 12]<|
 r [M 1 13,M 2 14,gU ze [(1,1,t 13),(2,1,t 14)] 15,W 3 6 15]<|
 .ret) k)<|
 r [M 0 17,M 2 18,C 195 [t 17,t 18] 19,M 19 16,E 16 0 20,E 16 1 21,J ie 7,W 3 7 20,M 21 8]<|
 gR [M 8 22,D .neq 22 0 23] 23 [M 8 24,M 1 25,gU ze [(0,1,t 24),(1,1,t 25)] 26,W 3 6 26]<|
 r [M 1 27,L 3 7 28,gB true 3 (.agg ie) 1 [(0,t 28)] 29,gB false 1 .aV 1 [(0,t 29)] 30,gU ze [(1,1,t 27),(2,1,t 30)] 31,W 3 6 31]<|
 .ret):=bF
def JY: Of aH 192 8 [.tmp 4] (r [V z0 4]<|
 r [M 0 5,M 1 6,C 193 [t 5,t 6,(.c (.fn (.func 194) [] []))] 7,M 7 4]<|
 .ret):=bF
def Sp: Of aH 147 49 [.tmp 4] (r [V z0 4]<|
 r [V z0 5]<|
 q (r [M 1 10,N 10 11,V z0 12]<|
 .block 0 (.loop (r [B .lss 12 11 13]<|
 q (c 13 k (.exit 0))<|
 q (.block 1 (r [M 12 14,M 14 6]<|
 r [V z0 7]<|
 q (r [M 0 15,N 15 16,V z0 17]<|
 .block 2 (.loop (r [B .lss 17 16 18]<|
 q (c 18 k (.exit 2))<|
 q (.block 3 (r [M 17 19,I true 3 15 17 20,L 3 20 21,J Bg 9,M 19 8,W 3 9 21]<|
 r [M 7 22,D .eql 22 0 23]<|
 c 23 (.draw [L 3 9 24,M 1 25,M 6 26,I false 1 25 26 27,K 27 28,M 8 29,I true 3 28 29 30,L 3 30 31,Q 198 [t 24,t 31] 32,L 3 9 33,M 1 34,M 5 35,I false 1 34 35 36,K 36 37,M 8 38,I true 3 37 38 39,L 3 39 40,Q 198 [t 33,t 40] 41,Q 197 [t 32,t 41] 42,M 42 7] []) k))<|
 R [D .add 17 1 43,M 43 17])))<|
 r [M 7 44,D .lss 44 0 45]<|
 c 45 (R [M 6 46,M 46 5]) k))<|
 R [D .add 12 1 47,M 47 12])))<|
 r [M 5 48,M 48 4]<|
 .ret):=bF
def Sq: Of aH 143 45 [.tmp 6,.tmp 7] (r [X 0 3,gF 6,V z0 7]<|
 q (r [A 6 3 12,K 12 13,M 1 14,I true 2 13 14 15,A 0 15 16,K 16 17,N 17 18,V z0 19]<|
 .block 0 (.loop (r [B .lss 19 18 20]<|
 q (c 20 k (.exit 0))<|
 q (.block 1 (r [M 19 21,I true 3 17 19 22,L 3 22 23,J wZ 9,M 21 8,W 3 9 23]<|
 q (.draw [L 3 9 25,M 2 26,M 8 27,I true 3 26 27 28,L 3 28 29,A 0 3 30,A 1 30 31,K 31 32,M 2 33,Q 187 [t 25,t 29,t 32,t 33] 34,M 34 24,E 24 0 35,E 24 1 36,M 35 10,M 36 11] [])<|
 r [M 11 37,D .neq 37 0 38,M 38 39,MF 10 40 39,UF 40 41 39,O 39 41 42]<|
 c 42 (r [M 11 43,gF 6,M 43 7]<|
 .ret) k))<|
 R [D .add 19 1 44,M 44 19])))<|
 r [gT 6,V z0 7]<|
 .ret):=bF
def US: Of aH 195 52 [.cell 4 true 3,.tmp 5] (r [J ie 4,V z0 5]<|
 r [bC (.lE ⟨true,3⟩) 6]<|
 q (r [M 1 9,N 9 10,V z0 11]<|
 .block 0 (.loop (r [B .lss 11 10 12]<|
 q (c 12 k (.exit 0))<|
 q (.block 1 (r [I false 1 9 11 13,K 13 14,M 14 8]<|
 r [M 8 15,gI true 3 15 0 16,A 0 16 17,K 17 18,D .neq 18 0 19]<|
 c 19 (R [M 6 20,M 8 21,gI true 3 21 0 22,L 3 22 23,gB true 3 (.agg ie) 1 [(0,t 23)] 24,gA true 3 20 24 25,M 25 6]) k))<|
 R [D .add 11 1 26,M 26 11])))<|
 q (.block 2 (r [M 0 28,D .eql 28 4 29,M 29 27]<|
 c 27 (r [M 1 30,N 30 31,gU ie [(0,1,gJ 1),(1,1,t 31)] 32,W 3 4 32,V z0 5]<|
 .ret) (r [M 0 34,D .eql 34 1 35,M 35 33]<|
 c 33 (r [M 6 36,C 240 [t 36] 37,E 37 0 38,E 37 1 39,W 3 4 38,M 39 5]<|
 .ret) (r [M 6 41,N 41 42,D .eql 42 0 43,M 43 40]<|
 c 40 (r [gU ie [] 44,W 3 4 44,V z0 5]<|
 .ret) (r [M 0 46,D .eql 46 2 47,M 47 45]<|
 c 45 (r [M 6 48,C 241 [t 48,(.c (.fn (.func 194) [] []))] 49,W 3 4 49,V z0 5]<|
 .ret) k)))))<|
 r [M 6 50,C 242 [t 50,(.c (.fn (.func 194) [] []))] 51,W 3 4 51,V z0 5]<|
 .ret):=bF ⟨[],[],[(6,⟨true,3⟩)],[],[],[]⟩
def Sr: Of aH 198 16 [.tmp 4] (r [X 0 2,X 1 3,V z0 4]<|
 q (r [A 2 2 6,K 6 7,L 3 3 8,C 218 [t 7,t 8] 9,M 9 5]<|
 r [M 5 10,D .geq 10 0 11]<|
 c 11 (r [M 5 12,M 12 4]<|
 .ret) k)<|
 r [A 2 2 13,K 13 14,N 14 15,M 15 4]<|
 .ret):=bF
def LL: Of aH 240 32 [.cell 2 true 3,.tmp 3] (r [J ie 2,V z0 3]<|
 gR [M 0 8,N 8 9,D .eql 9 0 10] 10 [gU ie [] 11,W 3 2 11,V z0 3]<|
 r [V z0 4]<|
 q (r [M 0 12,N 12 13,V z0 14]<|
 .block 0 (.loop (r [B .lss 14 13 15]<|
 q (c 15 k (.exit 0))<|
 q (.block 1 (r [I true 3 12 14 16,L 3 16 17,J ie 6,W 3 6 17]<|
 r [V z0 7]<|
 r [M 4 19,A 1 6 20,K 20 21,C 267 [t 19,t 21] 22,M 22 18,E 18 0 23,E 18 1 24,M 23 4,M 24 7]<|
 r [M 7 25,D .neq 25 0 26]<|
 c 26 (r [gU ie [] 27,M 7 28,W 3 2 27,M 28 3]<|
 .ret) k))<|
 R [D .add 14 1 29,M 29 14])))<|
 r [M 4 30,gU ie [(0,1,gJ 1),(1,1,t 30)] 31,W 3 2 31,V z0 3]<|
 .ret):=bF
def UU: Of aH 106 58 [.tmp 6,.tmp 7,.tmp 8] (r [X 0 3,V .aV 6,V z0 7,V z0 8]<|
 r [bC (.lE ⟨false,1⟩) 9]<|
 q (r [M 1 17,N 17 18,V z0 19]<|
 .block 0 (.loop (r [B .lss 19 18 20]<|
 q (c 20 k (.exit 0))<|
 q (.block 1 (r [I false 1 17 19 21,K 21 22,M 22 11]<|
 r [bC (.lE ⟨true,3⟩) 12]<|
 q (r [A 6 3 23,K 23 24,M 11 25,I true 2 24 25 26,A 1 26 27,K 27 28,N 28 29,V z0 30]<|
 .block 2 (.loop (r [B .lss 30 29 31]<|
 q (c 31 k (.exit 2))<|
 q (.block 3 (r [I true 6 28 30 32,L 6 32 33,J jP 14,W 6 14 33]<|
 r [L 6 14 35,A 0 3 36,A 1 36 37,K 37 38,M 2 39,C 144 [t 35,t 38,t 39] 40,M 40 34,E 34 0 41,E 34 1 42,J ie 15,W 3 15 41,M 42 16]<|
 gR [M 16 43,D .neq 43 0 44] 44 [M 11 45,M 16 46,V .aV 6,M 45 7,M 46 8]<|
 R [M 12 47,L 3 15 48,gB true 3 (.agg ie) 1 [(0,t 48)] 49,gA true 3 47 49 50,M 50 12]))<|
 R [D .add 30 1 51,M 51 30])))<|
 R [M 9 52,bC (.ex .ZU [t 12]) 53,gB false 1 .aV 1 [(0,t 53)] 54,gA false 1 52 54 55,M 55 9]))<|
 R [D .add 19 1 56,M 56 19])))<|
 r [M 9 57,M 57 6,V z0 7,V z0 8]<|
 .ret):=bF ⟨[],[53],[(9,⟨false,1⟩),(12,⟨true,3⟩)],[],[],[]⟩
def QI: Of aH 146 6 [.tmp 2] (r [X 0 1,gF 2]<|
 r [K 1 3,bC (.tU (.func 196) [] [t 1]) 4,C 98 [t 3,t 4] 5,M 5 2]<|
 .ret):=bF
def LM: Of aH 196 10 [.tmp 3] (r [gF 3]<|
 r [M 0 4,K 1 5,gI false 1 5 0 6,K 6 7,C 66 [t 4,t 7] 8,U 8 9,M 9 3]<|
 .ret):=bF
def LN: Of aH 219 52 [.tmp 2,.tmp 3,.tmp 4] (r [V .aV 2,V z0 3,V z0 4]<|
 .scope 0 (gR [M 0 9,S 9 10,D .gtr 10 200 11] 11 [V .aV 2,V z0 3,V (i6 5) 4]<|
 r [bC (.lE ⟨true,4⟩) 5]<|
 r [V z0 6]<|
 q (.label 0)<|
 q (.block 0 (.loop (.block 1 (q (gL 2 [M 6 12,M 0 13,S 13 14,B .lss 12 14 15,M 15 16,MT 0 17 16,MT 6 18 16,⟨.oW (t 17) (t 18),(some 19),some (16,true)⟩,⟨.bin .eql (t 19) (.c (.int .u8 32)),(some 20),some (16,true)⟩,P 16 20 21] 21 ((
 .block 3 (R [M 6 22,D .add 22 1 23,M 23 6]))))<|
 q (r [M 6 24,M 0 25,S 25 26,B .eql 24 26 27]<|
 c 27 (.exit 0) k)<|
 r [M 0 29,M 6 30,bC (.yY (t 29) (some (t 30)) none) 31,C 251 [t 31] 32,M 32 28,E 28 0 33,E 28 1 34,J uO 7,W 5 7 33,M 34 8]<|
 gR [M 8 35,D .neq 35 0 36] 36 [M 6 37,M 8 38,V .aV 2,M 37 3,M 38 4]<|
 r [M 6 39,A 0 7 40,A 3 40 41,W 1 41 39]<|
 r [M 5 42,A 0 7 43,L 4 43 44,gB true 4 (.agg Bf) 1 [(0,t 44)] 45,gA true 4 42 45 46,M 46 5]<|
 R [M 6 47,A 4 7 48,K 48 49,B .add 47 49 50,M 50 6]))))<|
 r [M 5 51,M 51 2,V z0 3,V z0 4]<|
 .ret) (.seq k <|
 q (.block 0 (.loop (.block 1 (q (gL 2 [M 6 12,M 0 13,S 13 14,B .lss 12 14 15,M 15 16,MT 0 17 16,MT 6 18 16,⟨.oW (t 17) (t 18),(some 19),some (16,true)⟩,⟨.bin .eql (t 19) (.c (.int .u8 32)),(some 20),some (16,true)⟩,P 16 20 21] 21 ((
 .block 3 (R [M 6 22,D .add 22 1 23,M 23 6]))))<|
 q (r [M 6 24,M 0 25,S 25 26,B .eql 24 26 27]<|
 c 27 (.exit 0) k)<|
 r [M 0 29,M 6 30,bC (.yY (t 29) (some (t 30)) none) 31,C 251 [t 31] 32,M 32 28,E 28 0 33,E 28 1 34,J uO 7,W 5 7 33,M 34 8]<|
 gR [M 8 35,D .neq 35 0 36] 36 [M 6 37,M 8 38,V .aV 2,M 37 3,M 38 4]<|
 r [M 6 39,A 0 7 40,A 3 40 41,W 1 41 39]<|
 r [M 5 42,A 0 7 43,L 4 43 44,gB true 4 (.agg Bf) 1 [(0,t 44)] 45,gA true 4 42 45 46,M 46 5]<|
 R [M 6 47,A 4 7 48,K 48 49,B .add 47 49 50,M 50 6]))))<|
 r [M 5 51,M 51 2,V z0 3,V z0 4]<|
 .ret)):=bF ⟨[],[],[(5,⟨true,4⟩)],[],[],[]⟩
def UW: Of aH 36 22 [.tmp 2] (r [gF 2]<|
 r [M 0 3,bC (.bin .neq (t 3) (.c e0)) 4,M 4 5,MT 0 6 5,CT 57 [t 6] 7 5,MT 0 8 5,ST 8 9 5,BT .eql 7 9 10 5,P 5 10 11,M 11 12,MT 0 13 12,ST 13 14 12,DT .leq 14 16 15 12,P 12 15 16,M 16 17,MT 0 18 17,CT 58 [t 18] 19 17,UT 19 20 17,P 17 20 21,M 21 2]<|
 .ret):=bF
def Ss: Of aH 95 9 [.tmp 2] (r [gF 2]<|
 r [M 0 3,bC (.bin .geq (t 3) (.c (.int .u8 48))) 4,M 4 5,MT 0 6 5,⟨.bin .leq (t 6) (.c (.int .u8 57)),(some 7),some (5,true)⟩,P 5 7 8,M 8 2]<|
 .ret):=bF
def QJ: Of aH 92 15 [.tmp 2] (r [gF 2]<|
 r [M 0 3,bC (.bin .or (t 3) (.c (.int .u8 32))) 4,bC (.bin .geq (t 4) (.c (.int .u8 97))) 5,M 5 6,MT 0 7 6,⟨.bin .or (t 7) (.c (.int .u8 32)),(some 8),some (6,true)⟩,⟨.bin .leq (t 8) (.c (.int .u8 122)),(some 9),some (6,true)⟩,P 6 9 10,M 10 11,MF 0 12 11,⟨.bin .eql (t 12) (.c (.int .u8 95)),(some 13),some (11,false)⟩,O 11 13 14,M 14 2]<|
 .ret):=bF
def IB: Of aH 273 24 [.cell 2 true 5,.tmp 3] (r [X 0 1,J uO 2,V z0 3]<|
 r [C 292 [] 6,M 6 4]<|
 r [M 4 7,bC (.tU (.func 294) [] [t 1]) 8,C 293 [t 7,t 8] 9,M 9 5]<|
 gR [M 5 10,D .lss 10 0 11] 11 [gU uO [] 12,W 5 2 12,V (i6 11) 3]<|
 q (.draw [M 4 13,M 5 14,I false 1 13 14 15,K 15 16,gU Bf [(0,1,gJ 4),(1,1,t 16)] 17,M 4 18,M 5 19,I false 1 18 19 20,K 20 21,S 21 22,gU uO [(0,4,t 17),(4,1,t 22)] 23,W 5 2 23,V z0 3] [])<|
 .ret):=bF
def QK: Of aH 294 7 [.tmp 3] (r [gF 3]<|
 r [K 1 4,M 0 5,C 87 [t 4,t 5] 6,M 6 3]<|
 .ret):=bF
def St: Of aH 292 2 [.tmp 0] (r [V .aV 0]<|
 r [gB false 1 e0 16 [(0,gS [46,46]),(1,gS [33,61]),(2,gS [60,61]),(3,gS [62,61]),(4,gS [40]),(5,gS [41]),(6,gS [91]),(7,gS [93]),(8,gS [44]),(9,gS [43]),(10,gS [45]),(11,gS [42]),(12,gS [47]),(13,gS [61]),(14,gS [60]),(15,gS [62])] 1,M 1 0]<|
 .ret):=bF
def UX: Of aH 270 16 [.cell 2 true 5,.tmp 3] (r [J uO 2,V z0 3]<|
 r [M 0 5,C 57 [t 5] 6,M 6 4]<|
 gR [M 4 7,D .gtr 7 16 8] 8 [gU uO [] 9,W 5 2 9,V (i6 5) 3]<|
 r [M 0 10,M 4 11,bC (.yY (t 10) none (some (t 11))) 12,gU Bf [(0,1,gJ 1),(1,1,t 12)] 13,M 4 14,gU uO [(0,4,t 13),(4,1,t 14)] 15,W 5 2 15,V z0 3]<|
 .ret):=bF
def UY: Of aH 251 32 [.cell 2 true 5,.tmp 3] (r [J uO 2,V z0 3]<|
 q (r [M 0 5,bC (.oW (t 5) (.c z0)) 6,M 6 4]<|
 .block 0 (r [M 4 8,C 92 [t 8] 9,M 9 7]<|
 c 7 (r [M 0 10,C 270 [t 10] 11,E 11 0 12,E 11 1 13,W 5 2 12,M 13 3]<|
 .ret) (r [M 4 15,C 95 [t 15] 16,M 16 14]<|
 c 14 (r [M 0 17,C 271 [t 17] 18,E 18 0 19,E 18 1 20,W 5 2 19,M 20 3]<|
 .ret) (r [M 4 22,bC (.bin .eql (t 22) (.c (.int .u8 34))) 23,M 23 21]<|
 c 21 (r [M 0 24,C 272 [t 24] 25,E 25 0 26,E 25 1 27,W 5 2 26,M 27 3]<|
 .ret) k))))<|
 r [M 0 28,C 273 [t 28] 29,E 29 0 30,E 29 1 31,W 5 2 30,M 31 3]<|
 .ret):=bF
def QL: Of aH 271 42 [.cell 2 true 5,.tmp 3] (r [J uO 2,V z0 3]<|
 r [M 0 8,C 93 [t 8,(.c (.fn (.func 95) [] []))] 9,M 9 4]<|
 gR [M 4 10,D .gtr 10 1 11,M 11 12,MT 0 13 12,⟨.oW (t 13) (.c z0),(some 14),some (12,true)⟩,⟨.bin .eql (t 14) (.c (.int .u8 48)),(some 15),some (12,true)⟩,P 12 15 16] 16 [gU uO [] 17,W 5 2 17,V (i6 11) 3]<|
 r [V z0 5]<|
 q (r [M 4 18,V z0 19]<|
 .block 0 (.loop (r [B .lss 19 18 20]<|
 q (c 20 k (.exit 0))<|
 q (.block 1 (r [M 19 21,M 21 6]<|
 r [M 0 22,M 6 23,bC (.oW (t 22) (t 23)) 24,bC (.bin .sub (t 24) (.c (.int .u8 48))) 25,bC (.jX .i64 (t 25)) 26,M 26 7]<|
 gR [M 5 27,M 7 28,bC (.bin .sub (gJ 9223372036854775807) (t 28)) 29,D .quo 29 10 30,B .gtr 27 30 31] 31 [gU uO [] 32,W 5 2 32,V (i6 15) 3]<|
 R [M 5 33,D .mul 33 10 34,M 7 35,B .add 34 35 36,M 36 5]))<|
 R [D .add 19 1 37,M 37 19])))<|
 r [M 5 38,gU Bf [(0,1,gJ 2),(2,1,t 38)] 39,M 4 40,gU uO [(0,4,t 39),(4,1,t 40)] 41,W 5 2 41,V z0 3]<|
 .ret):=bF
def LO: Of aH 58 14 [.tmp 2] (r [gF 2]<|
 q (r [M 0 3]<|
 .block 0 (q (r [bC (.bin .eql (t 3) (gS [97,110,100])) 5,M 5 4]<|
 c 4 k (r [bC (.bin .eql (t 3) (gS [111,114])) 6,M 6 4]<|
 c 4 k (r [bC (.bin .eql (t 3) (gS [110,111,116])) 7,M 7 4]<|
 c 4 k (r [bC (.bin .eql (t 3) (gS [105,102])) 8,M 8 4]<|
 c 4 k (r [bC (.bin .eql (t 3) (gS [116,104,101,110])) 9,M 9 4]<|
 c 4 k (r [bC (.bin .eql (t 3) (gS [101,108,115,101])) 10,M 10 4]<|
 c 4 k (r [bC (.bin .eql (t 3) (gS [116,114,117,101])) 11,M 11 4]<|
 c 4 k (r [bC (.bin .eql (t 3) (gS [102,97,108,115,101])) 12,M 12 4]<|
 c 4 k (R [bC (.bin .eql (t 3) (gS [110,117,108,108])) 13,M 13 4])))))))))<|
 c 4 (r [gT 2]<|
 .ret) k))<|
 r [gF 2]<|
 .ret):=bF
def Yi: Of aH 93 21 [.tmp 4] (r [V z0 4]<|
 q (r [M 0 6,S 6 7,V z0 8]<|
 .block 0 (.loop (r [B .lss 8 7 9]<|
 q (c 9 k (.exit 0))<|
 q (.block 1 (r [M 8 10,M 10 5]<|
 r [M 1 11,M 0 12,M 5 13,bC (.oW (t 12) (t 13)) 14,bC (.call false (t 11) [t 14]) 15,U 15 16]<|
 c 16 (r [M 5 17,M 17 4]<|
 .ret) k))<|
 R [D .add 8 1 18,M 18 8])))<|
 r [M 0 19,S 19 20,M 20 4]<|
 .ret):=bF
def UZ: Of aH 272 71 [.cell 2 true 5,.tmp 3] (r [J uO 2,V z0 3]<|
 r [bC (.lE ⟨false,1⟩) 4]<|
 q (r [V (i6 1) 5]<|
 gL 0 [M 5 7,M 0 8,S 8 9,B .lss 7 9 10] 10 ((
 q (.block 1 (r [M 0 13,M 5 14,bC (.oW (t 13) (t 14)) 15,M 15 6]<|
 q (.block 2 (r [M 6 17,bC (.bin .eql (t 17) (.c (.int .u8 34))) 18,M 18 19,MT 4 20 19,NT 20 21 19,DT .gtr 21 40 22 19,P 19 22 23,M 23 16]<|
 c 16 (r [gU uO [] 24,W 5 2 24,V (i6 5) 3]<|
 .ret) (r [M 6 26,bC (.bin .eql (t 26) (.c (.int .u8 34))) 27,M 27 25]<|
 c 25 (r [M 4 28,bC (.yX (t 28)) 29,gU Bf [(0,1,gJ 3),(1,1,t 29)] 30,M 5 31,D .add 31 1 32,gU uO [(0,4,t 30),(4,1,t 32)] 33,W 5 2 33,V z0 3]<|
 .ret) (r [M 6 35,bC (.bin .eql (t 35) (.c (.int .u8 92))) 36,M 36 34]<|
 c 34 (r [M 5 37,D .add 37 1 38,M 38 5]<|
 r [M 5 39,M 0 40,S 40 41,B .eql 39 41 42,M 42 43,MF 0 44 43,MF 5 45 43,⟨.oW (t 44) (t 45),(some 46),some (43,false)⟩,⟨.bin .neq (t 46) (.c (.int .u8 34)),(some 47),some (43,false)⟩,MF 47 48 43,MT 0 49 48,MT 5 50 48,⟨.oW (t 49) (t 50),(some 51),some (48,true)⟩,⟨.bin .neq (t 51) (.c (.int .u8 92)),(some 52),some (48,true)⟩,PF 48 52 53 43,O 43 53 54]<|
 c 54 (r [gU uO [] 55,W 5 2 55,V (i6 11) 3]<|
 .ret) k) (r [M 6 57,bC (.bin .lss (t 57) (.c (.int .u8 32))) 58,M 58 59,MF 6 60 59,⟨.bin .gtr (t 60) (.c (.int .u8 126)),(some 61),some (59,false)⟩,O 59 61 62,M 62 56]<|
 c 56 (r [gU uO [] 63,W 5 2 63,V (i6 11) 3]<|
 .ret) k)))))<|
 R [M 4 64,M 0 65,M 5 66,bC (.oW (t 65) (t 66)) 67,gB false 1 (.int .u8 0) 1 [(0,t 67)] 68,gA false 1 64 68 69,M 69 4]))<|
 R [M 5 11,D .add 11 1 12,M 12 5])))<|
 r [gU uO [] 70,W 5 2 70,V (i6 11) 3]<|
 .ret):=bF ⟨[],[],[(4,⟨false,1⟩)],[],[],[]⟩
def U0: Of aH 57 13 [.tmp 2] (r [V z0 2]<|
 gR [M 0 3,bC (.bin .eql (t 3) (.c e0)) 4,M 4 5,MF 0 6 5,⟨.oW (t 6) (.c z0),(some 7),some (5,false)⟩,CF 92 [t 7] 8 5,UF 8 9 5,O 5 9 10] 10 [V z0 2]<|
 r [M 0 11,C 93 [t 11,(.c (.fn (.func 94) [] []))] 12,M 12 2]<|
 .ret):=bF
def QM: Of aH 94 9 [.tmp 2] (r [gF 2]<|
 r [M 0 3,C 92 [t 3] 4,M 4 5,MF 0 6 5,CF 95 [t 6] 7 5,O 5 7 8,M 8 2]<|
 .ret):=bF
def Sv: Of aH 8 5 [.tmp 0] (r [V .gO 0]<|
 r [bC (.ex .C2 []) 1,C 30 [] 2,gU [.iS,z0,z0,e0,e0,.aV] [(0,1,t 1),(1,4,t 2)] 3,X 3 4,M 4 0]<|
 .ret):=bF
def Sw: Of aH 61 24 [.tmp 2] (r [V e0 2]<|
 r [M 0 5,C 100 [t 5] 6,M 6 3]<|
 r [bC (.oX ⟨false,1⟩ (.int .u8 0) (.c z0) (gJ 10)) 7,M 7 4]<|
 q (gL 0 [M 3 8,bC (.bin .geq (t 8) (.c (.int .u64 128))) 9] 9 ((
 .block 1 (r [M 4 10,M 3 11,C 101 [t 11] 12,bC (.bin .or (t 12) (.c (.int .u8 128))) 13,gB false 1 (.int .u8 0) 1 [(0,t 13)] 14,gA false 1 10 14 15,M 15 4]<|
 R [M 3 16,bC (.bin .shr (t 16) (.c (.int .u64 7))) 17,M 17 3]))))<|
 r [M 4 18,M 3 19,C 101 [t 19] 20,gB false 1 (.int .u8 0) 1 [(0,t 20)] 21,gA false 1 18 21 22,bC (.yX (t 22)) 23,M 23 2]<|
 .ret):=bF
def QN: Of aH 60 8 [.tmp 2] (r [V e0 2]<|
 r [M 0 3,S 3 4,C 61 [t 4] 5,M 0 6,B .add 5 6 7,M 7 2]<|
 .ret):=bF
def QO: Of aH 100 10 [.tmp 2] (r [V (.int .u64 0) 2]<|
 r [M 0 3,bC (.jX .u64 (t 3)) 4,bC (.bin .shl (t 4) (.c (.int .u64 1))) 5,M 0 6,bC (.bin .shr (t 6) (.c (.int .u64 63))) 7,bC (.jX .u64 (t 7)) 8,B .xor 5 8 9,M 9 2]<|
 .ret):=bF
def Fb: Of aH 101 6 [.tmp 2] (r [V (.int .u8 0) 2]<|
 r [M 0 3,bC (.jX .u8 (t 3)) 4,bC (.bin .and (t 4) (.c (.int .u8 127))) 5,M 5 2]<|
 .ret):=bF
def Sx: Of aH 42 18 [.tmp 4] (r [V e0 4]<|
 q (r [M 1 7,N 7 8,V z0 9]<|
 .block 0 (.loop (r [B .lss 9 8 10]<|
 q (c 10 k (.exit 0))<|
 q (.block 1 (r [I false 1 7 9 11,K 11 12,M 12 6]<|
 R [M 0 13,M 6 14,C 47 [t 13,t 14] 15,M 15 0]))<|
 R [D .add 9 1 16,M 16 9])))<|
 r [M 0 17,M 17 4]<|
 .ret):=bF
def U1: Of aH 47 9 [.tmp 4] (r [V e0 4]<|
 r [M 0 5,M 1 6,gB false 1 e0 2 [(0,t 5),(1,t 6)] 7,C 73 [t 7] 8,M 8 4]<|
 .ret):=bF
def Yj: Of aH 73 19 [.tmp 2] (r [V e0 2]<|
 r [C 113 [] 6,M 6 3]<|
 q (r [M 0 7,N 7 8,V z0 9]<|
 .block 0 (.loop (r [B .lss 9 8 10]<|
 q (c 10 k (.exit 0))<|
 q (.block 1 (r [I false 1 7 9 11,K 11 12,M 12 5]<|
 R [M 3 13,M 5 14,C 114 [t 13,t 14] 15]))<|
 R [D .add 9 1 16,M 16 9])))<|
 r [M 3 17,C 115 [t 17] 18,M 18 2]<|
 .ret):=bF
def Sy: Of aH 113 5 [.tmp 0] (r [V .gO 0]<|
 r [gU aie [(0,1,(.c (.int .u32 1779033703))),(1,1,(.c (.int .u32 3144134277))),(2,1,(.c (.int .u32 1013904242))),(3,1,(.c (.int .u32 2773480762))),(4,1,(.c (.int .u32 1359893119))),(5,1,(.c (.int .u32 2600822924))),(6,1,(.c (.int .u32 528734635))),(7,1,(.c (.int .u32 1541459225)))] 1,C 148 [] 2,gU [(.int .u32 0),(.int .u32 0),(.int .u32 0),(.int .u32 0),(.int .u32 0),(.int .u32 0),(.int .u32 0),(.int .u32 0),.aV,z0,(.int .u32 0),(.int .u32 0),(.int .u32 0),(.int .u32 0),(.int .u32 0),(.int .u32 0),(.int .u32 0),(.int .u32 0),(.int .u32 0),(.int .u32 0),(.int .u32 0),(.int .u32 0),(.int .u32 0),(.int .u32 0),(.int .u32 0),(.int .u32 0),(.int .u32 0),(.int .u32 0),(.int .u32 0),(.int .u32 0),(.int .u32 0),(.int .u32 0),(.int .u32 0),(.int .u32 0),(.int .u32 0),(.int .u32 0),(.int .u32 0),(.int .u32 0),(.int .u32 0),(.int .u32 0),(.int .u32 0),(.int .u32 0),(.int .u32 0),(.int .u32 0),(.int .u32 0),(.int .u32 0),(.int .u32 0),(.int .u32 0),(.int .u32 0),(.int .u32 0),(.int .u32 0),(.int .u32 0),(.int .u32 0),(.int .u32 0),(.int .u32 0),(.int .u32 0),(.int .u32 0),(.int .u32 0),(.int .u32 0),(.int .u32 0),(.int .u32 0),(.int .u32 0),(.int .u32 0),(.int .u32 0),(.int .u32 0),(.int .u32 0),(.int .u32 0),(.int .u32 0),(.int .u32 0),(.int .u32 0),(.int .u32 0),(.int .u32 0),(.int .u32 0),(.int .u32 0)] [(0,8,t 1),(10,64,t 2)] 3,X 3 4,M 4 0]<|
 .ret):=bF
def JZ: Of aH 148 2 [.cell 0 true 64] (r [J ads 0]<|
 r [gU ads [(0,1,(.c (.int .u32 1116352408))),(1,1,(.c (.int .u32 1899447441))),(2,1,(.c (.int .u32 3049323471))),(3,1,(.c (.int .u32 3921009573))),(4,1,(.c (.int .u32 961987163))),(5,1,(.c (.int .u32 1508970993))),(6,1,(.c (.int .u32 2453635748))),(7,1,(.c (.int .u32 2870763221))),(8,1,(.c (.int .u32 3624381080))),(9,1,(.c (.int .u32 310598401))),(10,1,(.c (.int .u32 607225278))),(11,1,(.c (.int .u32 1426881987))),(12,1,(.c (.int .u32 1925078388))),(13,1,(.c (.int .u32 2162078206))),(14,1,(.c (.int .u32 2614888103))),(15,1,(.c (.int .u32 3248222580))),(16,1,(.c (.int .u32 3835390401))),(17,1,(.c (.int .u32 4022224774))),(18,1,(.c (.int .u32 264347078))),(19,1,(.c (.int .u32 604807628))),(20,1,(.c (.int .u32 770255983))),(21,1,(.c (.int .u32 1249150122))),(22,1,(.c (.int .u32 1555081692))),(23,1,(.c (.int .u32 1996064986))),(24,1,(.c (.int .u32 2554220882))),(25,1,(.c (.int .u32 2821834349))),(26,1,(.c (.int .u32 2952996808))),(27,1,(.c (.int .u32 3210313671))),(28,1,(.c (.int .u32 3336571891))),(29,1,(.c (.int .u32 3584528711))),(30,1,(.c (.int .u32 113926993))),(31,1,(.c (.int .u32 338241895))),(32,1,(.c (.int .u32 666307205))),(33,1,(.c (.int .u32 773529912))),(34,1,(.c (.int .u32 1294757372))),(35,1,(.c (.int .u32 1396182291))),(36,1,(.c (.int .u32 1695183700))),(37,1,(.c (.int .u32 1986661051))),(38,1,(.c (.int .u32 2177026350))),(39,1,(.c (.int .u32 2456956037))),(40,1,(.c (.int .u32 2730485921))),(41,1,(.c (.int .u32 2820302411))),(42,1,(.c (.int .u32 3259730800))),(43,1,(.c (.int .u32 3345764771))),(44,1,(.c (.int .u32 3516065817))),(45,1,(.c (.int .u32 3600352804))),(46,1,(.c (.int .u32 4094571909))),(47,1,(.c (.int .u32 275423344))),(48,1,(.c (.int .u32 430227734))),(49,1,(.c (.int .u32 506948616))),(50,1,(.c (.int .u32 659060556))),(51,1,(.c (.int .u32 883997877))),(52,1,(.c (.int .u32 958139571))),(53,1,(.c (.int .u32 1322822218))),(54,1,(.c (.int .u32 1537002063))),(55,1,(.c (.int .u32 1747873779))),(56,1,(.c (.int .u32 1955562222))),(57,1,(.c (.int .u32 2024104815))),(58,1,(.c (.int .u32 2227730452))),(59,1,(.c (.int .u32 2361852424))),(60,1,(.c (.int .u32 2428436474))),(61,1,(.c (.int .u32 2756734187))),(62,1,(.c (.int .u32 3204031479))),(63,1,(.c (.int .u32 3329325298)))] 1,W 64 0 1]<|
 .ret):=bF
def U2: Of aH 200 9 [.tmp 4] (r [V (.int .u32 0) 4]<|
 r [M 0 5,M 1 6,bC (.un .neg (t 6)) 7,C 244 [t 5,t 7] 8,M 8 4]<|
 .ret):=bF
def QS: Of aH 199 100 [] (q (r [V z0 8]<|
 .block 0 (.loop (r [D .lss 8 16 9]<|
 q (c 9 k (.exit 0))<|
 q (.block 1 (r [M 8 10,M 10 4]<|
 .draw [M 1 11,M 4 12,M 0 13,M 4 14,bC (.bin .mul (gJ 4) (t 14)) 15,I false 1 13 15 16,K 16 17,bC (.jX .u32 (t 17)) 18,bC (.bin .shl (t 18) (.c (.int .u64 24))) 19,M 0 20,M 4 21,bC (.bin .mul (gJ 4) (t 21)) 22,D .add 22 1 23,I false 1 20 23 24,K 24 25,bC (.jX .u32 (t 25)) 26,bC (.bin .shl (t 26) (.c (.int .u64 16))) 27,B .or 19 27 28,M 0 29,M 4 30,bC (.bin .mul (gJ 4) (t 30)) 31,D .add 31 2 32,I false 1 29 32 33,K 33 34,bC (.jX .u32 (t 34)) 35,bC (.bin .shl (t 35) (.c (.int .u64 8))) 36,B .or 28 36 37,M 0 38,M 4 39,bC (.bin .mul (gJ 4) (t 39)) 40,D .add 40 3 41,I false 1 38 41 42,K 42 43,bC (.jX .u32 (t 43)) 44,B .or 37 44 45,Z 11 46,bC (.fA ⟨false,1⟩ (some 64) (t 46) (t 12)) 47,W 1 47 45] []))<|
 R [D .add 8 1 48,M 48 8])))<|
 r [V (i6 16) 5]<|
 gL 2 [M 5 49,D .lss 49 64 50] 50 ((
 q (.block 3 (q (.draw [M 1 53,M 5 54,D .sub 54 15 55,Z 53 56,bC (.fA ⟨false,1⟩ (some 64) (t 56) (t 55)) 57,K 57 58,M 1 59,M 5 60,D .sub 60 2 61,Z 59 62,bC (.fA ⟨false,1⟩ (some 64) (t 62) (t 61)) 63,K 63 64,M 58 6,M 64 7] [])<|
 .draw [M 1 65,M 5 66,M 1 67,M 5 68,D .sub 68 16 69,Z 67 70,bC (.fA ⟨false,1⟩ (some 64) (t 70) (t 69)) 71,K 71 72,M 1 73,M 5 74,D .sub 74 7 75,Z 73 76,bC (.fA ⟨false,1⟩ (some 64) (t 76) (t 75)) 77,K 77 78,B .add 72 78 79,M 6 80,Q 200 [t 80,gJ 7] 81,M 6 82,Q 200 [t 82,gJ 18] 83,B .xor 81 83 84,M 6 85,bC (.bin .shr (t 85) (.c (.int .u64 3))) 86,B .xor 84 86 87,B .add 79 87 88,M 7 89,Q 200 [t 89,gJ 17] 90,M 7 91,Q 200 [t 91,gJ 19] 92,B .xor 90 92 93,M 7 94,bC (.bin .shr (t 94) (.c (.int .u64 10))) 95,B .xor 93 95 96,B .add 88 96 97,Z 65 98,bC (.fA ⟨false,1⟩ (some 64) (t 98) (t 66)) 99,W 1 99 97] []))<|
 R [M 5 51,D .add 51 1 52,M 52 5]))):=bF
def LP: Of aH 188 6 [.tmp 2] (r [X 0 1,V z0 2]<|
 gR [L 6 1 3,C 122 [t 3] 4,U 4 5] 5 [V (i6 2) 2]<|
 r [V z0 2]<|
 .ret):=bF
def Nz: Of aH 123 20 [.tmp 2] (r [X 0 1,V z0 2]<|
 r [V z0 3]<|
 q (r [A 5 1 6,K 6 7,N 7 8,V z0 9]<|
 .block 0 (.loop (r [B .lss 9 8 10]<|
 q (c 10 k (.exit 0))<|
 q (.block 1 (r [I true 6 7 9 11,L 6 11 12,J jP 5,W 6 5 12]<|
 R [M 3 13,L 6 5 14,C 123 [t 14] 15,bC (.max (t 13) [t 15]) 16,M 16 3]))<|
 R [D .add 9 1 17,M 17 9])))<|
 r [M 3 18,D .add 18 1 19,M 19 2]<|
 .ret):=bF
def ov: Of aH 184 51 [.cell 2 true 6,.tmp 3,.tmp 4] (r [J jP 2,V z0 3,V z0 4]<|
 r [M 0 11,C 219 [t 11] 12,M 12 10,E 10 0 13,E 10 1 14,E 10 2 15,M 13 5,M 14 6,M 15 7]<|
 gR [M 7 16,D .neq 16 0 17] 17 [gU jP [] 18,M 6 19,M 7 20,W 6 2 18,M 19 3,M 20 4]<|
 r [M 5 22,C 224 [t 22,.c z0,.c z0] 23,M 23 21,E 21 0 24,E 21 1 25,E 21 2 26,J jP 8,W 6 8 24,M 25 9,M 26 7]<|
 q (.block 0 (r [M 9 28,M 5 29,N 29 30,B .lss 28 30 31,M 31 27]<|
 c 27 (q (.draw [gU jP [] 32,M 5 33,M 9 34,I true 4 33 34 35,A 3 35 36,K 36 37,W 6 2 32,M 37 3,V (i6 11) 4] [(t 36,t 2)])<|
 .ret) (r [M 7 39,D .neq 39 0 40,M 40 38]<|
 c 38 (r [gU jP [] 41,M 0 42,S 42 43,M 7 44,W 6 2 41,M 43 3,M 44 4]<|
 .ret) (r [L 6 8 46,C 123 [t 46] 47,D .gtr 47 12 48,M 48 45]<|
 c 45 (r [gU jP [] 49,W 6 2 49,V z0 3,V (i6 12) 4]<|
 .ret) k))))<|
 r [L 6 8 50,W 6 2 50,V z0 3,V z0 4]<|
 .ret):=bF
def vU: Of aH 224 49 [.cell 6 true 6,.tmp 7,.tmp 8] (r [J jP 6,V z0 7,V z0 8]<|
 gR [M 1 11,D .lss 11 0 12,M 12 13,MF 1 14 13,MF 0 15 13,NF 15 16 13,BF .gtr 14 16 17 13,O 13 17 18,M 18 19,MF 2 20 19,DF .lss 20 0 21 19,O 19 21 22,M 22 23,MF 2 24 23,DF .gtr 24 7 25 23,O 23 25 26] 26 [gU jP [] 27,W 6 6 27,V z0 7,V (i6 2) 8]<|
 r [M 0 28,M 1 29,gU [.aV,z0,.bool false] [(0,1,t 28),(1,1,t 29)] 30,X 30 31,M 31 9]<|
 r [M 9 32,M 2 33,C 256 [t 32,t 33] 34,J jP 10,W 6 10 34]<|
 q (r [M 9 35,Z 35 36,A 2 36 37,K 37 38]<|
 c 38 (q (.draw [gU jP [] 39,M 9 40,Z 40 41,A 1 41 42,K 42 43,W 6 6 39,M 43 7,V (i6 11) 8] [(t 42,t 6)])<|
 .ret) k)<|
 q (.draw [L 6 10 44,M 9 45,Z 45 46,A 1 46 47,K 47 48,W 6 6 44,M 48 7,V z0 8] [(t 47,t 6)])<|
 .ret):=bF
def NA: Of aH 209 31 [.tmp 4] (r [X 0 2,X 1 3,gF 4]<|
 r [A 0 2 5,K 5 6,A 0 3 7,K 7 8,B .eql 6 8 9,M 9 10,AT 1 2 11 10,LT 3 11 12 10,AT 1 3 13 10,LT 3 13 14 10,⟨.nw false true [.i,.i,.s] (t 12) (t 14),(some 15),some (10,true)⟩,P 10 15 16,M 16 17,AT 4 2 18 17,KT 18 19 17,AT 4 3 20 17,KT 20 21 17,BT .eql 19 21 22 17,P 17 22 23,M 23 24,AT 5 2 25 24,KT 25 26 24,AT 5 3 27 24,KT 27 28 24,CT 246 [t 26,t 28,(.c (.fn (.func 209) [] []))] 29 24,P 24 29 30,M 30 4]<|
 .ret):=bF
def Cc: Of aH 80 27 [.tmp 2,.tmp 3] (r [X 0 1,V e0 2,V z0 3]<|
 q (.block 0 (r [L 6 1 6,C 122 [t 6] 7,U 7 8,M 8 5]<|
 c 5 (r [V e0 2,V (i6 2) 3]<|
 .ret) (r [L 6 1 10,C 123 [t 10] 11,D .gtr 11 12 12,M 12 9]<|
 c 9 (r [V e0 2,V (i6 12) 3]<|
 .ret) k)))<|
 r [gU [.gO,.aV] [] 13,bC (.y4 206 (t 13)) 14,M 14 4]<|
 r [M 4 15,L 6 1 16,C 124 [t 15,t 16,.c z0] 17]<|
 gR [M 4 18,Z 18 19,A 0 19 20,C 90 [t 20] 21,D .gtr 21 200 22] 22 [V e0 2,V (i6 5) 3]<|
 r [M 4 23,Z 23 24,A 0 24 25,C 91 [t 25] 26,M 26 2,V z0 3]<|
 .ret):=bF ⟨[],[],[],[14],[],[]⟩
def F5: Of aH 215 14 [.tmp 0] (r [V .aV 0]<|
 r [gU vC [(0,1,gJ 4),(1,1,gS [43]),(2,1,gJ 4)] 1,gU vC [(0,1,gJ 5),(1,1,gS [45]),(2,1,gJ 4)] 2,gU vC [(0,1,gJ 6),(1,1,gS [42]),(2,1,gJ 5)] 3,gU vC [(0,1,gJ 7),(1,1,gS [47]),(2,1,gJ 5)] 4,gU vC [(0,1,gJ 8),(1,1,gS [61]),(2,1,gJ 3)] 5,gU vC [(0,1,gJ 9),(1,1,gS [33,61]),(2,1,gJ 3)] 6,gU vC [(0,1,gJ 10),(1,1,gS [60]),(2,1,gJ 3)] 7,gU vC [(0,1,gJ 11),(1,1,gS [60,61]),(2,1,gJ 3)] 8,gU vC [(0,1,gJ 12),(1,1,gS [62]),(2,1,gJ 3)] 9,gU vC [(0,1,gJ 13),(1,1,gS [62,61]),(2,1,gJ 3)] 10,gU vC [(0,1,gJ 14),(1,1,gS [97,110,100]),(2,1,gJ 2)] 11,gU vC [(0,1,gJ 15),(1,1,gS [111,114]),(2,1,gJ 1)] 12,gB true 3 (.agg vC) 12 [(0,t 1),(1,t 2),(2,t 3),(3,t 4),(4,t 5),(5,t 6),(6,t 7),(7,t 8),(8,t 9),(9,t 10),(10,t 11),(11,t 12)] 13,M 13 0]<|
 .ret):=bF
def LQ: Of aH 166 21 [.tmp 2] (r [V z0 2]<|
 q (.block 0 (r [M 0 4,D .eql 4 1 5,M 5 6,MF 0 7 6,DF .eql 7 2 8 6,O 6 8 9,M 9 3]<|
 c 3 (r [V z0 2]<|
 .ret) (r [M 0 11,D .eql 11 3 12,M 12 10]<|
 c 10 (r [V (i6 1) 2]<|
 .ret) (r [M 0 14,D .eql 14 16 15,M 15 13]<|
 c 13 (r [V (i6 3) 2]<|
 .ret) (r [M 0 17,C 172 [t 17] 18,bC (.field false 2 1 (t 18)) 19,D .gtr 19 0 20,M 20 16]<|
 c 16 (r [V (i6 2) 2]<|
 .ret) k)))))<|
 r [V (i6 (-1)) 2]<|
 .ret):=bF
def NB: Of aH 172 18 [.cell 2 true 3] (r [J vC 2]<|
 q (r [C 215 [] 5,N 5 6,V z0 7]<|
 .block 0 (.loop (r [B .lss 7 6 8]<|
 q (c 8 k (.exit 0))<|
 q (.block 1 (r [I true 3 5 7 9,L 3 9 10,J vC 4,W 3 4 10]<|
 r [A 0 4 11,K 11 12,M 0 13,B .eql 12 13 14]<|
 c 14 (r [L 3 4 15,W 3 2 15]<|
 .ret) k))<|
 R [D .add 7 1 16,M 16 7])))<|
 r [gU vC [] 17,W 3 2 17]<|
 .ret):=bF
def LR: Of aH 169 16 [.tmp 2] (r [X 0 1,V z0 2]<|
 q (r [A 0 1 3,K 3 4]<|
 .block 0 (r [D .eql 4 16 6,M 6 5]<|
 c 5 (r [V z0 2]<|
 .ret) (r [D .eql 4 3 8,M 8 7]<|
 c 7 (r [V (i6 6) 2]<|
 .ret) (q (r [D .eql 4 1 10,M 10 9]<|
 c 9 k (R [D .eql 4 2 11,M 11 9]))<|
 c 9 (r [V (i6 7) 2]<|
 .ret) k))))<|
 r [A 0 1 12,K 12 13,C 172 [t 13] 14,bC (.field false 2 1 (t 14)) 15,M 15 2]<|
 .ret):=bF
def LS: Of aH 122 61 [.tmp 2] (r [X 0 1,gF 2]<|
 q (q (.draw [A 5 1 3,K 3 4,N 4 5,A 0 1 6,K 6 7,Q 166 [t 7] 8,B .neq 5 8 9] [])<|
 c 9 (r [gF 2]<|
 .ret) k)<|
 q (r [A 0 1 10,K 10 11]<|
 .block 0 (r [D .eql 11 1 13,M 13 12]<|
 c 12 (r [A 4 1 14,K 14 15,bC (.bin .eql (t 15) (.c e0)) 16,M 16 17,AT 1 1 18 17,LT 3 18 19 17,CT 136 [t 19] 20 17,DT .eql 20 0 21 17,P 17 21 22,M 22 23,AT 1 1 24 23,AT 0 24 25 23,KT 25 26 23,DT .neq 26 1 27 23,MT 27 28 23,AF 1 1 29 28,AF 1 29 30 28,KF 30 31 28,DF .geq 31 0 32 28,OT 28 32 33 23,P 23 33 34,M 34 2]<|
 .ret) (r [D .eql 11 2 36,M 36 35]<|
 c 35 (r [A 1 1 37,L 3 37 38,gU ie [] 39,bC (.nw false true [.i,.i,.s] (t 38) (t 39)) 40,M 40 41,AT 4 1 42 41,KT 42 43 41,CT 36 [t 43] 44 41,P 41 44 45,M 45 2]<|
 .ret) k)))<|
 r [A 1 1 46,L 3 46 47,gU ie [] 48,bC (.nw false true [.i,.i,.s] (t 47) (t 48)) 49,M 49 50,AT 4 1 51 50,KT 51 52 50,⟨.bin .eql (t 52) (.c e0),(some 53),some (50,true)⟩,P 50 53 54,M 54 55,AT 5 1 56 55,KT 56 57 55,CT 167 [t 57,(.c (.fn (.func 168) [] []))] 58 55,UT 58 59 55,P 55 59 60,M 60 2]<|
 .ret):=bF
def Ib: Of aH 168 6 [.tmp 2] (r [X 0 1,gF 2]<|
 r [L 6 1 3,C 122 [t 3] 4,U 4 5,M 5 2]<|
 .ret):=bF
def NC: Of aH 297 15 [.cell 2 true 3,.tmp 3] (r [J ie 2,gF 3]<|
 q (r [M 0 4]<|
 .block 0 (r [bC (.bin .eql (t 4) (gS [110,117,108,108])) 6,M 6 5]<|
 c 5 (r [gU ie [] 7,W 3 2 7,gT 3]<|
 .ret) (r [bC (.bin .eql (t 4) (gS [102,97,108,115,101])) 9,M 9 8]<|
 c 8 (r [gU ie [(0,1,gJ 3)] 10,W 3 2 10,gT 3]<|
 .ret) (r [bC (.bin .eql (t 4) (gS [116,114,117,101])) 12,M 12 11]<|
 c 11 (r [gU ie [(0,1,gJ 3),(1,1,gJ 1)] 13,W 3 2 13,gT 3]<|
 .ret) k))))<|
 r [gU ie [] 14,W 3 2 14,gF 3]<|
 .ret):=bF
def uR: Of aH 53 73 [.tmp 2,.tmp 3] (r [X 0 1,V e0 2,V z0 3]<|
 r [L 6 1 12,C 52 [t 12] 13,M 13 11,E 11 0 14,E 11 1 15,E 11 2 16,E 11 3 17,J w5 4,W 6 4 14,M 15 5,M 16 6,M 17 7]<|
 q (.block 0 (r [M 7 19,D .neq 19 0 20,M 20 18]<|
 c 18 (r [M 7 21,V e0 2,M 21 3]<|
 .ret) (r [L 6 4 23,L 6 1 24,C 81 [t 23,t 24] 25,U 25 26,M 26 22]<|
 c 22 (r [V e0 2,V (i6 4) 3]<|
 .ret) k)))<|
 q (.draw [A 0 1 27,K 27 28,Q 60 [t 28] 29,A 3 1 30,K 30 31,Q 61 [t 31] 32,B .add 29 32 33,A 4 1 34,K 34 35,Q 61 [t 35] 36,B .add 33 36 37,M 37 8] [])<|
 q (.draw [M 8 38,A 1 1 39,K 39 40,Q 82 [t 40,(.c (.fn (.func 83) [] []))] 41,A 2 1 42,K 42 43,Q 82 [t 43,(.c (.fn (.func 84) [] []))] 44,B .add 41 44 45,A 5 1 46,K 46 47,N 47 48,Q 61 [t 48] 49,B .add 45 49 50,B .add 38 50 51,M 51 8] [])<|
 q (r [A 5 1 52,K 52 53,N 53 54,V z0 55]<|
 .block 1 (.loop (r [B .lss 55 54 56]<|
 q (c 56 k (.exit 1))<|
 q (.block 2 (r [I true 2 53 55 57,L 2 57 58,J x7 10,W 2 10 58]<|
 .draw [M 8 59,A 0 10 60,K 60 61,Q 85 [t 61] 62,A 1 10 63,K 63 64,Q 85 [t 64] 65,B .add 62 65 66,B .add 59 66 67,M 67 8] []))<|
 R [D .add 55 1 68,M 68 55])))<|
 gR [M 8 69,S 69 70,D .gtr 70 1400 71] 71 [V e0 2,V (i6 5) 3]<|
 r [M 8 72,M 72 2,V z0 3]<|
 .ret):=bF
def Ic: Of aH 83 3 [.tmp 2] (r [X 0 1,V e0 2]<|
 r [V e0 2]<|
 .ret):=bF
def Ie: Of aH 82 32 [.tmp 4] (r [V e0 4]<|
 r [M 0 8,N 8 9,C 61 [t 9] 10,M 10 5]<|
 q (r [M 0 11,N 11 12,V z0 13]<|
 .block 0 (.loop (r [B .lss 13 12 14]<|
 q (c 14 k (.exit 0))<|
 q (.block 1 (r [I true 3 11 13 15,L 3 15 16,J Bg 7,W 3 7 16]<|
 .draw [M 5 17,A 0 7 18,K 18 19,Q 60 [t 19] 20,A 1 7 21,K 21 22,Q 61 [t 22] 23,B .add 20 23 24,M 1 25,L 3 7 26,bC (.call true (t 25) [t 26]) 27,B .add 24 27 28,B .add 17 28 29,M 29 5] []))<|
 R [D .add 13 1 30,M 30 13])))<|
 r [M 5 31,M 31 4]<|
 .ret):=bF
def LU: Of aH 84 12 [.tmp 2] (r [X 0 1,V e0 2]<|
 r [A 2 1 6,K 6 7,C 63 [t 7] 8,M 8 5,E 5 0 9,E 5 1 10,M 9 3,M 10 4]<|
 r [M 3 11,M 11 2]<|
 .ret):=bF
def LV: Of aH 85 18 [.tmp 2] (r [V e0 2]<|
 r [V e0 3]<|
 q (r [M 0 6,N 6 7,V z0 8]<|
 .block 0 (.loop (r [B .lss 8 7 9]<|
 q (c 9 k (.exit 0))<|
 q (.block 1 (r [I false 1 6 8 10,K 10 11,M 11 5]<|
 R [M 3 12,M 5 13,C 60 [t 13] 14,B .add 12 14 15,M 15 3]))<|
 R [D .add 8 1 16,M 16 8])))<|
 r [M 3 17,M 17 2]<|
 .ret):=bF
def x8: Of aH 178 41 [.tmp 2] (r [V z0 2]<|
 gR [M 0 5,N 5 6,D .gtr 6 6 7] 7 [V (i6 24) 2]<|
 q (r [M 0 8,N 8 9,V z0 10]<|
 .block 0 (.loop (r [B .lss 10 9 11]<|
 q (c 11 k (.exit 0))<|
 q (.block 1 (r [M 10 12,I true 3 8 10 13,L 3 13 14,J Bg 4,M 12 3,W 3 4 14]<|
 gR [A 0 4 15,K 15 16,C 36 [t 16] 17,U 17 18,M 18 19,MF 0 20 19,AF 0 4 21 19,KF 21 22 19,CF 216 [t 20,t 22] 23 19,MF 3 24 19,BF .neq 23 24 25 19,O 19 25 26] 26 [V (i6 13) 2]<|
 r [A 1 4 27,K 27 28,D .neq 28 1 29,M 29 30,AT 1 4 31 30,KT 31 32 30,DT .neq 32 2 33 30,P 30 33 34,M 34 35,AT 1 4 36 35,KT 36 37 35,DT .neq 37 3 38 35,P 35 38 39]<|
 c 39 (r [V (i6 14) 2]<|
 .ret) k))<|
 R [D .add 10 1 40,M 40 10])))<|
 r [V z0 2]<|
 .ret):=bF
def ND: Of aH 186 16 [.tmp 4] (r [gF 4]<|
 r [M 0 5,M 1 6,B .eql 5 6 7,M 7 8,MF 0 9 8,DF .eql 9 0 10 8,O 8 10 11,M 11 12,MF 1 13 12,DF .eql 13 0 14 12,O 12 14 15,M 15 4]<|
 .ret):=bF
def Cd: Of aH 185 17 [.tmp 4,.tmp 5] (r [X 0 2,V z0 4,V z0 5]<|
 q (r [L 6 2 7,C 188 [t 7] 8,M 8 6]<|
 r [M 6 9,D .neq 9 0 10]<|
 c 10 (r [M 6 11,V z0 4,M 11 5]<|
 .ret) k)<|
 r [L 6 2 12,M 1 13,C 225 [t 12,t 13] 14,E 14 0 15,E 14 1 16,M 15 4,M 16 5]<|
 .ret):=bF
def QU: Of aH 279 18 [.tmp 4] (r [gF 4]<|
 q (r [M 1 7,N 7 8,V z0 9]<|
 .block 0 (.loop (r [B .lss 9 8 10]<|
 q (c 10 k (.exit 0))<|
 q (.block 1 (r [I false 1 7 9 11,K 11 12,M 12 6]<|
 r [M 6 13,M 0 14,C 186 [t 13,t 14] 15,U 15 16]<|
 c 16 (r [gF 4]<|
 .ret) k))<|
 R [D .add 9 1 17,M 17 9])))<|
 r [gT 4]<|
 .ret):=bF
def Sz: Of aH 216 8 [.tmp 4] (r [X 1 3,V z0 4]<|
 r [M 0 5,bC (.tU (.func 250) [] [t 3]) 6,C 217 [t 5,t 6] 7,M 7 4]<|
 .ret):=bF
def NG: Of aH 250 8 [.tmp 3] (r [X 0 2,gF 3]<|
 r [A 0 2 4,K 4 5,K 1 6,B .eql 5 6 7,M 7 3]<|
 .ret):=bF
def Ce: Of aH 280 11 [.tmp 4] (r [V z0 4]<|
 r [V z0 5]<|
 gR [M 0 6,M 5 7,B .neq 6 7 8] 8 [M 0 9,M 9 4]<|
 r [M 1 10,M 10 4]<|
 .ret):=bF
def r8: Of aH 225 65 [.tmp 4,.tmp 5] (r [X 0 2,V z0 4,V z0 5]<|
 q (r [A 0 2 14,K 14 15]<|
 .block 0 (r [D .eql 15 1 17,M 17 16]<|
 c 16 (r [A 1 2 18,A 0 18 19,K 19 20,M 20 4,V z0 5]<|
 .ret) (r [D .eql 15 2 22,M 22 21]<|
 c 21 (r [M 1 23,A 4 2 24,K 24 25,C 216 [t 23,t 25] 26,M 26 6]<|
 gR [M 6 27,D .lss 27 0 28] 28 [V z0 4,V (i6 13) 5]<|
 r [M 1 29,M 6 30,I true 3 29 30 31,A 1 31 32,K 32 33,M 33 4,V z0 5]<|
 .ret) k)))<|
 r [bC (.lE ⟨false,1⟩) 7]<|
 q (r [A 5 2 34,K 34 35,N 35 36,V z0 37]<|
 .block 1 (.loop (r [B .lss 37 36 38]<|
 q (c 38 k (.exit 1))<|
 q (.block 2 (r [I true 6 35 37 39,L 6 39 40,J jP 9,W 6 9 40]<|
 r [L 6 9 42,M 1 43,C 225 [t 42,t 43] 44,M 44 41,E 41 0 45,E 41 1 46,M 45 10,M 46 11]<|
 gR [M 11 47,D .neq 47 0 48] 48 [M 11 49,V z0 4,M 49 5]<|
 R [M 7 50,M 10 51,gB false 1 z0 1 [(0,t 51)] 52,gA false 1 50 52 53,M 53 7]))<|
 R [D .add 37 1 54,M 54 37])))<|
 r [A 0 2 56,K 56 57,M 7 58,C 257 [t 57,t 58] 59,M 59 55,E 55 0 60,E 55 1 61,M 60 12,M 61 13]<|
 gR [M 13 62,U 62 63] 63 [V z0 4,V (i6 14) 5]<|
 r [M 12 64,M 64 4,V z0 5]<|
 .ret):=bF ⟨[],[],[(7,⟨false,1⟩)],[],[],[]⟩
def vV: Of aH 257 82 [.tmp 4,.tmp 5] (r [V z0 4,gF 5]<|
 q (r [M 0 7]<|
 .block 0 (q (r [D .eql 7 3 9,M 9 8]<|
 c 8 k (r [D .eql 7 5 10,M 10 8]<|
 c 8 k (r [D .eql 7 6 11,M 11 8]<|
 c 8 k (R [D .eql 7 7 12,M 12 8]))))<|
 c 8 (r [M 1 13,C 279 [gJ 1,t 13] 14,V (i6 1) 4,M 14 5]<|
 .ret) (r [D .eql 7 4 16,M 16 15]<|
 c 15 (q (.draw [M 1 17,gI false 1 17 0 18,K 18 19,M 1 20,gI false 1 20 1 21,K 21 22,Q 280 [t 19,t 22] 23,M 23 6] [])<|
 q (r [M 6 24,D .neq 24 2 25]<|
 c 25 (R [V (i6 1) 6]) k)<|
 r [M 6 26,M 6 27,M 1 28,C 279 [t 27,t 28] 29,M 26 4,M 29 5]<|
 .ret) (q (r [D .eql 7 8 31,M 31 30]<|
 c 30 k (R [D .eql 7 9 32,M 32 30]))<|
 c 30 (q (.draw [M 1 33,gI false 1 33 0 34,K 34 35,M 1 36,gI false 1 36 1 37,K 37 38,Q 186 [t 35,t 38] 39,V (i6 3) 4,M 39 5] [])<|
 .ret) (q (r [D .eql 7 10 41,M 41 40]<|
 c 40 k (r [D .eql 7 11 42,M 42 40]<|
 c 40 k (r [D .eql 7 12 43,M 43 40]<|
 c 40 k (R [D .eql 7 13 44,M 44 40]))))<|
 c 40 (q (.draw [M 1 45,gI false 1 45 0 46,K 46 47,M 1 48,gI false 1 48 1 49,K 49 50,Q 186 [t 47,t 50] 51,M 51 52,MT 1 53 52,QT 281 [t 53,gJ 3] 54 52,UT 54 55 52,P 52 55 56,V (i6 3) 4,M 56 5] [])<|
 .ret) (q (r [D .eql 7 14 58,M 58 57]<|
 c 57 k (R [D .eql 7 15 59,M 59 57]))<|
 c 57 (r [M 1 60,C 279 [gJ 3,t 60] 61,V (i6 3) 4,M 61 5]<|
 .ret) k))))))<|
 q (.draw [M 1 62,gI false 1 62 1 63,K 63 64,M 1 65,gI false 1 65 2 66,K 66 67,Q 280 [t 64,t 67] 68,M 1 69,gI false 1 69 0 70,K 70 71,Q 186 [t 71,gJ 3] 72,M 72 73,MT 1 74 73,⟨.fA ⟨false,1⟩ none (t 74) (gJ 1),(some 75),some (73,true)⟩,KT 75 76 73,MT 1 77 73,⟨.fA ⟨false,1⟩ none (t 77) (gJ 2),(some 78),some (73,true)⟩,KT 78 79 73,QT 186 [t 76,t 79] 80 73,P 73 80 81,M 68 4,M 81 5] [])<|
 .ret):=bF
def Cf: Of aH 102 32 [.tmp 2,.tmp 3] (r [X 0 1,V e0 2,V z0 3]<|
 q (r [L 3 1 6,C 136 [t 6] 7,M 7 4]<|
 r [M 4 8,D .neq 8 0 9]<|
 c 9 (r [M 4 10,V e0 2,M 10 3]<|
 .ret) k)<|
 r [A 0 1 11,K 11 12,C 61 [t 12] 13,M 13 5]<|
 q (r [A 0 1 14,K 14 15]<|
 .block 0 (r [D .eql 15 2 17,M 17 16]<|
 c 16 (R [M 5 18,A 2 1 19,K 19 20,C 60 [t 20] 21,B .add 18 21 22,M 22 5]) (q (r [D .eql 15 1 24,M 24 23]<|
 c 23 k (R [D .eql 15 3 25,M 25 23]))<|
 c 23 (R [M 5 26,A 1 1 27,K 27 28,C 61 [t 28] 29,B .add 26 29 30,M 30 5]) k)))<|
 r [M 5 31,M 31 2,V z0 3]<|
 .ret):=bF
def NH: Of aH 136 39 [.tmp 2] (r [X 0 1,V z0 2]<|
 r [gF 3]<|
 q (r [A 0 1 4,K 4 5]<|
 .block 0 (r [D .eql 5 0 7,M 7 6]<|
 c 6 (R [L 3 1 8,gU ie [] 9,bC (.nw false true [.i,.i,.s] (t 8) (t 9)) 10,M 10 3]) (r [D .eql 5 1 12,M 12 11]<|
 c 11 (R [A 2 1 13,K 13 14,bC (.bin .eql (t 14) (.c e0)) 15,M 15 3]) (r [D .eql 5 2 17,M 17 16]<|
 c 16 (R [A 1 1 18,K 18 19,D .eql 19 0 20,M 20 21,AT 2 1 22 21,KT 22 23 21,CT 177 [t 23] 24 21,P 21 24 25,M 25 3]) (r [D .eql 5 3 27,M 27 26]<|
 c 26 (R [A 2 1 28,K 28 29,bC (.bin .eql (t 29) (.c e0)) 30,M 30 31,AT 1 1 32 31,KT 32 33 31,DT .andNot 33 1 34 31,DT .eql 34 0 35 31,P 31 35 36,M 36 3]) k)))))<|
 gR [M 3 37,U 37 38] 38 [V (i6 2) 2]<|
 r [V z0 2]<|
 .ret):=bF
def J0: Of aH 194 22 [.tmp 4] (r [X 0 2,X 1 3,V z0 4]<|
 q (.draw [A 0 2 5,K 5 6,A 0 3 7,K 7 8,Q 238 [t 6,t 8] 9,A 1 2 10,K 10 11,A 1 3 12,K 12 13,Q 197 [t 11,t 13] 14,A 2 2 15,K 15 16,A 2 3 17,K 17 18,Q 239 [t 16,t 18] 19,gB false 1 z0 3 [(0,t 9),(1,t 14),(2,t 19)] 20,Q 237 [t 20] 21,M 21 4] [])<|
 .ret):=bF
def SA: Of aH 63 31 [.tmp 2,.tmp 3] (r [V e0 2,V z0 3]<|
 r [M 0 9,N 9 10,C 61 [t 10] 11,M 11 4]<|
 q (r [M 0 12,N 12 13,V z0 14]<|
 .block 0 (.loop (r [B .lss 14 13 15]<|
 q (c 15 k (.exit 0))<|
 q (.block 1 (r [I true 3 12 14 16,L 3 16 17,J ie 6,W 3 6 17]<|
 r [L 3 6 19,C 102 [t 19] 20,M 20 18,E 18 0 21,E 18 1 22,M 21 7,M 22 8]<|
 gR [M 8 23,D .neq 23 0 24] 24 [M 8 25,V e0 2,M 25 3]<|
 R [M 4 26,M 7 27,B .add 26 27 28,M 28 4]))<|
 R [D .add 14 1 29,M 29 14])))<|
 r [M 4 30,M 30 2,V z0 3]<|
 .ret):=bF
def ED: Of aH 171 28 [.tmp 2,.tmp 3] (r [X 0 1,V e0 2,V z0 3]<|
 q (r [L 3 1 5,C 136 [t 5] 6,M 6 4]<|
 r [M 4 7,D .neq 7 0 8]<|
 c 8 (r [M 4 9,V e0 2,M 9 3]<|
 .ret) k)<|
 q (r [A 0 1 10,K 10 11]<|
 .block 0 (r [D .eql 11 1 13,M 13 12]<|
 c 12 (r [A 1 1 14,K 14 15,C 212 [t 15] 16,M 16 2,V z0 3]<|
 .ret) (r [D .eql 11 2 18,M 18 17]<|
 c 17 (r [A 2 1 19,K 19 20,C 213 [t 20] 21,M 21 2,V z0 3]<|
 .ret) (r [D .eql 11 3 23,M 23 22]<|
 c 22 (r [A 1 1 24,K 24 25,D .eql 25 1 26,C 214 [t 26] 27,M 27 2,V z0 3]<|
 .ret) k))))<|
 r [V (.str [110,117,108,108]) 2,V z0 3]<|
 .ret):=bF
def NI: Of aH 177 19 [.tmp 2] (r [gF 2]<|
 gR [M 0 5,S 5 6,D .gtr 6 40 7] 7 [gF 2]<|
 q (r [M 0 8,bC (.Jj (t 8)) 9]<|
 .block 0 (.loop (r [bC (.Jk (t 9)) 10,E 10 0 11]<|
 q (c 11 k (.exit 0))<|
 .block 1 (r [E 10 2 12,M 12 4]<|
 r [M 4 13,bC (.bin .lss (t 13) (.c (.int .i32 32))) 14,M 14 15,MF 4 16 15,⟨.bin .gtr (t 16) (.c (.int .i32 126)),(some 17),some (15,false)⟩,O 15 17 18]<|
 c 18 (r [gF 2]<|
 .ret) k))))<|
 r [gT 2]<|
 .ret):=bF
def NJ: Of aH 213 22 [.tmp 2] (r [V e0 2]<|
 r [bC (.alloc (some 162) [.gO,.aV]) 3]<|
 r [C 170 [t 3,(.c (.int .u8 34))] 6]<|
 q (r [M 0 7,bC (.Jj (t 7)) 8]<|
 .block 0 (.loop (r [bC (.Jk (t 8)) 9,E 9 0 10]<|
 q (c 10 k (.exit 0))<|
 .block 1 (r [E 9 2 11,M 11 5]<|
 q (r [M 5 12]<|
 .block 2 (q (.block 4 (.block 3 (q (q (r [bC (.bin .eql (t 12) (.c (.int .i32 34))) 14,M 14 13]<|
 c 13 (.exit 3) k)<|
 r [bC (.bin .eql (t 12) (.c (.int .i32 92))) 16,M 16 15]<|
 c 15 (.exit 4) k)<|
 .exit 2)))<|
 r [C 170 [t 3,(.c (.int .u8 92))] 17]<|
 .exit 2))<|
 R [M 5 18,C 248 [t 3,t 18] 19]))))<|
 r [C 170 [t 3,(.c (.int .u8 34))] 20]<|
 r [C 91 [t 3] 21,M 21 2]<|
 .ret):=bF ⟨[],[],[],[3],[],[]⟩
def sV: Of aH 131 18 [.tmp 4] (r [gF 4]<|
 r [M 0 5,S 5 6,M 1 7,S 7 8,B .geq 6 8 9,M 9 10,MT 0 11 10,MT 1 12 10,ST 12 13 10,⟨.yY (t 11) none (some (t 13)),(some 14),some (10,true)⟩,MT 1 15 10,BT .eql 14 15 16 10,P 10 16 17,M 17 4]<|
 .ret):=bF
def Fc: Of aH 49 4 [.tmp 2] (r [X 0 1,V .nQ 2]<|
 r [bC (.tU (.func 76) [] [t 1]) 3,M 3 2]<|
 .ret):=bF
def yu: Of aH 244 17 [.tmp 4] (r [V (.int .u32 0) 4]<|
 r [M 1 6,bC (.jX .u64 (t 6)) 7,bC (.bin .and (t 7) (.c (.int .u64 31))) 8,M 8 5]<|
 r [M 0 9,M 5 10,B .shl 9 10 11,M 0 12,M 5 13,bC (.bin .sub (.c (.int .u64 32)) (t 13)) 14,B .shr 12 14 15,B .or 11 15 16,M 16 4]<|
 .ret):=bF
def Dw: Of aH 54 9 [.tmp 2] (r [V .aV 2]<|
 r [M 0 3,M 0 4,N 4 5,M 0 6,N 6 7,bC (.ex (.Ov ⟨true,6⟩ false) [t 3,t 5,t 7]) 8,M 8 2]<|
 .ret):=bF
def Cg: Of aH 32 8 [.tmp 2] (r [V .aV 2]<|
 gR [M 0 3,bC (.ex (.A_ false) [t 3]) 4] 4 [V .aV 2]<|
 r [gB true 6 (.agg uN) 0 [] 5,M 0 6,gA true 6 5 6 7,M 7 2]<|
 .ret):=bF ⟨[],[4],[],[],[],[]⟩
def w6: Of aH 193 39 [.tmp 6] (r [V z0 6]<|
 q (r [M 0 11,N 11 12,V z0 13]<|
 .block 0 (.loop (r [B .lss 13 12 14]<|
 q (c 14 k (.exit 0))<|
 q (.block 1 (r [M 13 15,I true 3 11 13 16,L 3 16 17,J ie 8,M 15 7,W 3 8 17]<|
 gR [M 7 18,M 1 19,N 19 20,B .geq 18 20 21] 21 [V (i6 1) 6]<|
 r [M 1 22,M 7 23,I true 3 22 23 24,L 3 24 25,J ie 9,W 3 9 25]<|
 r [M 2 26,L 3 8 27,L 3 9 28,bC (.call false (t 26) [t 27,t 28]) 29,M 29 10]<|
 r [M 10 30,D .neq 30 0 31]<|
 c 31 (r [M 10 32,M 32 6]<|
 .ret) k))<|
 R [D .add 13 1 33,M 33 13])))<|
 gR [M 0 34,N 34 35,M 1 36,N 36 37,B .lss 35 37 38] 38 [V (i6 (-1)) 6]<|
 r [V z0 6]<|
 .ret):=bF
def vx: Of aH 98 9 [.tmp 4] (r [gF 4]<|
 r [M 0 5,M 1 6,C 137 [t 5,t 6] 7,D .geq 7 0 8,M 8 4]<|
 .ret):=bF
def vy: Of aH 179 9 [.tmp 4] (r [gF 4]<|
 r [M 0 5,M 1 6,C 217 [t 5,t 6] 7,D .geq 7 0 8,M 8 4]<|
 .ret):=bF
def w7: Of aH 167 9 [.tmp 4] (r [gF 4]<|
 r [M 0 5,M 1 6,C 211 [t 5,t 6] 7,D .geq 7 0 8,M 8 4]<|
 .ret):=bF
def w8: Of aH 161 9 [.tmp 4] (r [gF 4]<|
 r [M 0 5,M 1 6,C 207 [t 5,t 6] 7,D .geq 7 0 8,M 8 4]<|
 .ret):=bF
def vW: Of aH 134 9 [.tmp 4] (r [gF 4]<|
 r [M 0 5,M 1 6,C 176 [t 5,t 6] 7,D .geq 7 0 8,M 8 4]<|
 .ret):=bF
def zW: Of aH 281 9 [.tmp 4] (r [gF 4]<|
 r [M 0 5,M 1 6,C 298 [t 5,t 6] 7,D .geq 7 0 8,M 8 4]<|
 .ret):=bF
def zg: Of aH 282 9 [.tmp 4] (r [X 1 3,gF 4]<|
 r [M 0 5,L 3 3 6,C 218 [t 5,t 6] 7,D .geq 7 0 8,M 8 4]<|
 .ret):=bF
def xM: Of aH 125 32 [.tmp 6] (r [gF 6]<|
 gR [M 0 10,N 10 11,M 1 12,N 12 13,B .neq 11 13 14] 14 [gF 6]<|
 q (r [M 0 15,N 15 16,V z0 17]<|
 .block 0 (.loop (r [B .lss 17 16 18]<|
 q (c 18 k (.exit 0))<|
 q (.block 1 (r [M 17 19,I true 3 15 17 20,L 3 20 21,J Bg 8,M 19 7,W 3 8 21]<|
 r [M 1 22,M 7 23,I true 3 22 23 24,L 3 24 25,J Bg 9,W 3 9 25]<|
 r [M 2 26,L 3 8 27,L 3 9 28,bC (.call false (t 26) [t 27,t 28]) 29,U 29 30]<|
 c 30 (r [gF 6]<|
 .ret) k))<|
 R [D .add 17 1 31,M 31 17])))<|
 r [gT 6]<|
 .ret):=bF
def zh: Of aH 246 32 [.tmp 6] (r [gF 6]<|
 gR [M 0 10,N 10 11,M 1 12,N 12 13,B .neq 11 13 14] 14 [gF 6]<|
 q (r [M 0 15,N 15 16,V z0 17]<|
 .block 0 (.loop (r [B .lss 17 16 18]<|
 q (c 18 k (.exit 0))<|
 q (.block 1 (r [M 17 19,I true 6 15 17 20,L 6 20 21,J jP 8,M 19 7,W 6 8 21]<|
 r [M 1 22,M 7 23,I true 6 22 23 24,L 6 24 25,J jP 9,W 6 9 25]<|
 r [M 2 26,L 6 8 27,L 6 9 28,bC (.call false (t 26) [t 27,t 28]) 29,U 29 30]<|
 c 30 (r [gF 6]<|
 .ret) k))<|
 R [D .add 17 1 31,M 31 17])))<|
 r [gT 6]<|
 .ret):=bF
def zi: Of aH 127 32 [.tmp 6] (r [gF 6]<|
 gR [M 0 10,N 10 11,M 1 12,N 12 13,B .neq 11 13 14] 14 [gF 6]<|
 q (r [M 0 15,N 15 16,V z0 17]<|
 .block 0 (.loop (r [B .lss 17 16 18]<|
 q (c 18 k (.exit 0))<|
 q (.block 1 (r [M 17 19,I true 2 15 17 20,L 2 20 21,J x7 8,M 19 7,W 2 8 21]<|
 r [M 1 22,M 7 23,I true 2 22 23 24,L 2 24 25,J x7 9,W 2 9 25]<|
 r [M 2 26,L 2 8 27,L 2 9 28,bC (.call false (t 26) [t 27,t 28]) 29,U 29 30]<|
 c 30 (r [gF 6]<|
 .ret) k))<|
 R [D .add 17 1 31,M 31 17])))<|
 r [gT 6]<|
 .ret):=bF
def Ch: Of aH 66 26 [.tmp 4] (r [gF 4]<|
 gR [M 0 6,N 6 7,M 1 8,N 8 9,B .neq 7 9 10] 10 [gF 4]<|
 q (r [M 0 11,N 11 12,V z0 13]<|
 .block 0 (.loop (r [B .lss 13 12 14]<|
 q (c 14 k (.exit 0))<|
 q (.block 1 (r [M 13 15,M 15 5]<|
 q (.draw [M 0 16,M 5 17,I true 3 16 17 18,L 3 18 19,M 1 20,M 5 21,I true 3 20 21 22,L 3 22 23,bC (.nw true true [.i,.i,.s] (t 19) (t 23)) 24] [])<|
 c 24 (r [gF 4]<|
 .ret) k))<|
 R [D .add 13 1 25,M 25 13])))<|
 r [gT 4]<|
 .ret):=bF
def Br: Of aH 173 26 [.tmp 4] (r [gF 4]<|
 gR [M 0 6,N 6 7,M 1 8,N 8 9,B .neq 7 9 10] 10 [gF 4]<|
 q (r [M 0 11,N 11 12,V z0 13]<|
 .block 0 (.loop (r [B .lss 13 12 14]<|
 q (c 14 k (.exit 0))<|
 q (.block 1 (r [M 13 15,M 15 5]<|
 q (.draw [M 0 16,M 5 17,I false 1 16 17 18,K 18 19,M 1 20,M 5 21,I false 1 20 21 22,K 22 23,B .neq 19 23 24] [])<|
 c 24 (r [gF 4]<|
 .ret) k))<|
 R [D .add 13 1 25,M 25 13])))<|
 r [gT 4]<|
 .ret):=bF
def xN: Of aH 137 19 [.tmp 4] (r [V z0 4]<|
 q (r [M 0 6,N 6 7,V z0 8]<|
 .block 0 (.loop (r [B .lss 8 7 9]<|
 q (c 9 k (.exit 0))<|
 q (.block 1 (r [M 8 10,M 10 5]<|
 r [M 1 11,M 0 12,M 5 13,I false 1 12 13 14,K 14 15,bC (.call false (t 11) [t 15]) 16]<|
 c 16 (r [M 5 17,M 17 4]<|
 .ret) k))<|
 R [D .add 8 1 18,M 18 8])))<|
 r [V (i6 (-1)) 4]<|
 .ret):=bF
def xO: Of aH 217 19 [.tmp 4] (r [V z0 4]<|
 q (r [M 0 6,N 6 7,V z0 8]<|
 .block 0 (.loop (r [B .lss 8 7 9]<|
 q (c 9 k (.exit 0))<|
 q (.block 1 (r [M 8 10,M 10 5]<|
 r [M 1 11,M 0 12,M 5 13,I true 3 12 13 14,L 3 14 15,bC (.call false (t 11) [t 15]) 16]<|
 c 16 (r [M 5 17,M 17 4]<|
 .ret) k))<|
 R [D .add 8 1 18,M 18 8])))<|
 r [V (i6 (-1)) 4]<|
 .ret):=bF
def zj: Of aH 211 19 [.tmp 4] (r [V z0 4]<|
 q (r [M 0 6,N 6 7,V z0 8]<|
 .block 0 (.loop (r [B .lss 8 7 9]<|
 q (c 9 k (.exit 0))<|
 q (.block 1 (r [M 8 10,M 10 5]<|
 r [M 1 11,M 0 12,M 5 13,I true 6 12 13 14,L 6 14 15,bC (.call false (t 11) [t 15]) 16]<|
 c 16 (r [M 5 17,M 17 4]<|
 .ret) k))<|
 R [D .add 8 1 18,M 18 8])))<|
 r [V (i6 (-1)) 4]<|
 .ret):=bF
def zk: Of aH 207 19 [.tmp 4] (r [V z0 4]<|
 q (r [M 0 6,N 6 7,V z0 8]<|
 .block 0 (.loop (r [B .lss 8 7 9]<|
 q (c 9 k (.exit 0))<|
 q (.block 1 (r [M 8 10,M 10 5]<|
 r [M 1 11,M 0 12,M 5 13,I true 15 12 13 14,L 15 14 15,bC (.call false (t 11) [t 15]) 16]<|
 c 16 (r [M 5 17,M 17 4]<|
 .ret) k))<|
 R [D .add 8 1 18,M 18 8])))<|
 r [V (i6 (-1)) 4]<|
 .ret):=bF
def yw: Of aH 176 19 [.tmp 4] (r [V z0 4]<|
 q (r [M 0 6,N 6 7,V z0 8]<|
 .block 0 (.loop (r [B .lss 8 7 9]<|
 q (c 9 k (.exit 0))<|
 q (.block 1 (r [M 8 10,M 10 5]<|
 r [M 1 11,M 0 12,M 5 13,I true 3 12 13 14,L 3 14 15,bC (.call false (t 11) [t 15]) 16]<|
 c 16 (r [M 5 17,M 17 4]<|
 .ret) k))<|
 R [D .add 8 1 18,M 18 8])))<|
 r [V (i6 (-1)) 4]<|
 .ret):=bF
def xP: Of aH 293 19 [.tmp 4] (r [V z0 4]<|
 q (r [M 0 6,N 6 7,V z0 8]<|
 .block 0 (.loop (r [B .lss 8 7 9]<|
 q (c 9 k (.exit 0))<|
 q (.block 1 (r [M 8 10,M 10 5]<|
 r [M 1 11,M 0 12,M 5 13,I false 1 12 13 14,K 14 15,bC (.call false (t 11) [t 15]) 16]<|
 c 16 (r [M 5 17,M 17 4]<|
 .ret) k))<|
 R [D .add 8 1 18,M 18 8])))<|
 r [V (i6 (-1)) 4]<|
 .ret):=bF
def Dx: Of aH 298 19 [.tmp 4] (r [V z0 4]<|
 q (r [M 0 6,N 6 7,V z0 8]<|
 .block 0 (.loop (r [B .lss 8 7 9]<|
 q (c 9 k (.exit 0))<|
 q (.block 1 (r [M 8 10,M 10 5]<|
 r [M 1 11,M 0 12,M 5 13,I false 1 12 13 14,K 14 15,B .eql 11 15 16]<|
 c 16 (r [M 5 17,M 17 4]<|
 .ret) k))<|
 R [D .add 8 1 18,M 18 8])))<|
 r [V (i6 (-1)) 4]<|
 .ret):=bF
def Ci: Of aH 218 19 [.tmp 4] (r [X 1 3,V z0 4]<|
 q (r [M 0 6,N 6 7,V z0 8]<|
 .block 0 (.loop (r [B .lss 8 7 9]<|
 q (c 9 k (.exit 0))<|
 q (.block 1 (r [M 8 10,M 10 5]<|
 q (.draw [L 3 3 11,M 0 12,M 5 13,I true 3 12 13 14,L 3 14 15,bC (.nw false true [.i,.i,.s] (t 11) (t 15)) 16] [])<|
 c 16 (r [M 5 17,M 17 4]<|
 .ret) k))<|
 R [D .add 8 1 18,M 18 8])))<|
 r [V (i6 (-1)) 4]<|
 .ret):=bF
def zY: Of aH 242 33 [.cell 4 true 3] (r [J ie 4]<|
 q (r [M 0 7,N 7 8,D .lss 8 1 9]<|
 c 9 (R [bC (.wC 9 (gS [115,108,105,99,101,115,46,77,97,120,70,117,110,99,58,32,101,109,112,116,121,32,108,105,115,116])) 10,⟨.panic (t 10),none,none⟩]) k)<|
 r [M 0 11,gI true 3 11 0 12,L 3 12 13,J ie 5,W 3 5 13]<|
 q (r [V (i6 1) 6]<|
 gL 0 [M 6 14,M 0 15,N 15 16,B .lss 14 16 17] 17 ((
 q (.block 1 (q (.draw [M 1 20,M 0 21,M 6 22,I true 3 21 22 23,L 3 23 24,L 3 5 25,bC (.call true (t 20) [t 24,t 25]) 26,D .gtr 26 0 27] [])<|
 c 27 (R [M 0 28,M 6 29,I true 3 28 29 30,L 3 30 31,W 3 5 31]) k))<|
 R [M 6 18,D .add 18 1 19,M 19 6])))<|
 r [L 3 5 32,W 3 4 32]<|
 .ret):=bF
def zZ: Of aH 241 33 [.cell 4 true 3] (r [J ie 4]<|
 q (r [M 0 7,N 7 8,D .lss 8 1 9]<|
 c 9 (R [bC (.wC 9 (gS [115,108,105,99,101,115,46,77,105,110,70,117,110,99,58,32,101,109,112,116,121,32,108,105,115,116])) 10,⟨.panic (t 10),none,none⟩]) k)<|
 r [M 0 11,gI true 3 11 0 12,L 3 12 13,J ie 5,W 3 5 13]<|
 q (r [V (i6 1) 6]<|
 gL 0 [M 6 14,M 0 15,N 15 16,B .lss 14 16 17] 17 ((
 q (.block 1 (q (.draw [M 1 20,M 0 21,M 6 22,I true 3 21 22 23,L 3 23 24,L 3 5 25,bC (.call true (t 20) [t 24,t 25]) 26,D .lss 26 0 27] [])<|
 c 27 (R [M 0 28,M 6 29,I true 3 28 29 30,L 3 30 31,W 3 5 31]) k))<|
 R [M 6 18,D .add 18 1 19,M 19 6])))<|
 r [L 3 5 32,W 3 4 32]<|
 .ret):=bF
def uB: Of aH 191 9 [] (R [M 0 4,M 0 5,N 5 6,M 1 7,C 236 [t 4,t 6,t 7] 8]):=bF
def qU: Of aH 263 53 [] (r [M 1 10,D .add 10 1 11,M 11 8]<|
 gL 0 [M 8 12,M 2 13,B .lss 12 13 14] 14 ((
 q (.block 1 (r [M 8 17,M 17 9]<|
 .block 2 (.loop (q (q (.draw [M 9 18,M 1 19,B .gtr 18 19 20,M 20 21,MT 3 22 21,MT 0 23 21,MT 9 24 21,IT false 1 23 24 25 21,KT 25 26 21,MT 0 27 21,MT 9 28 21,DT .sub 28 1 29 21,IT false 1 27 29 30 21,KT 30 31 21,⟨.call true (t 22) [t 26,t 31],(some 32),some (21,true)⟩,DT .lss 32 0 33 21,P 21 33 34] [])<|
 c 34 k (.exit 2))<|
 q (.block 3 (.draw [M 0 37,M 9 38,M 0 39,M 9 40,D .sub 40 1 41,M 0 42,M 9 43,D .sub 43 1 44,I false 1 42 44 45,K 45 46,M 0 47,M 9 48,I false 1 47 48 49,K 49 50,I false 1 37 38 51,W 1 51 46,I false 1 39 41 52,W 1 52 50] []))<|
 R [M 9 35,D .sub 35 1 36,M 36 9]))))<|
 R [M 8 15,D .add 15 1 16,M 16 8]))):=bF
def uS: Of aH 285 58 [] (r [M 2 12,M 1 13,B .sub 12 13 14,M 14 10]<|
 r [M 3 15,M 2 16,B .sub 15 16 17,M 17 11]<|
 q (gL 0 [M 10 18,M 11 19,B .neq 18 19 20] 20 ((
 .block 1 (r [M 10 21,M 11 22,B .gtr 21 22 23]<|
 c 23 (r [M 0 24,M 2 25,M 10 26,B .sub 25 26 27,M 2 28,M 11 29,M 4 30,C 300 [t 24,t 27,t 28,t 29,t 30] 31]<|
 R [M 10 32,M 11 33,B .sub 32 33 34,M 34 10]) (r [M 0 35,M 2 36,M 10 37,B .sub 36 37 38,M 2 39,M 11 40,B .add 39 40 41,M 10 42,B .sub 41 42 43,M 10 44,M 4 45,C 300 [t 35,t 38,t 43,t 44,t 45] 46]<|
 R [M 11 47,M 10 48,B .sub 47 48 49,M 49 11])))))<|
 R [M 0 50,M 2 51,M 10 52,B .sub 51 52 53,M 2 54,M 10 55,M 4 56,C 300 [t 50,t 53,t 54,t 55,t 56] 57]):=bF
def ow: Of aH 236 63 [] (r [V (i6 20) 6]<|
 r [M 6 10,V z0 7,M 10 8]<|
 q (gL 0 [M 8 11,M 1 12,B .leq 11 12 13] 13 ((
 .block 1 (r [M 0 14,M 7 15,M 8 16,M 2 17,C 263 [t 14,t 15,t 16,t 17] 18]<|
 r [M 8 19,M 19 7]<|
 R [M 8 20,M 6 21,B .add 20 21 22,M 22 8]))))<|
 r [M 0 23,M 7 24,M 1 25,M 2 26,C 263 [t 23,t 24,t 25,t 26] 27]<|
 gL 2 [M 6 28,M 1 29,B .lss 28 29 30] 30 ((
 .block 3 (r [M 6 31,bC (.bin .mul (gJ 2) (t 31)) 32,V z0 7,M 32 8]<|
 q (gL 4 [M 8 33,M 1 34,B .leq 33 34 35] 35 ((
 .block 5 (r [M 0 36,M 7 37,M 7 38,M 6 39,B .add 38 39 40,M 8 41,M 2 42,C 264 [t 36,t 37,t 40,t 41,t 42] 43]<|
 r [M 8 44,M 44 7]<|
 R [M 8 45,M 6 46,bC (.bin .mul (gJ 2) (t 46)) 47,B .add 45 47 48,M 48 8]))))<|
 q (r [M 7 49,M 6 50,B .add 49 50 51,M 51 9]<|
 r [M 9 52,M 1 53,B .lss 52 53 54]<|
 c 54 (R [M 0 55,M 7 56,M 9 57,M 1 58,M 2 59,C 264 [t 55,t 56,t 57,t 58,t 59] 60]) k)<|
 R [M 6 61,D .mul 61 2 62,M 62 6])))):=bF
def sW: Of aH 300 38 [] (r [V z0 10]<|
 gL 0 [M 10 11,M 3 12,B .lss 11 12 13] 13 ((
 q (.block 1 (.draw [M 0 16,M 1 17,M 10 18,B .add 17 18 19,M 0 20,M 2 21,M 10 22,B .add 21 22 23,M 0 24,M 2 25,M 10 26,B .add 25 26 27,I false 1 24 27 28,K 28 29,M 0 30,M 1 31,M 10 32,B .add 31 32 33,I false 1 30 33 34,K 34 35,I false 1 16 19 36,W 1 36 29,I false 1 20 23 37,W 1 37 35] []))<|
 R [M 10 14,D .add 14 1 15,M 15 10]))):=bF
def kV: Of aH 264 220 [] (q (r [M 2 25,M 1 26,B .sub 25 26 27,D .eql 27 1 28]<|
 c 28 (r [M 2 29,M 29 10]<|
 r [M 3 30,M 30 11]<|
 q (gL 0 [M 10 31,M 11 32,B .lss 31 32 33] 33 ((
 .block 1 (r [M 10 34,M 11 35,B .add 34 35 36,bC (.jX .u64 (t 36)) 37,bC (.bin .shr (t 37) (.c (.int .u64 1))) 38,bC (.jX .i64 (t 38)) 39,M 39 12]<|
 q (.draw [M 4 40,M 0 41,M 12 42,I false 1 41 42 43,K 43 44,M 0 45,M 1 46,I false 1 45 46 47,K 47 48,bC (.call true (t 40) [t 44,t 48]) 49,D .lss 49 0 50] [])<|
 c 50 (R [M 12 51,D .add 51 1 52,M 52 10]) (R [M 12 53,M 53 11])))))<|
 q (r [M 1 54,M 54 13]<|
 gL 2 [M 13 55,M 10 56,D .sub 56 1 57,B .lss 55 57 58] 58 ((
 q (.block 3 (.draw [M 0 61,M 13 62,M 0 63,M 13 64,D .add 64 1 65,M 0 66,M 13 67,D .add 67 1 68,I false 1 66 68 69,K 69 70,M 0 71,M 13 72,I false 1 71 72 73,K 73 74,I false 1 61 62 75,W 1 75 70,I false 1 63 65 76,W 1 76 74] []))<|
 R [M 13 59,D .add 59 1 60,M 60 13])))<|
 .ret) k)<|
 q (r [M 3 77,M 2 78,B .sub 77 78 79,D .eql 79 1 80]<|
 c 80 (r [M 1 81,M 81 14]<|
 r [M 2 82,M 82 15]<|
 q (gL 4 [M 14 83,M 15 84,B .lss 83 84 85] 85 ((
 .block 5 (r [M 14 86,M 15 87,B .add 86 87 88,bC (.jX .u64 (t 88)) 89,bC (.bin .shr (t 89) (.c (.int .u64 1))) 90,bC (.jX .i64 (t 90)) 91,M 91 16]<|
 q (.draw [M 4 92,M 0 93,M 2 94,I false 1 93 94 95,K 95 96,M 0 97,M 16 98,I false 1 97 98 99,K 99 100,bC (.call true (t 92) [t 96,t 100]) 101,D .lss 101 0 102,U 102 103] [])<|
 c 103 (R [M 16 104,D .add 104 1 105,M 105 14]) (R [M 16 106,M 106 15])))))<|
 q (r [M 2 107,M 107 17]<|
 gL 6 [M 17 108,M 14 109,B .gtr 108 109 110] 110 ((
 q (.block 7 (.draw [M 0 113,M 17 114,M 0 115,M 17 116,D .sub 116 1 117,M 0 118,M 17 119,D .sub 119 1 120,I false 1 118 120 121,K 121 122,M 0 123,M 17 124,I false 1 123 124 125,K 125 126,I false 1 113 114 127,W 1 127 122,I false 1 115 117 128,W 1 128 126] []))<|
 R [M 17 111,D .sub 111 1 112,M 112 17])))<|
 .ret) k)<|
 r [M 1 129,M 3 130,B .add 129 130 131,bC (.jX .u64 (t 131)) 132,bC (.bin .shr (t 132) (.c (.int .u64 1))) 133,bC (.jX .i64 (t 133)) 134,M 134 18]<|
 r [M 18 135,M 2 136,B .add 135 136 137,M 137 19]<|
 r [V z0 20,V z0 21]<|
 q (r [M 2 138,M 18 139,B .gtr 138 139 140]<|
 c 140 (r [M 19 141,M 3 142,B .sub 141 142 143,M 143 20]<|
 R [M 18 144,M 144 21]) (r [M 1 145,M 145 20]<|
 R [M 2 146,M 146 21]))<|
 r [M 19 147,D .sub 147 1 148,M 148 22]<|
 q (gL 8 [M 20 149,M 21 150,B .lss 149 150 151] 151 ((
 .block 9 (r [M 20 152,M 21 153,B .add 152 153 154,bC (.jX .u64 (t 154)) 155,bC (.bin .shr (t 155) (.c (.int .u64 1))) 156,bC (.jX .i64 (t 156)) 157,M 157 23]<|
 q (.draw [M 4 158,M 0 159,M 22 160,M 23 161,B .sub 160 161 162,I false 1 159 162 163,K 163 164,M 0 165,M 23 166,I false 1 165 166 167,K 167 168,bC (.call true (t 158) [t 164,t 168]) 169,D .lss 169 0 170,U 170 171] [])<|
 c 171 (R [M 23 172,D .add 172 1 173,M 173 20]) (R [M 23 174,M 174 21])))))<|
 r [M 19 175,M 20 176,B .sub 175 176 177,M 177 24]<|
 q (r [M 20 178,M 2 179,B .lss 178 179 180,M 180 181,MT 2 182 181,MT 24 183 181,BT .lss 182 183 184 181,P 181 184 185]<|
 c 185 (R [M 0 186,M 20 187,M 2 188,M 24 189,M 4 190,C 285 [t 186,t 187,t 188,t 189,t 190] 191]) k)<|
 q (r [M 1 192,M 20 193,B .lss 192 193 194,M 194 195,MT 20 196 195,MT 18 197 195,BT .lss 196 197 198 195,P 195 198 199]<|
 c 199 (R [M 0 200,M 1 201,M 20 202,M 18 203,M 4 204,C 264 [t 200,t 201,t 202,t 203,t 204] 205]) k)<|
 r [M 18 206,M 24 207,B .lss 206 207 208,M 208 209,MT 24 210 209,MT 3 211 209,BT .lss 210 211 212 209,P 209 212 213]<|
 c 213 (R [M 0 214,M 18 215,M 24 216,M 3 217,M 4 218,C 264 [t 214,t 215,t 216,t 217,t 218] 219]) k):=bF
def Dy: Of aH 87 8 [.tmp 4] (r [gF 4]<|
 r [M 0 5,M 1 6,C 131 [t 5,t 6] 7,M 7 4]<|
 .ret):=bF
def xQ: Of aH 269 16 [.tmp 4] (r [V .aV 4]<|
 gR [M 1 5,bC (.jX .u32 (t 5)) 6,bC (.bin .leq (t 6) (.c (.int .u32 127))) 7] 7 [M 0 8,M 1 9,bC (.jX .u8 (t 9)) 10,gB false 1 (.int .u8 0) 1 [(0,t 10)] 11,bC (.app (some 5) ⟨false,1⟩ (t 8) (t 11)) 12,M 12 4]<|
 r [M 0 13,M 1 14,C 291 [t 13,t 14] 15,M 15 4]<|
 .ret):=bF ⟨[],[],[],[12],[],[]⟩
def J1: Of aH 243 6 [.tmp 2] (r [gF 2]<|
 r [M 0 3,M 0 4,B .neq 3 4 5,M 5 2]<|
 .ret):=bF
def Ig: Of aH 265 6 [.tmp 2] (r [gF 2]<|
 r [M 0 3,M 0 4,B .neq 3 4 5,M 5 2]<|
 .ret):=bF
