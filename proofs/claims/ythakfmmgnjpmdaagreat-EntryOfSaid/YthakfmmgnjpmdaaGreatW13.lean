/- Part. -/
import Derived.Test.YthakfmmgnjpmdaaGreatW12
import Derived.KernelRfl
set_option linter.all false
namespace Go.Proofs.YthakfmmgnjpmdaaGreat
open Go.AM Go.AM.W
set_option maxRecDepth 10000
def sr: Of aD 3 45 [.tmp 6] (r [X 0 3,gF 6]<|
 gR [L 6 3 11,C 5 [t 11] 12,U 12 13,M 13 14,MF 2 15 14,CF 6 [t 15] 16 14,UF 16 17 14,O 14 17 18] 18 [C 7 [] 19,M 19 6]<|
 r [L 6 3 21,M 1 22,M 2 23,C 8 [t 21,t 22,t 23] 24,M 24 20,E 20 0 25,E 20 1 26,J [e0,z0,.ai,z0,.ai,.ai] 7,W 6 7 25,M 26 8]<|
 r [L 6 3 28,M 1 29,M 2 30,C 9 [t 28,t 29,t 30] 31,M 31 27,E 27 0 32,E 27 1 33,J [e0,z0,.ai,z0,.ai,.ai] 9,W 6 9 32,M 33 10]<|
 r [L 6 7 34,L 6 9 35,C 10 [t 34,t 35] 36,M 36 37,MT 8 38 37,MT 10 39 37,BT .eql 38 39 40 37,P 37 40 41,M 41 42,CT 7 [] 43 42,P 42 43 44,M 44 6]<|
 .ret):=bj Tryz.func3
def ua: Of aD 4 45 [.tmp 6] (r [X 0 3,X 1 4,X 2 5,gF 6]<|
 gR [L 6 3 7,C 11 [t 7] 8,U 8 9,M 9 10,LF 6 4 11 10,CF 11 [t 11] 12 10,UF 12 13 10,O 10 13 14,M 14 15,LF 6 5 16 15,CF 5 [t 16] 17 15,UF 17 18 15,O 15 18 19] 19 [C 7 [] 20,M 20 6]<|
 q (.draw [L 6 3 21,L 6 5 22,Q 12 [t 21,t 22] 23,L 6 3 24,L 6 5 25,Q 13 [t 24,t 25] 26,bq (.jD false false [.b] (t 23) (t 26)) 27,M 27 28,LT 6 3 29 28,LT 6 4 30 28,QT 14 [t 29,t 30] 31 28,LT 6 3 32 28,LT 6 4 33 28,QT 10 [t 32,t 33] 34 28,⟨.jD false false [.b] (t 31) (t 34),(some 35),some (28,true)⟩,P 28 35 36,M 36 37,LT 6 3 38 37,LT 6 3 39 37,QT 14 [t 38,t 39] 40 37,P 37 40 41,M 41 42,QT 7 [] 43 42,P 42 43 44,M 44 6] [])<|
 .ret):=bj Tryz.func4
def G3: Of aD 5 51 [.tmp 2] (r [X 0 1,gF 2]<|
 gR [A 0 1 4,K 4 5,S 5 6,D .gtr 6 300 7,M 7 8,AF 5 1 9 8,KF 9 10 8,NF 10 11 8,DF .gtr 11 26 12 8,O 8 12 13,M 13 14,AF 1 1 15 14,KF 15 16 14,CF 15 [t 16] 17 14,UF 17 18 14,O 14 18 19,M 19 20,AF 2 1 21 20,KF 21 22 20,CF 15 [t 22] 23 20,UF 23 24 20,O 20 24 25] 25 [gF 2]<|
 q (r [V z0 3]<|
 gL 0 [M 3 26,A 5 1 27,K 27 28,N 28 29,B .lss 26 29 30] 30 ((
 q (.block 1 (r [A 5 1 33,K 33 34,M 3 35,I true 2 34 35 36,A 0 36 37,K 37 38,C 16 [t 38] 39,U 39 40,M 40 41,AF 5 1 42 41,KF 42 43 41,MF 3 44 41,IF true 2 43 44 45 41,AF 1 45 46 41,KF 46 47 41,CF 16 [t 47] 48 41,UF 48 49 41,O 41 49 50]<|
 c 50 (r [gF 2]<|
 .ret) k))<|
 R [M 3 31,D .add 31 1 32,M 32 3])))<|
 r [gT 2]<|
 .ret):=bj Tryz.func5
def G4: Of aD 6 20 [.tmp 2] (r [gF 2]<|
 gR [M 0 4,N 4 5,D .gtr 5 12 6] 6 [gF 2]<|
 q (r [V z0 3]<|
 gL 0 [M 3 7,M 0 8,N 8 9,B .lss 7 9 10] 10 ((
 q (.block 1 (r [M 0 13,M 3 14,I true 3 13 14 15,A 2 15 16,K 16 17,S 17 18,D .gtr 18 300 19]<|
 c 19 (r [gF 2]<|
 .ret) k))<|
 R [M 3 11,D .add 11 1 12,M 12 3])))<|
 r [gT 2]<|
 .ret):=bj Tryz.func6
def KG: Of aD 7 56 [.tmp 0] (r [gF 0]<|
 r [C 17 [] 8,C 18 [gJ 3] 9,gB true 3 (.agg [z0,z0,e0]) 1 [(0,t 9)] 10,C 8 [t 8,gJ 2,t 10] 11,M 11 7,E 7 0 12,E 7 1 13,J [e0,z0,.ai,z0,.ai,.ai] 1,W 6 1 12,M 13 2]<|
 r [L 6 1 15,C 19 [t 15] 16,M 16 14,E 14 0 17,E 14 1 18,M 17 3,M 18 4]<|
 r [M 3 20,C 20 [t 20] 21,M 21 19,E 19 0 22,E 19 1 23,J [e0,z0,.ai,z0,.ai,.ai] 5,W 6 5 22,M 23 6]<|
 q (.draw [L 6 1 24,Q 18 [gJ 3] 25,gB true 3 (.agg [z0,z0,e0]) 1 [(0,t 25)] 26,gB false 1 z0 1 [(0,.c z0)] 27,Q 18 [gJ 3] 28,gB true 3 (.agg [z0,z0,e0]) 1 [(0,t 28)] 29,gB false 1 .ai 1 [(0,t 29)] 30,gU [z0,.ai,.ai] [(1,1,t 27),(2,1,t 30)] 31,gU [e0,z0,.ai,z0,.ai,.ai] [(0,1,gS [116]),(1,1,gJ 2),(2,1,t 26),(3,3,t 31)] 32,Q 10 [t 24,t 32] 33,M 33 34,MT 2 35 34,DT .eql 35 0 36 34,P 34 36 37,M 37 38,MT 4 39 38,DT .eql 39 0 40 38,P 38 40 41,M 41 42,LT 6 1 43 42,LT 6 5 44 42,QT 10 [t 43,t 44] 45 42,P 42 45 46,M 46 47,MT 6 48 47,DT .eql 48 0 49 47,P 47 49 50,M 50 51,LT 6 1 52 51,QT 17 [] 53 51,QT 12 [t 52,t 53] 54 51,P 51 54 55,M 55 0] [])<|
 .ret):=bj Tryz.func7
def rE: Of aD 8 56 [.cell 6 true 6,.tmp 7] (r [X 0 3,J [e0,z0,.ai,z0,.ai,.ai] 6,V z0 7]<|
 gR [M 1 15,D .lss 15 1 16,M 16 17,MF 1 18 17,DF .gtr 18 2147483648 19 17,O 17 19 20] 20 [gU [e0,z0,.ai,z0,.ai,.ai] [] 21,W 6 6 21,V (i6 2) 7]<|
 r [L 6 3 23,C 21 [t 23] 24,M 24 22,E 22 0 25,E 22 1 26,E 22 2 27,E 22 3 28,J [e0,.ai,.ai,z0,z0,.ai,.ai] 8,W 7 8 25,M 26 9,M 27 10,M 28 11]<|
 gR [M 11 29,D .neq 29 0 30] 30 [gU [e0,z0,.ai,z0,.ai,.ai] [] 31,M 11 32,W 6 6 31,M 32 7]<|
 r [L 7 8 34,M 2 35,C 22 [t 34,t 35] 36,M 36 33,E 33 0 37,E 33 1 38,J [z0,.ai,.ai] 12,W 3 12 37,M 38 11]<|
 gR [M 11 39,D .neq 39 0 40] 40 [gU [e0,z0,.ai,z0,.ai,.ai] [] 41,M 11 42,W 6 6 41,M 42 7]<|
 r [A 0 3 43,K 43 44,M 1 45,M 2 46,L 3 12 47,gU [e0,z0,.ai,z0,.ai,.ai] [(0,1,t 44),(1,1,t 45),(2,1,t 46),(3,3,t 47)] 48,J [e0,z0,.ai,z0,.ai,.ai] 13,W 6 13 48]<|
 q (r [L 6 13 49,C 23 [t 49] 50,M 50 14]<|
 r [M 14 51,D .neq 51 0 52]<|
 c 52 (r [gU [e0,z0,.ai,z0,.ai,.ai] [] 53,M 14 54,W 6 6 53,M 54 7]<|
 .ret) k)<|
 r [L 6 13 55,W 6 6 55,V z0 7]<|
 .ret):=bj Tryz.func8
def rF: Of aD 9 55 [.cell 6 true 6,.tmp 7] (r [X 0 3,J [e0,z0,.ai,z0,.ai,.ai] 6,V z0 7]<|
 gR [M 1 15,D .lss 15 1 16,M 16 17,MF 1 18 17,DF .gtr 18 2147483648 19 17,O 17 19 20] 20 [gU [e0,z0,.ai,z0,.ai,.ai] [] 21,W 6 6 21,V (i6 2) 7]<|
 r [L 6 3 23,C 24 [t 23] 24,M 24 22,E 22 0 25,E 22 1 26,E 22 2 27,E 22 3 28,J [e0,.ai,.ai,z0,z0,.ai,.ai] 8,W 7 8 25,M 26 9,M 27 10,M 28 11]<|
 gR [M 11 29,D .neq 29 0 30] 30 [gU [e0,z0,.ai,z0,.ai,.ai] [] 31,M 11 32,W 6 6 31,M 32 7]<|
 r [L 7 8 34,M 2 35,C 25 [t 34,t 35] 36,M 36 33,E 33 0 37,E 33 1 38,J [z0,.ai,.ai] 12,W 3 12 37,M 38 13]<|
 gR [M 13 39,D .neq 39 0 40] 40 [gU [e0,z0,.ai,z0,.ai,.ai] [] 41,M 13 42,W 6 6 41,M 42 7]<|
 r [A 0 3 43,K 43 44,M 1 45,M 2 46,L 3 12 47,gU [e0,z0,.ai,z0,.ai,.ai] [(0,1,t 44),(1,1,t 45),(2,1,t 46),(3,3,t 47)] 48,J [e0,z0,.ai,z0,.ai,.ai] 14,W 6 14 48]<|
 gR [L 6 14 49,C 26 [t 49] 50,S 50 51,D .gtr 51 1400 52] 52 [gU [e0,z0,.ai,z0,.ai,.ai] [] 53,W 6 6 53,V (i6 5) 7]<|
 r [L 6 14 54,W 6 6 54,V z0 7]<|
 .ret):=bj Tryz.func9
def Nh: Of aD 10 31 [.tmp 4] (r [X 0 2,X 1 3,gF 4]<|
 r [A 0 2 5,K 5 6,A 0 3 7,K 7 8,B .eql 6 8 9,M 9 10,AT 1 2 11 10,KT 11 12 10,AT 1 3 13 10,KT 13 14 10,BT .eql 12 14 15 10,P 10 15 16,M 16 17,AT 2 2 18 17,KT 18 19 17,AT 2 3 20 17,KT 20 21 17,CT 27 [t 19,t 21] 22 17,P 17 22 23,M 23 24,AT 3 2 25 24,LT 3 25 26 24,AT 3 3 27 24,LT 3 27 28 24,CT 28 [t 26,t 28] 29 24,P 24 29 30,M 30 4]<|
 .ret):=bj Tryz.func10
def G5: Of aD 11 44 [.tmp 2] (r [X 0 1,gF 2]<|
 gR [A 0 1 4,K 4 5,S 5 6,D .gtr 6 300 7,M 7 8,AF 2 1 9 8,KF 9 10 8,CF 6 [t 10] 11 8,UF 11 12 8,O 8 12 13,M 13 14,AF 3 1 15 14,AF 1 15 16 14,KF 16 17 14,NF 17 18 14,DF .gtr 18 30 19 14,O 14 19 20,M 20 21,AF 3 1 22 21,AF 2 22 23 21,KF 23 24 21,NF 24 25 21,DF .gtr 25 30 26 21,O 21 26 27] 27 [gF 2]<|
 q (r [V z0 3]<|
 gL 0 [M 3 28,A 3 1 29,A 2 29 30,K 30 31,N 31 32,B .lss 28 32 33] 33 ((
 q (.block 1 (r [A 3 1 36,A 2 36 37,K 37 38,M 3 39,I false 1 38 39 40,K 40 41,C 6 [t 41] 42,U 42 43]<|
 c 43 (r [gF 2]<|
 .ret) k))<|
 R [M 3 34,D .add 34 1 35,M 35 3])))<|
 r [gT 2]<|
 .ret):=bj Tryz.func11
def KH: Of aD 12 23 [.tmp 4] (r [X 0 2,X 1 3,gF 4]<|
 r [L 6 3 8,A 1 2 9,K 9 10,A 2 2 11,K 11 12,C 8 [t 8,t 10,t 12] 13,M 13 7,E 7 0 14,E 7 1 15,J [e0,z0,.ai,z0,.ai,.ai] 5,W 6 5 14,M 15 6]<|
 r [M 6 16,D .eql 16 0 17,M 17 18,LT 6 2 19 18,LT 6 5 20 18,CT 14 [t 19,t 20] 21 18,P 18 21 22,M 22 4]<|
 .ret):=bj Tryz.func12
def KI: Of aD 13 23 [.tmp 4] (r [X 0 2,X 1 3,gF 4]<|
 r [L 6 3 8,A 1 2 9,K 9 10,A 2 2 11,K 11 12,C 9 [t 8,t 10,t 12] 13,M 13 7,E 7 0 14,E 7 1 15,J [e0,z0,.ai,z0,.ai,.ai] 5,W 6 5 14,M 15 6]<|
 r [M 6 16,D .eql 16 0 17,M 17 18,LT 6 2 19 18,LT 6 5 20 18,CT 10 [t 19,t 20] 21 18,P 18 21 22,M 22 4]<|
 .ret):=bj Tryz.func13
def Ni: Of aD 14 31 [.tmp 4] (r [X 0 2,X 1 3,gF 4]<|
 r [A 0 2 5,K 5 6,A 0 3 7,K 7 8,B .eql 6 8 9,M 9 10,AT 1 2 11 10,KT 11 12 10,AT 1 3 13 10,KT 13 14 10,BT .eql 12 14 15 10,P 10 15 16,M 16 17,AT 2 2 18 17,KT 18 19 17,AT 2 3 20 17,KT 20 21 17,CT 29 [t 19,t 21] 22 17,P 17 22 23,M 23 24,AT 3 2 25 24,LT 3 25 26 24,AT 3 3 27 24,LT 3 27 28 24,CT 30 [t 26,t 28] 29 24,P 24 29 30,M 30 4]<|
 .ret):=bj Tryz.func14
def KJ: Of aD 15 42 [.tmp 2] (r [gF 2]<|
 gR [M 0 5,C 31 [t 5] 6,U 6 7] 7 [gF 2]<|
 q (r [V z0 3]<|
 gL 0 [M 3 8,M 0 9,N 9 10,B .lss 8 10 11] 11 ((
 q (.block 1 (gR [M 0 14,M 3 15,I true 3 14 15 16,A 2 16 17,K 17 18,N 18 19,D .gtr 19 12 20] 20 [gF 2]<|
 r [V z0 4]<|
 gL 2 [M 4 21,M 0 22,M 3 23,I true 3 22 23 24,A 2 24 25,K 25 26,N 26 27,B .lss 21 27 28] 28 ((
 q (.block 3 (r [M 0 31,M 3 32,I true 3 31 32 33,A 2 33 34,K 34 35,M 4 36,I true 3 35 36 37,A 2 37 38,K 38 39,S 39 40,D .gtr 40 300 41]<|
 c 41 (r [gF 2]<|
 .ret) k))<|
 R [M 4 29,D .add 29 1 30,M 30 4]))))<|
 R [M 3 12,D .add 12 1 13,M 13 3])))<|
 r [gT 2]<|
 .ret):=bj Tryz.func15
def KL: Of aD 16 19 [.tmp 2] (r [gF 2]<|
 gR [M 0 4,N 4 5,D .gtr 5 10 6] 6 [gF 2]<|
 q (r [V z0 3]<|
 gL 0 [M 3 7,M 0 8,N 8 9,B .lss 7 9 10] 10 ((
 q (.block 1 (r [M 0 13,M 3 14,I false 1 13 14 15,K 15 16,S 16 17,D .gtr 17 300 18]<|
 c 18 (r [gF 2]<|
 .ret) k))<|
 R [M 3 11,D .add 11 1 12,M 12 3])))<|
 r [gT 2]<|
 .ret):=bj Tryz.func16
def G6: Of aD 17 10 [.cell 0 true 6] (r [J [e0,.ai,.ai,z0,z0,.ai] 0]<|
 r [gU [e0,z0,.ai] [(0,1,gS [97]),(1,1,gJ 1)] 1,gB true 3 (.agg [e0,z0,.ai]) 1 [(0,t 1)] 2,gU [e0,z0,.ai] [(0,1,gS [111]),(1,1,gJ 1)] 3,gB true 3 (.agg [e0,z0,.ai]) 1 [(0,t 3)] 4,gB false 1 e0 1 [(0,gS [45])] 5,gB false 1 e0 1 [(0,gS [97])] 6,gU [.ai,.ai] [(0,1,t 5),(1,1,t 6)] 7,gB true 2 (.agg [.ai,.ai]) 1 [(0,t 7)] 8,gU [e0,.ai,.ai,z0,z0,.ai] [(0,1,gS [116]),(1,1,t 2),(2,1,t 4),(3,1,gJ 2),(5,1,t 8)] 9,W 6 0 9]<|
 .ret):=bj Tryz.func17
def Pe: Of aD 18 5 [.cell 2 true 3] (r [J [z0,z0,e0] 2]<|
 r [M 0 3,gU [z0,z0,e0] [(0,1,gJ 1),(1,1,t 3)] 4,W 3 2 4]<|
 .ret):=bj Tryz.func18
def zO: Of aD 19 12 [.tmp 2,.tmp 3] (r [X 0 1,V e0 2,V z0 3]<|
 q (r [L 6 1 5,C 23 [t 5] 6,M 6 4]<|
 r [M 4 7,D .neq 7 0 8]<|
 c 8 (r [M 4 9,V e0 2,M 9 3]<|
 .ret) k)<|
 r [L 6 1 10,C 32 [t 10] 11,M 11 2,V z0 3]<|
 .ret):=bj Tryz.func19
def KM: Of aD 20 66 [.cell 2 true 6,.tmp 3] (r [J [e0,z0,.ai,z0,.ai,.ai] 2,V z0 3]<|
 r [J [e0,z0,.ai,z0,.ai,.ai] 4]<|
 r [gU [e0,z0] [] 8,X 8 9,M 9 5]<|
 r [M 5 11,M 5 12,M 0 13,C 33 [t 13,gJ 1400] 14,M 14 10,E 10 0 15,E 10 1 16,E 10 2 17,A 0 4 18,W 1 18 15,Z 11 19,A 0 19 20,W 1 20 16,Z 12 21,A 1 21 22,W 1 22 17]<|
 r [M 5 23,C 34 [t 23] 24,A 1 4 25,W 1 25 24]<|
 r [M 5 26,C 35 [t 26] 27,A 2 4 28,W 1 28 27]<|
 r [M 5 29,C 34 [t 29] 30,A 3 4 31,A 0 31 32,W 1 32 30]<|
 r [M 5 33,M 5 34,bq (.q_ (.func 34) [t 34] []) 35,C 36 [t 33,t 35] 36,A 3 4 37,A 1 37 38,W 1 38 36]<|
 r [M 5 39,M 5 40,bq (.q_ (.func 35) [t 40] []) 41,C 37 [t 39,t 41] 42,A 3 4 43,A 2 43 44,W 1 44 42]<|
 q (r [L 6 4 46,C 19 [t 46] 47,M 47 45,E 45 0 48,E 45 1 49,M 48 6,M 49 7]<|
 r [M 5 50,Z 50 51,A 1 51 52,K 52 53,D .neq 53 0 54,M 54 55,MF 7 56 55,DF .neq 56 0 57 55,O 55 57 58,M 58 59,MF 6 60 59,MF 0 61 59,BF .neq 60 61 62 59,O 59 62 63]<|
 c 63 (r [gU [e0,z0,.ai,z0,.ai,.ai] [] 64,W 6 2 64,V (i6 4) 3]<|
 .ret) k)<|
 r [L 6 4 65,W 6 2 65,V z0 3]<|
 .ret):=bj Tryz.func20
def zP: Of aD 21 50 [.cell 2 true 7,.tmp 3,.tmp 4,.tmp 5] (r [X 0 1,J [e0,.ai,.ai,z0,z0,.ai,.ai] 2,V z0 3,V z0 4,V z0 5]<|
 q (r [L 6 1 13,C 38 [t 13] 14,M 14 6]<|
 r [M 6 15,D .neq 15 0 16]<|
 c 16 (r [gU [e0,.ai,.ai,z0,z0,.ai,.ai] [] 17,M 6 18,W 7 2 17,V (i6 (-1)) 3,V z0 4,M 18 5]<|
 .ret) k)<|
 r [L 6 1 19,gU [e0,.ai,.ai,z0,z0,.ai,.ai] [(0,6,t 19)] 20,J [e0,.ai,.ai,z0,z0,.ai,.ai] 7,W 7 7 20]<|
 q (r [A 5 1 21,K 21 22,N 22 23,V z0 24]<|
 .block 0 (.loop (r [B .lss 24 23 25]<|
 q (c 25 k (.exit 0))<|
 q (.block 1 (r [M 24 26,I true 2 22 24 27,L 2 27 28,J [.ai,.ai] 9,M 26 8,W 2 9 28]<|
 r [L 6 1 30,L 2 9 31,C 39 [t 30,t 31] 32,M 32 29,E 29 0 33,E 29 1 34,E 29 2 35,J [.ai,.ai] 10,W 2 10 33,M 34 11,M 35 12]<|
 gR [M 12 36,D .neq 36 0 37] 37 [gU [e0,.ai,.ai,z0,z0,.ai,.ai] [] 38,M 8 39,M 11 40,M 12 41,W 7 2 38,M 39 3,M 40 4,M 41 5]<|
 R [A 6 7 42,K 42 43,L 2 10 44,gB true 2 (.agg [.ai,.ai]) 1 [(0,t 44)] 45,gA true 2 43 45 46,A 6 7 47,W 1 47 46]))<|
 R [D .add 24 1 48,M 48 24])))<|
 r [L 7 7 49,W 7 2 49,V z0 3,V z0 4,V z0 5]<|
 .ret):=bj Tryz.func21
def rW: Of aD 22 60 [.cell 4 true 3,.tmp 5] (r [X 0 2,J [z0,.ai,.ai] 4,V z0 5]<|
 r [L 7 2 11,M 1 12,C 40 [t 11,t 12] 13,M 13 10,E 10 0 14,E 10 1 15,E 10 2 16,M 14 6,M 15 7,M 16 8]<|
 q (.block 0 (r [M 8 18,D .eql 18 21 19,M 19 17]<|
 c 17 (r [gU [z0,.ai,.ai] [] 20,M 8 21,W 3 4 20,M 21 5]<|
 .ret) (r [M 8 23,D .neq 23 0 24,M 24 22]<|
 c 22 (r [M 8 25,M 7 26,gB false 1 z0 1 [(0,t 26)] 27,gU [z0,.ai,.ai] [(0,1,t 25),(1,1,t 27)] 28,W 3 4 28,V z0 5]<|
 .ret) (r [A 0 2 30,A 3 30 31,K 31 32,D .eql 32 1 33,M 33 34,MT 6 35 34,NT 35 36 34,DT .gtr 36 1 37 34,P 34 37 38,M 38 29]<|
 c 29 (r [M 6 39,gU [z0,.ai,.ai] [(0,1,gJ 19),(1,1,t 39)] 40,W 3 4 40,V z0 5]<|
 .ret) k))))<|
 r [L 7 2 42,M 6 43,M 1 44,C 41 [t 42,t 43,t 44] 45,M 45 41,E 41 0 46,E 41 1 47,E 41 2 48,M 46 9,M 47 7,M 48 8]<|
 gR [M 8 49,D .neq 49 0 50] 50 [M 8 51,M 7 52,gB false 1 z0 1 [(0,t 52)] 53,gU [z0,.ai,.ai] [(0,1,t 51),(1,1,t 53)] 54,W 3 4 54,V z0 5]<|
 r [A 0 2 55,L 6 55 56,M 6 57,M 9 58,C 42 [t 56,t 57,t 58] 59,W 3 4 59,V z0 5]<|
 .ret):=bj Tryz.func22
def zQ: Of aD 23 12 [.tmp 2] (r [X 0 1,V z0 2]<|
 q (.block 0 (r [L 6 1 4,C 43 [t 4] 5,U 5 6,M 6 3]<|
 c 3 (r [V (i6 2) 2]<|
 .ret) (r [L 6 1 8,C 32 [t 8] 9,S 9 10,D .gtr 10 1400 11,M 11 7]<|
 c 7 (r [V (i6 5) 2]<|
 .ret) k)))<|
 r [V z0 2]<|
 .ret):=bj Tryz.func23
def Co: Of aD 24 51 [.cell 2 true 7,.tmp 3,.tmp 4,.tmp 5] (r [X 0 1,J [e0,.ai,.ai,z0,z0,.ai,.ai] 2,V z0 3,V z0 4,V z0 5]<|
 q (r [L 6 1 12,C 44 [t 12] 13,M 13 6]<|
 r [M 6 14,D .neq 14 0 15]<|
 c 15 (r [gU [e0,.ai,.ai,z0,z0,.ai,.ai] [] 16,M 6 17,W 7 2 16,V (i6 (-1)) 3,V z0 4,M 17 5]<|
 .ret) k)<|
 r [L 6 1 18,gU [e0,.ai,.ai,z0,z0,.ai,.ai] [(0,6,t 18)] 19,J [e0,.ai,.ai,z0,z0,.ai,.ai] 7,W 7 7 19]<|
 q (r [V z0 8]<|
 gL 0 [M 8 20,A 5 1 21,K 21 22,N 22 23,B .lss 20 23 24] 24 ((
 q (.block 1 (q (.draw [L 6 1 28,A 5 1 29,K 29 30,M 8 31,I true 2 30 31 32,L 2 32 33,Q 45 [t 28,t 33] 34,M 34 27,E 27 0 35,E 27 1 36,E 27 2 37,J [.ai,.ai] 9,W 2 9 35,M 36 10,M 37 11] [])<|
 gR [M 11 38,D .neq 38 0 39] 39 [gU [e0,.ai,.ai,z0,z0,.ai,.ai] [] 40,M 8 41,M 10 42,M 11 43,W 7 2 40,M 41 3,M 42 4,M 43 5]<|
 R [A 6 7 44,K 44 45,L 2 9 46,gB true 2 (.agg [.ai,.ai]) 1 [(0,t 46)] 47,gA true 2 45 47 48,A 6 7 49,W 1 49 48]))<|
 R [M 8 25,D .add 25 1 26,M 26 8])))<|
 r [L 7 7 50,W 7 2 50,V z0 3,V z0 4,V z0 5]<|
 .ret):=bj Tryz.func24
def pS: Of aD 25 123 [.cell 4 true 3,.tmp 5] (r [X 0 2,J [z0,.ai,.ai] 4,V z0 5]<|
 r [L 7 2 14,M 1 15,C 46 [t 14,t 15] 16,M 16 13,E 13 0 17,E 13 1 18,E 13 2 19,M 17 6,M 18 7,M 19 8]<|
 q (.block 0 (r [M 8 21,D .eql 21 21 22,M 22 20]<|
 c 20 (r [gU [z0,.ai,.ai] [] 23,M 8 24,W 3 4 23,M 24 5]<|
 .ret) (r [M 8 26,D .neq 26 0 27,M 27 25]<|
 c 25 (r [M 8 28,M 7 29,gB false 1 z0 1 [(0,t 29)] 30,gU [z0,.ai,.ai] [(0,1,t 28),(1,1,t 30)] 31,W 3 4 31,V z0 5]<|
 .ret) (r [A 0 2 33,A 3 33 34,K 34 35,D .eql 35 1 36,M 36 37,MT 6 38 37,NT 38 39 37,DT .gtr 39 1 40 37,P 37 40 41,M 41 32]<|
 c 32 (r [M 6 42,gU [z0,.ai,.ai] [(0,1,gJ 19),(1,1,t 42)] 43,W 3 4 43,V z0 5]<|
 .ret) k))))<|
 r [bq (.ji ⟨false,1⟩) 9]<|
 q (r [V z0 10]<|
 gL 1 [M 10 44,M 6 45,N 45 46,B .lss 44 46 47] 47 ((
 q (.block 2 (q (.draw [A 6 2 51,K 51 52,M 6 53,M 10 54,I false 1 53 54 55,K 55 56,I true 2 52 56 57,L 2 57 58,A 0 2 59,A 1 59 60,K 60 61,M 1 62,Q 47 [t 58,t 61,t 62] 63,M 63 50,E 50 0 64,E 50 1 65,M 64 11,M 65 12] [])<|
 gR [M 12 66,D .neq 66 0 67] 67 [M 12 68,M 6 69,M 10 70,I false 1 69 70 71,K 71 72,gB false 1 z0 1 [(0,t 72)] 73,gU [z0,.ai,.ai] [(0,1,t 68),(1,1,t 73)] 74,W 3 4 74,V z0 5]<|
 R [M 9 75,M 11 76,gB false 1 .ai 1 [(0,t 76)] 77,gA false 1 75 77 78,M 78 9]))<|
 R [M 10 48,D .add 48 1 49,M 49 10])))<|
 q (.block 3 (r [A 0 2 80,A 3 80 81,K 81 82,D .eql 82 5 83,M 83 84,AT 0 2 85 84,AT 4 85 86 84,KT 86 87 84,DT .neq 87 0 88 84,P 84 88 89,M 89 79]<|
 c 79 (r [A 0 2 90,A 4 90 91,K 91 92,M 6 93,bq (.ex .FP [t 9]) 94,C 48 [t 92,t 93,t 94] 95,W 3 4 95,V z0 5]<|
 .ret) (r [M 6 97,N 97 98,D .eql 98 0 99,M 99 96]<|
 c 96 (r [gU [z0,.ai,.ai] [] 100,W 3 4 100,V z0 5]<|
 .ret) (r [A 0 2 102,A 3 102 103,K 103 104,D .eql 104 5 105,M 105 101]<|
 c 101 (r [M 6 106,bq (.ex .FP [t 9]) 107,C 49 [t 107] 108,gU [z0,.ai,.ai] [(1,1,t 106),(2,1,t 108)] 109,W 3 4 109,V z0 5]<|
 .ret) (r [A 0 2 111,A 3 111 112,K 112 113,D .eql 113 6 114,M 114 110]<|
 c 110 (r [M 6 115,bq (.ex .FP [t 9]) 116,gU [z0,.ai,.ai] [(1,1,t 115),(2,1,t 116)] 117,W 3 4 117,V z0 5]<|
 .ret) k)))))<|
 r [A 0 2 118,L 6 118 119,M 6 120,bq (.ex .FP [t 9]) 121,C 50 [t 119,t 120,t 121] 122,W 3 4 122,V z0 5]<|
 .ret):=pR ⟨[],[94,107,116,121],[(9,⟨false,1⟩)],[],[],[]⟩ Tryz.func25
def Nj: Of aD 26 70 [.tmp 2] (r [X 0 1,V e0 2]<|
 q (.draw [A 0 1 6,K 6 7,Q 51 [t 7] 8,A 1 1 9,K 9 10,Q 52 [t 10] 11,B .add 8 11 12,A 2 1 13,K 13 14,Q 53 [t 14] 15,B .add 12 15 16,A 3 1 17,A 0 17 18,K 18 19,Q 52 [t 19] 20,B .add 16 20 21,A 3 1 22,A 1 22 23,K 23 24,N 24 25,Q 52 [t 25] 26,B .add 21 26 27,M 27 3] [])<|
 q (r [V z0 4]<|
 gL 0 [M 4 28,A 3 1 29,A 1 29 30,K 30 31,N 31 32,B .lss 28 32 33] 33 ((
 q (.block 1 (R [M 3 36,A 3 1 37,A 1 37 38,K 38 39,M 4 40,I false 1 39 40 41,K 41 42,C 52 [t 42] 43,B .add 36 43 44,M 44 3]))<|
 R [M 4 34,D .add 34 1 35,M 35 4])))<|
 r [M 3 45,A 3 1 46,A 2 46 47,K 47 48,N 48 49,C 52 [t 49] 50,B .add 45 50 51,M 51 3]<|
 q (r [V z0 5]<|
 gL 2 [M 5 52,A 3 1 53,A 2 53 54,K 54 55,N 55 56,B .lss 52 56 57] 57 ((
 q (.block 3 (R [M 3 60,A 3 1 61,A 2 61 62,K 62 63,M 5 64,I false 1 63 64 65,K 65 66,C 53 [t 66] 67,B .add 60 67 68,M 68 3]))<|
 R [M 5 58,D .add 58 1 59,M 59 5])))<|
 r [M 3 69,M 69 2]<|
 .ret):=bj Tryz.func26
def G7: Of aD 27 26 [.tmp 4] (r [gF 4]<|
 gR [M 0 6,N 6 7,M 1 8,N 8 9,B .neq 7 9 10] 10 [gF 4]<|
 q (r [V z0 5]<|
 gL 0 [M 5 11,M 0 12,N 12 13,B .lss 11 13 14] 14 ((
 q (.block 1 (q (.draw [M 0 17,M 5 18,I true 3 17 18 19,L 3 19 20,M 1 21,M 5 22,I true 3 21 22 23,L 3 23 24,bq (.jD true true [.i,.i,.s] (t 20) (t 24)) 25] [])<|
 c 25 (r [gF 4]<|
 .ret) k))<|
 R [M 5 15,D .add 15 1 16,M 16 5])))<|
 r [gT 4]<|
 .ret):=bj Tryz.func27
def Nk: Of aD 28 24 [.tmp 4] (r [X 0 2,X 1 3,gF 4]<|
 r [A 0 2 5,K 5 6,A 0 3 7,K 7 8,B .eql 6 8 9,M 9 10,AT 1 2 11 10,KT 11 12 10,AT 1 3 13 10,KT 13 14 10,CT 54 [t 12,t 14] 15 10,P 10 15 16,M 16 17,AT 2 2 18 17,KT 18 19 17,AT 2 3 20 17,KT 20 21 17,CT 55 [t 19,t 21] 22 17,P 17 22 23,M 23 4]<|
 .ret):=bj Tryz.func28
def zR: Of aD 29 26 [.tmp 4] (r [gF 4]<|
 gR [M 0 6,N 6 7,M 1 8,N 8 9,B .neq 7 9 10] 10 [gF 4]<|
 q (r [M 0 11,N 11 12,V z0 13]<|
 .block 0 (.loop (r [B .lss 13 12 14]<|
 q (c 14 k (.exit 0))<|
 q (.block 1 (r [M 13 15,M 15 5]<|
 q (.draw [M 0 16,M 5 17,I true 3 16 17 18,L 3 18 19,M 1 20,M 5 21,I true 3 20 21 22,L 3 22 23,bq (.jD true true [.i,.i,.s] (t 19) (t 23)) 24] [])<|
 c 24 (r [gF 4]<|
 .ret) k))<|
 R [D .add 13 1 25,M 25 13])))<|
 r [gT 4]<|
 .ret):=bj Tryz.func29
def Rs: Of aD 30 24 [.tmp 4] (r [X 0 2,X 1 3,gF 4]<|
 r [A 0 2 5,K 5 6,A 0 3 7,K 7 8,B .eql 6 8 9,M 9 10,AT 1 2 11 10,KT 11 12 10,AT 1 3 13 10,KT 13 14 10,CT 56 [t 12,t 14] 15 10,P 10 15 16,M 16 17,AT 2 2 18 17,KT 18 19 17,AT 2 3 20 17,KT 20 21 17,CT 57 [t 19,t 21,(.c (.fn (.func 58) [] []))] 22 17,P 17 22 23,M 23 4]<|
 .ret):=bj Tryz.func30
def FE: Of aD 31 20 [.tmp 2] (r [gF 2]<|
 gR [M 0 4,N 4 5,D .gtr 5 12 6] 6 [gF 2]<|
 q (r [V z0 3]<|
 gL 0 [M 3 7,M 0 8,N 8 9,B .lss 7 9 10] 10 ((
 q (.block 1 (r [M 0 13,M 3 14,I true 3 13 14 15,A 0 15 16,K 16 17,S 17 18,D .gtr 18 300 19]<|
 c 19 (r [gF 2]<|
 .ret) k))<|
 R [M 3 11,D .add 11 1 12,M 12 3])))<|
 r [gT 2]<|
 .ret):=bj Tryz.func31
def Nl: Of aD 32 66 [.tmp 2] (r [X 0 1,V e0 2]<|
 q (.draw [A 0 1 9,K 9 10,Q 59 [t 10] 11,A 1 1 12,K 12 13,Q 60 [t 13] 14,B .add 11 14 15,J [e0] 3,W 1 3 15] [])<|
 r [bq (.q_ (.func 61) [] [t 3]) 16,M 16 4]<|
 r [M 4 17,A 2 1 18,K 18 19,bq (.call false (t 17) [t 19]) 20]<|
 q (.draw [K 3 21,A 3 1 22,A 0 22 23,K 23 24,Q 60 [t 24] 25,A 3 1 26,A 1 26 27,K 27 28,N 28 29,Q 60 [t 29] 30,B .add 25 30 31,B .add 21 31 32,W 1 3 32] [])<|
 q (r [A 3 1 33,A 1 33 34,K 34 35,N 35 36,V z0 37]<|
 .block 0 (.loop (r [B .lss 37 36 38]<|
 q (c 38 k (.exit 0))<|
 q (.block 1 (r [I false 1 35 37 39,K 39 40,M 40 6]<|
 .draw [K 3 41,M 6 42,Q 60 [t 42] 43,B .add 41 43 44,W 1 3 44] []))<|
 R [D .add 37 1 45,M 45 37])))<|
 q (.draw [K 3 46,A 3 1 47,A 2 47 48,K 48 49,N 49 50,Q 60 [t 50] 51,B .add 46 51 52,W 1 3 52] [])<|
 q (r [A 3 1 53,A 2 53 54,K 54 55,N 55 56,V z0 57]<|
 .block 2 (.loop (r [B .lss 57 56 58]<|
 q (c 58 k (.exit 2))<|
 q (.block 3 (r [I false 1 55 57 59,K 59 60,M 60 8]<|
 R [M 4 61,M 8 62,bq (.call false (t 61) [t 62]) 63]))<|
 R [D .add 57 1 64,M 64 57])))<|
 r [K 3 65,M 65 2]<|
 .ret):=bj Tryz.func32
def l8: Of aD 33 32 [.tmp 4,.tmp 5,.tmp 6] (r [V e0 4,V e0 5,V z0 6]<|
 r [M 0 11,M 1 12,C 63 [t 11,t 12] 13,M 13 10,E 10 0 14,E 10 1 15,E 10 2 16,M 14 7,M 15 8,M 16 9]<|
 q (.block 0 (r [M 9 18,D .neq 18 0 19,M 19 17]<|
 c 17 (r [M 9 20,V e0 4,V e0 5,M 20 6]<|
 .ret) (r [M 7 22,M 8 23,S 23 24,B .gtr 22 24 25,M 25 21]<|
 c 21 (r [V e0 4,V e0 5,V (i6 3) 6]<|
 .ret) k)))<|
 q (.draw [M 8 26,M 7 27,bq (.p8 (t 26) none (some (t 27))) 28,M 8 29,M 7 30,bq (.p8 (t 29) (some (t 30)) none) 31,M 28 4,M 31 5,V z0 6] [])<|
 .ret):=bj Tryz.func33
def CO: Of aD 34 26 [.tmp 2] (r [V z0 2]<|
 r [M 0 7,Z 7 8,A 0 8 9,K 9 10,C 64 [t 10] 11,M 11 6,E 6 0 12,E 6 1 13,E 6 2 14,M 12 3,M 13 4,M 14 5]<|
 r [M 0 15,M 4 16,Z 15 17,A 0 17 18,W 1 18 16]<|
 q (r [M 5 19,D .neq 19 0 20]<|
 c 20 (R [M 0 21,M 5 22,Z 21 23,A 1 23 24,W 1 24 22]) k)<|
 r [M 3 25,M 25 2]<|
 .ret):=bj Tryz.func34
def CP: Of aD 35 26 [.tmp 2] (r [V .ai 2]<|
 r [M 0 7,Z 7 8,A 0 8 9,K 9 10,C 65 [t 10,gJ 6] 11,M 11 6,E 6 0 12,E 6 1 13,E 6 2 14,M 12 3,M 13 4,M 14 5]<|
 r [M 0 15,M 4 16,Z 15 17,A 0 17 18,W 1 18 16]<|
 q (r [M 5 19,D .neq 19 0 20]<|
 c 20 (R [M 0 21,M 5 22,Z 21 23,A 1 23 24,W 1 24 22]) k)<|
 r [M 3 25,M 25 2]<|
 .ret):=bj Tryz.func35
def FF: Of aD 36 28 [.tmp 4] (r [V .ai 4]<|
 r [bq (.ji ⟨false,1⟩) 5]<|
 q (r [M 0 8,C 34 [t 8] 9,M 9 6]<|
 gL 0 [M 5 10,N 10 11,M 6 12,B .lss 11 12 13,M 13 14,MT 0 15 14,ZT 15 16 14,AT 1 16 17 14,KT 17 18 14,DT .eql 18 0 19 14,P 14 19 20] 20 ((
 .block 1 (r [M 1 21,bq (.call false (t 21) []) 22,M 22 7]<|
 R [M 5 23,M 7 24,gB false 1 z0 1 [(0,t 24)] 25,gA false 1 23 25 26,M 26 5]))))<|
 r [M 5 27,M 27 4]<|
 .ret):=pR ⟨[],[],[(5,⟨false,1⟩)],[],[],[]⟩ Tryz.func36
def Bi: Of aD 37 28 [.tmp 4] (r [V .ai 4]<|
 r [bq (.ji ⟨false,1⟩) 5]<|
 q (r [M 0 8,C 34 [t 8] 9,M 9 6]<|
 gL 0 [M 5 10,N 10 11,M 6 12,B .lss 11 12 13,M 13 14,MT 0 15 14,ZT 15 16 14,AT 1 16 17 14,KT 17 18 14,DT .eql 18 0 19 14,P 14 19 20] 20 ((
 .block 1 (r [M 1 21,bq (.call false (t 21) []) 22,M 22 7]<|
 R [M 5 23,M 7 24,gB false 1 .ai 1 [(0,t 24)] 25,gA false 1 23 25 26,M 26 5]))))<|
 r [M 5 27,M 27 4]<|
 .ret):=pR ⟨[],[],[(5,⟨false,1⟩)],[],[],[]⟩ Tryz.func37
def yE: Of aD 38 33 [.tmp 2] (r [X 0 1,V z0 2]<|
 gR [A 0 1 5,K 5 6,C 66 [t 6] 7,U 7 8] 8 [V (i6 13) 2]<|
 q (r [A 1 1 9,K 9 10,C 67 [t 10,(.c (.bool false))] 11,M 11 3]<|
 r [M 3 12,D .neq 12 0 13]<|
 c 13 (r [M 3 14,M 14 2]<|
 .ret) k)<|
 q (r [A 2 1 15,K 15 16,A 3 1 17,K 17 18,D .eql 18 3 19,C 67 [t 16,t 19] 20,M 20 4]<|
 r [M 4 21,D .neq 21 0 22]<|
 c 22 (r [M 4 23,M 23 2]<|
 .ret) k)<|
 q (.block 0 (r [L 6 1 25,C 68 [t 25] 26,U 26 27,M 27 24]<|
 c 24 (r [V (i6 17) 2]<|
 .ret) (r [A 5 1 29,K 29 30,N 30 31,D .gtr 31 24 32,M 32 28]<|
 c 28 (r [V (i6 24) 2]<|
 .ret) k)))<|
 r [V z0 2]<|
 .ret):=bj Tryz.func38
def zS: Of aD 39 91 [.cell 4 true 2,.tmp 5,.tmp 6] (r [X 0 2,X 1 3,J [.ai,.ai] 4,V z0 5,V z0 6]<|
 gR [A 0 3 15,K 15 16,N 16 17,A 1 2 18,K 18 19,N 19 20,B .neq 17 20 21,M 21 22,AF 1 3 23 22,KF 23 24 22,NF 24 25 22,AF 2 2 26 22,KF 26 27 22,NF 27 28 22,BF .neq 25 28 29 22,O 22 29 30] 30 [L 2 4 31,W 2 4 31,V z0 5,V (i6 17) 6]<|
 q (r [A 0 3 32,K 32 33,N 33 34,V z0 35]<|
 .block 0 (.loop (r [B .lss 35 34 36]<|
 q (c 36 k (.exit 0))<|
 q (.block 1 (r [M 35 37,I false 1 33 35 38,K 38 39,M 37 7,M 39 8]<|
 r [L 6 2 41,M 7 42,M 8 43,C 69 [t 41,t 42,t 43] 44,M 44 40,E 40 0 45,E 40 1 46,J [.bool false,.bool false,.ai] 9,W 3 9 45,M 46 10]<|
 gR [M 10 47,D .neq 47 0 48] 48 [L 2 4 49,M 7 50,M 10 51,W 2 4 49,M 50 5,M 51 6]<|
 R [A 0 4 52,K 52 53,L 3 9 54,gB true 3 (.agg [.bool false,.bool false,.ai]) 1 [(0,t 54)] 55,gA true 3 53 55 56,A 0 4 57,W 1 57 56]))<|
 R [D .add 35 1 58,M 58 35])))<|
 q (r [A 1 3 59,K 59 60,N 60 61,V z0 62]<|
 .block 2 (.loop (r [B .lss 62 61 63]<|
 q (c 63 k (.exit 2))<|
 q (.block 3 (r [M 62 64,I false 1 60 62 65,K 65 66,M 64 11,M 66 12]<|
 r [L 6 2 68,M 11 69,M 12 70,C 70 [t 68,t 69,t 70] 71,M 71 67,E 67 0 72,E 67 1 73,J [z0,z0,z0,e0,e0,.ai] 13,W 6 13 72,M 73 14]<|
 q (r [M 14 74,D .neq 74 0 75]<|
 c 75 (q (.draw [L 2 4 76,A 1 2 77,K 77 78,N 78 79,M 11 80,B .add 79 80 81,M 14 82,W 2 4 76,M 81 5,M 82 6] [(t 77,t 4)])<|
 .ret) k)<|
 R [A 1 4 83,K 83 84,L 6 13 85,gB true 6 (.agg [z0,z0,z0,e0,e0,.ai]) 1 [(0,t 85)] 86,gA true 6 84 86 87,A 1 4 88,W 1 88 87]))<|
 R [D .add 62 1 89,M 89 62])))<|
 r [L 2 4 90,W 2 4 90,V z0 5,V z0 6]<|
 .ret):=bj Tryz.func39
def DC: Of aD 40 54 [.tmp 4,.tmp 5,.tmp 6] (r [X 0 2,V .ai 4,V z0 5,V z0 6]<|
 q (r [L 7 2 12,M 1 13,C 71 [t 12,t 13] 14,M 14 7]<|
 r [M 7 15,D .neq 15 0 16]<|
 c 16 (r [M 7 17,V .ai 4,V z0 5,M 17 6]<|
 .ret) k)<|
 r [bq (.ji ⟨false,1⟩) 8]<|
 q (r [A 6 2 18,K 18 19,N 19 20,V z0 21]<|
 .block 0 (.loop (r [B .lss 21 20 22]<|
 q (c 22 k (.exit 0))<|
 q (.block 1 (r [M 21 23,M 23 9]<|
 r [L 7 2 25,M 9 26,M 1 27,C 72 [t 25,t 26,t 27] 28,M 28 24,E 24 0 29,E 24 1 30,M 29 10,M 30 11]<|
 .block 2 (r [M 11 32,D .neq 32 0 33,M 33 31]<|
 c 31 (r [M 9 34,M 11 35,V .ai 4,M 34 5,M 35 6]<|
 .ret) (r [M 10 37,M 37 38,AT 0 2 39 38,AT 3 39 40 38,KT 40 41 38,DT .eql 41 2 42 38,P 38 42 43,M 43 36]<|
 c 36 (r [M 9 44,gB false 1 z0 1 [(0,t 44)] 45,M 45 4,V z0 5,V z0 6]<|
 .ret) (r [M 10 47,M 47 46]<|
 c 46 (R [M 8 48,M 9 49,gB false 1 z0 1 [(0,t 49)] 50,gA false 1 48 50 51,M 51 8]) k)))))<|
 R [D .add 21 1 52,M 52 21])))<|
 r [M 8 53,M 53 4,V z0 5,V z0 6]<|
 .ret):=pR ⟨[],[],[(8,⟨false,1⟩)],[],[],[]⟩ Tryz.func40
def Rt: Of aD 41 58 [.tmp 6,.tmp 7,.tmp 8] (r [X 0 3,V .ai 6,V z0 7,V z0 8]<|
 r [bq (.ji ⟨false,1⟩) 9]<|
 q (r [M 1 17,N 17 18,V z0 19]<|
 .block 0 (.loop (r [B .lss 19 18 20]<|
 q (c 20 k (.exit 0))<|
 q (.block 1 (r [I false 1 17 19 21,K 21 22,M 22 11]<|
 r [bq (.ji ⟨true,3⟩) 12]<|
 q (r [A 6 3 23,K 23 24,M 11 25,I true 2 24 25 26,A 1 26 27,K 27 28,N 28 29,V z0 30]<|
 .block 2 (.loop (r [B .lss 30 29 31]<|
 q (c 31 k (.exit 2))<|
 q (.block 3 (r [I true 6 28 30 32,L 6 32 33,J [z0,z0,z0,e0,e0,.ai] 14,W 6 14 33]<|
 r [L 6 14 35,A 0 3 36,A 1 36 37,K 37 38,M 2 39,C 73 [t 35,t 38,t 39] 40,M 40 34,E 34 0 41,E 34 1 42,J [z0,z0,e0] 15,W 3 15 41,M 42 16]<|
 gR [M 16 43,D .neq 43 0 44] 44 [M 11 45,M 16 46,V .ai 6,M 45 7,M 46 8]<|
 R [M 12 47,L 3 15 48,gB true 3 (.agg [z0,z0,e0]) 1 [(0,t 48)] 49,gA true 3 47 49 50,M 50 12]))<|
 R [D .add 30 1 51,M 51 30])))<|
 R [M 9 52,bq (.ex .FP [t 12]) 53,gB false 1 .ai 1 [(0,t 53)] 54,gA false 1 52 54 55,M 55 9]))<|
 R [D .add 19 1 56,M 56 19])))<|
 r [M 9 57,M 57 6,V z0 7,V z0 8]<|
 .ret):=pR ⟨[],[53],[(9,⟨false,1⟩),(12,⟨true,3⟩)],[],[],[]⟩ Tryz.func41
def jY: Of aD 42 54 [.cell 6 true 3] (r [X 0 3,J [z0,.ai,.ai] 6]<|
 r [V z0 7]<|
 q (r [A 3 3 8,K 8 9]<|
 .block 0 (q (.block 4 (q (.block 3 (q (.block 2 (q (.block 1 (q (q (r [D .eql 9 5 11,M 11 10]<|
 c 10 (.exit 1) k)<|
 q (r [D .eql 9 4 13,M 13 12]<|
 c 12 (.exit 2) k)<|
 q (r [D .eql 9 6 15,M 15 14]<|
 c 14 (.exit 3) k)<|
 r [D .eql 9 3 17,M 17 16]<|
 c 16 (.exit 4) k)<|
 .exit 0))<|
 q (r [A 4 3 18,K 18 19,M 1 20,M 2 21,C 74 [t 19,t 20,t 21] 22,W 3 6 22]<|
 .ret)<|
 .exit 0))<|
 gR [M 2 23,C 75 [t 23] 24] 24 [M 1 25,gU [z0,.ai,.ai] [(0,1,gJ 20),(1,1,t 25)] 26,W 3 6 26]<|
 R [M 2 27,M 2 28,N 28 29,bq (.min (t 29) [gJ 1]) 30,bq (.ov ⟨false,1⟩ (t 27) none (some (t 30))) 31,M 31 2]))<|
 q (r [M 1 32,M 2 33,gU [z0,.ai,.ai] [(1,1,t 32),(2,1,t 33)] 34,W 3 6 34]<|
 .ret)<|
 .exit 0))<|
 r [A 2 3 35,K 35 36,M 2 37,C 76 [t 36,t 37] 38,M 38 7]<|
 .exit 0))<|
 gR [M 1 39,N 39 40,D .eql 40 0 41] 41 [gU [z0,.ai,.ai] [] 42,W 3 6 42]<|
 q (.draw [M 1 43,M 7 44,M 7 45,D .add 45 1 46,bq (.ov ⟨false,1⟩ (t 43) (some (t 44)) (some (t 46))) 47,M 2 48,M 7 49,M 7 50,D .add 50 1 51,bq (.ov ⟨false,1⟩ (t 48) (some (t 49)) (some (t 51))) 52,gU [z0,.ai,.ai] [(1,1,t 47),(2,1,t 52)] 53,W 3 6 53] [])<|
 .ret):=bj Tryz.func42
def KN: Of aD 43 53 [.tmp 2] (r [X 0 1,gF 2]<|
 q (.block 0 (r [A 0 1 4,K 4 5,C 66 [t 5] 6,U 6 7,M 7 8,AF 1 1 9 8,KF 9 10 8,DF .lss 10 1 11 8,O 8 11 12,M 12 13,AF 1 1 14 13,KF 14 15 13,DF .gtr 15 2147483648 16 13,O 13 16 17,M 17 3]<|
 c 3 (r [gF 2]<|
 .ret) (r [A 3 1 19,A 0 19 20,K 20 21,D .lss 21 0 22,M 22 23,AF 3 1 24 23,AF 0 24 25 23,KF 25 26 23,DF .gtr 26 99 27 23,O 23 27 28,M 28 29,AF 3 1 30 29,AF 1 30 31 29,KF 31 32 29,CF 77 [t 32] 33 29,UF 33 34 29,O 29 34 35,M 35 36,AF 3 1 37 36,AF 2 37 38 36,KF 38 39 36,NF 39 40 36,DF .gtr 40 24 41 36,O 36 41 42,M 42 18]<|
 c 18 (r [gF 2]<|
 .ret) k)))<|
 r [A 2 1 43,K 43 44,C 78 [t 44] 45,M 45 46,AT 3 1 47 46,AT 2 47 48 46,KT 48 49 46,CT 79 [t 49,(.c (.fn (.func 80) [] []))] 50 46,UT 50 51 46,P 46 51 52,M 52 2]<|
 .ret):=bj Tryz.func43
def zT: Of aD 44 33 [.tmp 2] (r [X 0 1,V z0 2]<|
 gR [A 0 1 5,K 5 6,C 81 [t 6] 7,U 7 8] 8 [V (i6 13) 2]<|
 q (r [A 1 1 9,K 9 10,C 82 [t 10,(.c (.bool false))] 11,M 11 3]<|
 r [M 3 12,D .neq 12 0 13]<|
 c 13 (r [M 3 14,M 14 2]<|
 .ret) k)<|
 q (r [A 2 1 15,K 15 16,A 3 1 17,K 17 18,D .eql 18 3 19,C 82 [t 16,t 19] 20,M 20 4]<|
 r [M 4 21,D .neq 21 0 22]<|
 c 22 (r [M 4 23,M 23 2]<|
 .ret) k)<|
 q (.block 0 (r [L 6 1 25,C 83 [t 25] 26,U 26 27,M 27 24]<|
 c 24 (r [V (i6 17) 2]<|
 .ret) (r [A 5 1 29,K 29 30,N 30 31,D .gtr 31 24 32,M 32 28]<|
 c 28 (r [V (i6 24) 2]<|
 .ret) k)))<|
 r [V z0 2]<|
 .ret):=bj Tryz.func44
def Cp: Of aD 45 130 [.cell 4 true 2,.tmp 5,.tmp 6] (r [X 0 2,X 1 3,J [.ai,.ai] 4,V z0 5,V z0 6]<|
 r [gU [.ai,.ai] [] 17,J [.ai,.ai] 7,W 2 7 17]<|
 gR [A 0 3 18,K 18 19,N 19 20,A 1 2 21,K 21 22,N 22 23,B .neq 20 23 24,M 24 25,AF 1 3 26 25,KF 26 27 25,NF 27 28 25,AF 2 2 29 25,KF 29 30 25,NF 30 31 25,BF .neq 28 31 32 25,O 25 32 33] 33 [L 2 7 34,W 2 4 34,V z0 5,V (i6 17) 6]<|
 q (r [V z0 8]<|
 gL 0 [M 8 35,A 0 3 36,K 36 37,N 37 38,B .lss 35 38 39] 39 ((
 q (.block 1 (r [A 0 3 43,K 43 44,M 8 45,I false 1 44 45 46,K 46 47,C 84 [t 47] 48,M 48 42,E 42 0 49,E 42 1 50,E 42 2 51,J [.bool false,.bool false,.ai] 9,W 3 9 49,M 50 10,M 51 11]<|
 q (r [M 11 52,D .eql 52 0 53]<|
 c 53 (.draw [L 3 9 54,A 1 2 55,K 55 56,M 8 57,I true 3 56 57 58,A 1 58 59,K 59 60,A 1 2 61,K 61 62,Q 85 [t 54,t 60,t 62] 63,M 63 11] []) k)<|
 gR [M 11 64,D .neq 64 0 65] 65 [L 2 7 66,M 8 67,M 11 68,W 2 4 66,M 67 5,M 68 6]<|
 R [A 0 7 69,K 69 70,L 3 9 71,gB true 3 (.agg [.bool false,.bool false,.ai]) 1 [(0,t 71)] 72,gA true 3 70 72 73,A 0 7 74,W 1 74 73]))<|
 R [M 8 40,D .add 40 1 41,M 41 8])))<|
 q (r [V z0 12]<|
 gL 2 [M 12 75,A 1 3 76,K 76 77,N 77 78,B .lss 75 78 79] 79 ((
 q (.block 3 (r [A 1 3 83,K 83 84,M 12 85,I false 1 84 85 86,K 86 87,C 86 [t 87] 88,M 88 82,E 82 0 89,E 82 1 90,E 82 2 91,J [z0,z0,z0,e0,e0,.ai] 13,W 6 13 89,M 90 14,M 91 15]<|
 r [V z0 16]<|
 q (r [M 15 92,D .eql 92 0 93]<|
 c 93 (R [L 6 13 95,A 1 2 96,K 96 97,C 87 [t 95,t 97] 98,M 98 94,E 94 0 99,E 94 1 100,M 99 16,M 100 15]) k)<|
 q (r [M 15 101,D .eql 101 0 102,M 102 103,MT 16 104 103,AT 2 2 105 103,KT 105 106 103,MT 12 107 103,IT true 3 106 107 108 103,AT 1 108 109 103,KT 109 110 103,CT 88 [t 104,t 110] 111 103,UT 111 112 103,P 103 112 113]<|
 c 113 (R [V (i6 14) 15]) k)<|
 q (r [M 15 114,D .neq 114 0 115]<|
 c 115 (q (.draw [L 2 7 116,A 1 2 117,K 117 118,N 118 119,M 12 120,B .add 119 120 121,M 15 122,W 2 4 116,M 121 5,M 122 6] [(t 117,t 4)])<|
 .ret) k)<|
 R [A 1 7 123,K 123 124,L 6 13 125,gB true 6 (.agg [z0,z0,z0,e0,e0,.ai]) 1 [(0,t 125)] 126,gA true 6 124 126 127,A 1 7 128,W 1 128 127]))<|
 R [M 12 80,D .add 80 1 81,M 81 12])))<|
 r [L 2 7 129,W 2 4 129,V z0 5,V z0 6]<|
 .ret):=bj Tryz.func45
def zU: Of aD 46 53 [.tmp 4,.tmp 5,.tmp 6] (r [X 0 2,V .ai 4,V z0 5,V z0 6]<|
 q (r [L 7 2 12,M 1 13,C 89 [t 12,t 13] 14,M 14 7]<|
 r [M 7 15,D .neq 15 0 16]<|
 c 16 (r [M 7 17,V .ai 4,V z0 5,M 17 6]<|
 .ret) k)<|
 r [bq (.ji ⟨false,1⟩) 8]<|
 q (r [V z0 9]<|
 gL 0 [M 9 18,A 6 2 19,K 19 20,N 20 21,B .lss 18 21 22] 22 ((
 q (.block 1 (q (.draw [A 6 2 26,K 26 27,M 9 28,I true 2 27 28 29,L 2 29 30,A 0 2 31,A 1 31 32,K 32 33,M 1 34,Q 90 [t 30,t 33,t 34] 35,M 35 25,E 25 0 36,E 25 1 37,M 36 10,M 37 11] [])<|
 gR [M 11 38,D .neq 38 0 39] 39 [M 9 40,M 11 41,V .ai 4,M 40 5,M 41 6]<|
 r [M 10 42]<|
 c 42 (r [M 8 43,M 9 44,gB false 1 z0 1 [(0,t 44)] 45,gA false 1 43 45 46,M 46 8]<|
 r [A 0 2 47,A 3 47 48,K 48 49,D .eql 49 2 50]<|
 c 50 (r [M 8 51,M 51 4,V z0 5,V z0 6]<|
 .ret) k) k))<|
 R [M 9 23,D .add 23 1 24,M 24 9])))<|
 r [M 8 52,M 52 4,V z0 5,V z0 6]<|
 .ret):=pR ⟨[],[],[(8,⟨false,1⟩)],[],[],[]⟩ Tryz.func46
def KO: Of aD 47 38 [.tmp 6,.tmp 7] (r [X 0 3,V .ai 6,V z0 7]<|
 r [bq (.ji ⟨true,3⟩) 8]<|
 q (r [V z0 9]<|
 gL 0 [M 9 12,A 1 3 13,K 13 14,N 14 15,B .lss 12 15 16] 16 ((
 q (.block 1 (r [A 1 3 20,K 20 21,M 9 22,I true 6 21 22 23,L 6 23 24,M 1 25,M 2 26,C 91 [t 24,t 25,t 26] 27,M 27 19,E 19 0 28,E 19 1 29,J [z0,z0,e0] 10,W 3 10 28,M 29 11]<|
 gR [M 11 30,D .neq 30 0 31] 31 [M 11 32,V .ai 6,M 32 7]<|
 R [M 8 33,L 3 10 34,gB true 3 (.agg [z0,z0,e0]) 1 [(0,t 34)] 35,gA true 3 33 35 36,M 36 8]))<|
 R [M 9 17,D .add 17 1 18,M 18 9])))<|
 r [M 8 37,M 37 6,V z0 7]<|
 .ret):=pR ⟨[],[],[(8,⟨true,3⟩)],[],[],[]⟩ Tryz.func47
def Cq: Of aD 48 86 [.cell 6 true 3] (r [J [z0,.ai,.ai] 6]<|
 r [gU [z0,z0,e0] [] 13,J [z0,z0,e0] 7,W 3 7 13]<|
 q (r [M 0 14,D .eql 14 4 15]<|
 c 15 (R [M 2 16,N 16 17,gU [z0,z0,e0] [(0,1,gJ 1),(1,1,t 17)] 18,W 3 7 18]) k)<|
 q (r [V z0 8]<|
 gL 0 [M 8 19,M 2 20,N 20 21,B .lss 19 21 22,M 22 23,MT 0 24 23,DT .neq 24 4 25 23,P 23 25 26] 26 ((
 q (.block 1 (r [M 2 29,M 8 30,I false 1 29 30 31,K 31 32,gI true 3 32 0 33,L 3 33 34,J [z0,z0,e0] 9,W 3 9 34]<|
 r [L 3 9 35,L 3 7 36,C 92 [t 35,t 36] 37,M 37 10]<|
 .block 2 (r [L 3 9 39,gU [z0,z0,e0] [] 40,bq (.jD false true [.i,.i,.s] (t 39) (t 40)) 41,M 41 38]<|
 c 38 k (r [L 3 7 43,gU [z0,z0,e0] [] 44,bq (.jD false true [.i,.i,.s] (t 43) (t 44)) 45,M 45 42]<|
 c 42 (R [L 3 9 46,W 3 7 46]) (r [M 0 48,D .eql 48 1 49,M 49 47]<|
 c 47 (r [A 1 7 51,K 51 52,A 1 9 53,K 53 54,C 93 [t 52,t 54] 55,M 55 50,E 50 0 56,E 50 1 57,M 56 11,M 57 12]<|
 gR [M 12 58,D .neq 58 0 59] 59 [M 12 60,M 1 61,gU [z0,.ai,.ai] [(0,1,t 60),(1,1,t 61)] 62,W 3 6 62]<|
 R [M 11 63,gU [z0,z0,e0] [(0,1,gJ 1),(1,1,t 63)] 64,W 3 7 64]) (r [M 0 66,D .eql 66 2 67,M 67 68,MT 10 69 68,DT .lss 69 0 70 68,P 68 70 71,M 71 72,MF 0 73 72,DF .eql 73 3 74 72,MF 74 75 72,MT 10 76 75,DT .gtr 76 0 77 75,PF 75 77 78 72,O 72 78 79,M 79 65]<|
 c 65 (R [L 3 9 80,W 3 7 80]) k))))))<|
 R [M 8 27,D .add 27 1 28,M 28 8])))<|
 r [M 1 81,L 3 7 82,gB true 3 (.agg [z0,z0,e0]) 1 [(0,t 82)] 83,gB false 1 .ai 1 [(0,t 83)] 84,gU [z0,.ai,.ai] [(1,1,t 81),(2,1,t 84)] 85,W 3 6 85]<|
 .ret):=bj Tryz.func48
def IQ: Of aD 49 50 [.tmp 2] (r [V .ai 2]<|
 r [V .ai 3]<|
 q (r [V z0 4]<|
 gL 0 [M 4 7,M 0 8,N 8 9,B .lss 7 9 10] 10 ((
 q (.block 1 (r [V z0 5]<|
 q (.block 2 (.loop (q (q (.draw [M 5 13,M 3 14,N 14 15,B .lss 13 15 16,M 16 17,MT 0 18 17,MT 4 19 17,IT false 1 18 19 20 17,KT 20 21 17,MT 3 22 17,MT 5 23 17,IT false 1 22 23 24 17,KT 24 25 17,QT 94 [t 21,t 25] 26 17,UT 26 27 17,P 17 27 28] [])<|
 c 28 k (.exit 2))<|
 .block 3 (R [M 5 29,D .add 29 1 30,M 30 5]))))<|
 r [bq (.ji ⟨false,1⟩) 6]<|
 r [M 6 31,M 3 32,M 5 33,bq (.ov ⟨false,1⟩ (t 32) none (some (t 33))) 34,gA false 1 31 34 35,M 35 6]<|
 r [M 6 36,M 0 37,M 4 38,I false 1 37 38 39,K 39 40,gB false 1 .ai 1 [(0,t 40)] 41,gA false 1 36 41 42,M 42 6]<|
 r [M 6 43,M 3 44,M 5 45,bq (.ov ⟨false,1⟩ (t 44) (some (t 45)) none) 46,gA false 1 43 46 47,M 47 6]<|
 R [bq (.ex .FP [t 6]) 48,M 48 3]))<|
 R [M 4 11,D .add 11 1 12,M 12 4])))<|
 r [M 3 49,M 49 2]<|
 .ret):=pR ⟨[],[48],[(6,⟨false,1⟩)],[],[],[]⟩ Tryz.func49
def xo: Of aD 50 66 [.cell 6 true 3] (r [X 0 3,J [z0,.ai,.ai] 6]<|
 r [V z0 7]<|
 q (r [V (i6 1) 8]<|
 gL 0 [M 8 9,M 2 10,N 10 11,B .lss 9 11 12] 12 ((
 q (.block 1 (q (q (.draw [A 3 3 15,K 15 16,D .eql 16 4 17,M 17 18,MT 2 19 18,MT 8 20 18,IT false 1 19 20 21 18,KT 21 22 18,MT 2 23 18,⟨.fh ⟨false,1⟩ none (t 23) (.c z0),(some 24),some (18,true)⟩,KT 24 25 18,QT 27 [t 22,t 25] 26 18,UT 26 27 18,P 18 27 28] [])<|
 c 28 (r [M 1 29,gU [z0,.ai,.ai] [(0,1,gJ 20),(1,1,t 29)] 30,W 3 6 30]<|
 .ret) k)<|
 q (.draw [A 3 3 31,K 31 32,D .eql 32 3 33,M 33 34,AT 2 3 35 34,KT 35 36 34,MT 2 37 34,MT 8 38 34,IT false 1 37 38 39 34,KT 39 40 34,MT 2 41 34,MT 7 42 34,IT false 1 41 42 43 34,KT 43 44 34,QT 95 [t 36,t 40,t 44] 45 34,P 34 45 46] [])<|
 c 46 (R [M 8 47,M 47 7]) k))<|
 R [M 8 13,D .add 13 1 14,M 14 8])))<|
 gR [A 3 3 48,K 48 49,D .eql 49 4 50] 50 [M 1 51,M 2 52,bq (.ov ⟨false,1⟩ (t 52) none (some (gJ 1))) 53,gU [z0,.ai,.ai] [(1,1,t 51),(2,1,t 53)] 54,W 3 6 54]<|
 q (.draw [M 1 55,M 7 56,M 7 57,D .add 57 1 58,bq (.ov ⟨false,1⟩ (t 55) (some (t 56)) (some (t 58))) 59,M 2 60,M 7 61,M 7 62,D .add 62 1 63,bq (.ov ⟨false,1⟩ (t 60) (some (t 61)) (some (t 63))) 64,gU [z0,.ai,.ai] [(1,1,t 59),(2,1,t 64)] 65,W 3 6 65] [])<|
 .ret):=bj Tryz.func50
def Nn: Of aD 51 8 [.tmp 2] (r [V e0 2]<|
 r [M 0 3,S 3 4,C 52 [t 4] 5,M 0 6,B .add 5 6 7,M 7 2]<|
 .ret):=bj Tryz.func51
def Pf: Of aD 52 24 [.tmp 2] (r [V e0 2]<|
 r [M 0 5,C 96 [t 5] 6,M 6 3]<|
 r [bq (.ji ⟨false,1⟩) 4]<|
 q (gL 0 [M 3 7,bq (.bin .geq (t 7) (.c (.int .u64 128))) 8] 8 ((
 .block 1 (r [M 4 9,M 3 10,bq (.bin .rem (t 10) (.c (.int .u64 128))) 11,bq (.bin .add (.c (.int .u64 128)) (t 11)) 12,bq (.jE .u8 (t 12)) 13,gB false 1 (.int .u8 0) 1 [(0,t 13)] 14,gA false 1 9 14 15,M 15 4]<|
 R [M 3 16,bq (.bin .quo (t 16) (.c (.int .u64 128))) 17,M 17 3]))))<|
 r [M 4 18,M 3 19,bq (.jE .u8 (t 19)) 20,gB false 1 (.int .u8 0) 1 [(0,t 20)] 21,gA false 1 18 21 22,bq (.Ch (t 22)) 23,M 23 2]<|
 .ret):=pR ⟨[],[],[(4,⟨false,1⟩)],[],[],[]⟩ Tryz.func52
def Pg: Of aD 53 22 [.tmp 2] (r [V e0 2]<|
 r [M 0 5,N 5 6,C 52 [t 6] 7,M 7 3]<|
 q (r [V z0 4]<|
 gL 0 [M 4 8,M 0 9,N 9 10,B .lss 8 10 11] 11 ((
 q (.block 1 (R [M 3 14,M 0 15,M 4 16,I true 3 15 16 17,L 3 17 18,C 97 [t 18] 19,B .add 14 19 20,M 20 3]))<|
 R [M 4 12,D .add 12 1 13,M 13 4])))<|
 r [M 3 21,M 21 2]<|
 .ret):=bj Tryz.func53
def FG: Of aD 54 26 [.tmp 4] (r [gF 4]<|
 gR [M 0 6,N 6 7,M 1 8,N 8 9,B .neq 7 9 10] 10 [gF 4]<|
 q (r [V z0 5]<|
 gL 0 [M 5 11,M 0 12,N 12 13,B .lss 11 13 14] 14 ((
 q (.block 1 (q (.draw [M 0 17,M 5 18,I false 1 17 18 19,K 19 20,M 1 21,M 5 22,I false 1 21 22 23,K 23 24,B .neq 20 24 25] [])<|
 c 25 (r [gF 4]<|
 .ret) k))<|
 R [M 5 15,D .add 15 1 16,M 16 5])))<|
 r [gT 4]<|
 .ret):=bj Tryz.func54
def FH: Of aD 55 27 [.tmp 4] (r [gF 4]<|
 gR [M 0 6,N 6 7,M 1 8,N 8 9,B .neq 7 9 10] 10 [gF 4]<|
 q (r [V z0 5]<|
 gL 0 [M 5 11,M 0 12,N 12 13,B .lss 11 13 14] 14 ((
 q (.block 1 (q (.draw [M 0 17,M 5 18,I false 1 17 18 19,K 19 20,M 1 21,M 5 22,I false 1 21 22 23,K 23 24,Q 27 [t 20,t 24] 25,U 25 26] [])<|
 c 26 (r [gF 4]<|
 .ret) k))<|
 R [M 5 15,D .add 15 1 16,M 16 5])))<|
 r [gT 4]<|
 .ret):=bj Tryz.func55
def CQ: Of aD 56 26 [.tmp 4] (r [gF 4]<|
 gR [M 0 6,N 6 7,M 1 8,N 8 9,B .neq 7 9 10] 10 [gF 4]<|
 q (r [M 0 11,N 11 12,V z0 13]<|
 .block 0 (.loop (r [B .lss 13 12 14]<|
 q (c 14 k (.exit 0))<|
 q (.block 1 (r [M 13 15,M 15 5]<|
 q (.draw [M 0 16,M 5 17,I false 1 16 17 18,K 18 19,M 1 20,M 5 21,I false 1 20 21 22,K 22 23,B .neq 19 23 24] [])<|
 c 24 (r [gF 4]<|
 .ret) k))<|
 R [D .add 13 1 25,M 25 13])))<|
 r [gT 4]<|
 .ret):=bj Tryz.func56
def vI: Of aD 57 32 [.tmp 6] (r [gF 6]<|
 gR [M 0 10,N 10 11,M 1 12,N 12 13,B .neq 11 13 14] 14 [gF 6]<|
 q (r [M 0 15,N 15 16,V z0 17]<|
 .block 0 (.loop (r [B .lss 17 16 18]<|
 q (c 18 k (.exit 0))<|
 q (.block 1 (r [M 17 19,I false 1 15 17 20,K 20 21,M 19 7,M 21 8]<|
 r [M 1 22,M 7 23,I false 1 22 23 24,K 24 25,M 25 9]<|
 r [M 2 26,M 8 27,M 9 28,bq (.call false (t 26) [t 27,t 28]) 29,U 29 30]<|
 c 30 (r [gF 6]<|
 .ret) k))<|
 R [D .add 17 1 31,M 31 17])))<|
 r [gT 6]<|
 .ret):=bj Tryz.func57
def Np: Of aD 58 8 [.tmp 4] (r [gF 4]<|
 r [M 0 5,M 1 6,C 29 [t 5,t 6] 7,M 7 4]<|
 .ret):=bj Tryz.func58
def Nq: Of aD 59 8 [.tmp 2] (r [V e0 2]<|
 r [M 0 3,S 3 4,C 60 [t 4] 5,M 0 6,B .add 5 6 7,M 7 2]<|
 .ret):=bj Tryz.func59
def Ph: Of aD 60 24 [.tmp 2] (r [V e0 2]<|
 r [M 0 5,C 98 [t 5] 6,M 6 3]<|
 r [bq (.po ⟨false,1⟩ (.int .u8 0) (.c z0) (gJ 10)) 7,M 7 4]<|
 q (gL 0 [M 3 8,bq (.bin .geq (t 8) (.c (.int .u64 128))) 9] 9 ((
 .block 1 (r [M 4 10,M 3 11,C 99 [t 11] 12,bq (.bin .or (t 12) (.c (.int .u8 128))) 13,gB false 1 (.int .u8 0) 1 [(0,t 13)] 14,gA false 1 10 14 15,M 15 4]<|
 R [M 3 16,bq (.bin .shr (t 16) (.c (.int .u64 7))) 17,M 17 3]))))<|
 r [M 4 18,M 3 19,C 99 [t 19] 20,gB false 1 (.int .u8 0) 1 [(0,t 20)] 21,gA false 1 18 21 22,bq (.Ch (t 22)) 23,M 23 2]<|
 .ret):=bj Tryz.func60
def IU: Of aD 61 13 [] (r [M 0 6,C 62 [t 6] 7,M 7 5,E 5 0 8,E 5 1 9,M 8 3,M 9 4]<|
 R [K 1 10,M 3 11,B .add 10 11 12,W 1 1 12]):=bj Tryz.func61
def Pj: Of aD 62 31 [.tmp 2,.tmp 3] (r [V e0 2,V z0 3]<|
 r [M 0 9,N 9 10,C 60 [t 10] 11,M 11 4]<|
 q (r [M 0 12,N 12 13,V z0 14]<|
 .block 0 (.loop (r [B .lss 14 13 15]<|
 q (c 15 k (.exit 0))<|
 q (.block 1 (r [I true 3 12 14 16,L 3 16 17,J [z0,z0,e0] 6,W 3 6 17]<|
 r [L 3 6 19,C 100 [t 19] 20,M 20 18,E 18 0 21,E 18 1 22,M 21 7,M 22 8]<|
 gR [M 8 23,D .neq 23 0 24] 24 [M 8 25,V e0 2,M 25 3]<|
 R [M 4 26,M 7 27,B .add 26 27 28,M 28 4]))<|
 R [D .add 14 1 29,M 29 14])))<|
 r [M 4 30,M 30 2,V z0 3]<|
 .ret):=bj Tryz.func62
def Nr: Of aD 63 29 [.tmp 4,.tmp 5,.tmp 6] (r [V z0 4,V e0 5,V z0 6]<|
 r [M 0 11,C 64 [t 11] 12,M 12 10,E 10 0 13,E 10 1 14,E 10 2 15,M 13 7,M 14 8,M 15 9]<|
 q (.block 0 (r [M 9 17,D .neq 17 0 18,M 18 16]<|
 c 16 (r [M 9 19,V z0 4,V e0 5,M 19 6]<|
 .ret) (r [M 7 21,D .lss 21 0 22,M 22 20]<|
 c 20 (r [V z0 4,V e0 5,V (i6 4) 6]<|
 .ret) (r [M 7 24,M 1 25,B .gtr 24 25 26,M 26 23]<|
 c 23 (r [V z0 4,V e0 5,V (i6 5) 6]<|
 .ret) k))))<|
 r [M 7 27,M 8 28,M 27 4,M 28 5,V z0 6]<|
 .ret):=bj Tryz.func63
def G8: Of aD 64 49 [.tmp 2,.tmp 3,.tmp 4] (r [V z0 2,V e0 3,V z0 4]<|
 r [V (.int .u64 0) 5]<|
 q (r [M 0 8,S 8 9,bq (.min (t 9) [gJ 10]) 10,V z0 11]<|
 .block 0 (.loop (r [B .lss 11 10 12]<|
 q (c 12 k (.exit 0))<|
 q (.block 1 (r [M 11 13,M 13 6]<|
 r [M 0 14,M 6 15,bq (.jh (t 14) (t 15)) 16,M 16 7]<|
 gR [M 6 17,D .gtr 17 0 18,M 18 19,MT 7 20 19,⟨.bin .eql (t 20) (.c (.int .u8 0)),(some 21),some (19,true)⟩,P 19 21 22,M 22 23,MF 6 24 23,DF .eql 24 9 25 23,MF 25 26 23,MT 7 27 26,⟨.bin .gtr (t 27) (.c (.int .u8 1)),(some 28),some (26,true)⟩,PF 26 28 29 23,O 23 29 30] 30 [V z0 2,V e0 3,V (i6 4) 4]<|
 r [M 5 31,M 7 32,bq (.jE .i64 (t 32)) 33,C 101 [t 33] 34,bq (.jE .u64 (t 34)) 35,M 6 36,bq (.bin .mul (gJ 7) (t 36)) 37,B .shl 35 37 38,B .or 31 38 39,M 39 5]<|
 r [M 7 40,bq (.bin .lss (t 40) (.c (.int .u8 128))) 41]<|
 c 41 (q (.draw [M 5 42,Q 102 [t 42] 43,M 0 44,M 6 45,D .add 45 1 46,bq (.p8 (t 44) (some (t 46)) none) 47,M 43 2,M 47 3,V z0 4] [])<|
 .ret) k))<|
 R [D .add 11 1 48,M 48 11])))<|
 r [V z0 2,V e0 3,V (i6 3) 4]<|
 .ret):=bj Tryz.func64
def G9: Of aD 65 48 [.tmp 4,.tmp 5,.tmp 6] (r [V .ai 4,V e0 5,V z0 6]<|
 r [M 0 13,C 64 [t 13] 14,M 14 12,E 12 0 15,E 12 1 16,E 12 2 17,M 15 7,M 16 8,M 17 9]<|
 q (.block 0 (r [M 9 19,D .neq 19 0 20,M 20 18]<|
 c 18 (r [M 9 21,V .ai 4,V e0 5,M 21 6]<|
 .ret) (r [M 7 23,D .lss 23 0 24,M 24 22]<|
 c 22 (r [V .ai 4,V e0 5,V (i6 4) 6]<|
 .ret) (r [M 7 26,M 1 27,B .gtr 26 27 28,M 28 25]<|
 c 25 (r [V .ai 4,V e0 5,V (i6 5) 6]<|
 .ret) k))))<|
 r [bq (.ji ⟨true,3⟩) 10]<|
 q (gL 1 [M 10 29,N 29 30,M 7 31,B .lss 30 31 32] 32 ((
 .block 2 (r [J [z0,z0,e0] 11]<|
 q (r [M 8 34,C 103 [t 34] 35,M 35 33,E 33 0 36,E 33 1 37,E 33 2 38,W 3 11 36,M 37 8,M 38 9]<|
 r [M 9 39,D .neq 39 0 40]<|
 c 40 (r [M 9 41,V .ai 4,V e0 5,M 41 6]<|
 .ret) k)<|
 R [M 10 42,L 3 11 43,gB true 3 (.agg [z0,z0,e0]) 1 [(0,t 43)] 44,gA true 3 42 44 45,M 45 10]))))<|
 r [M 10 46,M 8 47,M 46 4,M 47 5,V z0 6]<|
 .ret):=pR ⟨[],[],[(10,⟨true,3⟩)],[],[],[]⟩ Tryz.func65
def Ru: Of aD 66 22 [.tmp 2] (r [gF 2]<|
 r [M 0 3,bq (.bin .neq (t 3) (.c e0)) 4,M 4 5,MT 0 6 5,CT 104 [t 6] 7 5,MT 0 8 5,ST 8 9 5,BT .eql 7 9 10 5,P 5 10 11,M 11 12,MT 0 13 12,ST 13 14 12,DT .leq 14 16 15 12,P 12 15 16,M 16 17,MT 0 18 17,CT 105 [t 18] 19 17,UT 19 20 17,P 17 20 21,M 21 2]<|
 .ret):=bj Tryz.func66
def FI: Of aD 67 19 [.tmp 4] (r [X 1 3,V z0 4]<|
 q (r [M 0 6,C 106 [t 6] 7,M 7 5]<|
 r [M 5 8,D .neq 8 0 9]<|
 c 9 (r [M 5 10,M 10 4]<|
 .ret) k)<|
 gR [M 0 11,N 11 12,D .eql 12 0 13,M 13 14,MF 0 15 14,⟨.q_ (.func 108) [] [t 3],(some 16),some (14,false)⟩,CF 107 [t 15,t 16] 17 14,O 14 17 18] 18 [V (i6 17) 4]<|
 r [V z0 4]<|
 .ret):=bj Tryz.func67
def G_: Of aD 68 45 [.tmp 2] (r [X 0 1,gF 2]<|
 q (.block 0 (r [A 3 1 5,K 5 6,D .lss 6 1 7,M 7 8,AF 3 1 9 8,KF 9 10 8,DF .gtr 10 6 11 8,O 8 11 12,M 12 4]<|
 c 4 (r [gF 2]<|
 .ret) (r [A 4 1 14,K 14 15,D .eql 15 0 16,M 16 13]<|
 c 13 (r [gT 2]<|
 .ret) (r [A 3 1 18,K 18 19,D .neq 19 5 20,M 20 21,AF 2 1 22 21,KF 22 23 21,NF 23 24 21,DF .neq 24 1 25 21,O 21 25 26,M 26 17]<|
 c 17 (r [gF 2]<|
 .ret) k))))<|
 q (r [A 2 1 27,K 27 28,gI true 3 28 0 29,A 1 29 30,K 30 31,M 31 3]<|
 r [A 4 1 32,K 32 33]<|
 .block 1 (r [D .eql 33 1 35,M 35 34]<|
 c 34 (r [M 3 36,D .eql 36 1 37,M 37 2]<|
 .ret) (q (r [D .eql 33 2 39,M 39 38]<|
 c 38 k (R [D .eql 33 3 40,M 40 38]))<|
 c 38 (r [M 3 41,D .neq 41 3 42,M 42 2]<|
 .ret) (r [D .eql 33 4 44,M 44 43]<|
 c 43 (r [gT 2]<|
 .ret) k))))<|
 r [gF 2]<|
 .ret):=bj Tryz.func68
def Ns: Of aD 69 31 [.cell 6 true 3,.tmp 7] (r [X 0 3,J [.bool false,.bool false,.ai] 6,V z0 7]<|
 r [M 2 12,C 110 [t 12] 13,M 13 11,E 11 0 14,E 11 1 15,E 11 2 16,J [.bool false,.bool false,.ai] 8,W 3 8 14,M 15 9,M 16 10]<|
 q (r [M 10 17,D .eql 17 0 18]<|
 c 18 (.draw [L 3 8 19,A 1 3 20,K 20 21,M 1 22,I true 3 21 22 23,A 1 23 24,K 24 25,A 1 3 26,K 26 27,Q 111 [t 19,t 25,t 27] 28,M 28 10] []) k)<|
 r [L 3 8 29,M 10 30,W 3 6 29,M 30 7]<|
 .ret):=bj Tryz.func69
def KP: Of aD 70 44 [.cell 6 true 6,.tmp 7] (r [X 0 3,J [z0,z0,z0,e0,e0,.ai] 6,V z0 7]<|
 r [M 2 13,C 112 [t 13] 14,M 14 12,E 12 0 15,E 12 1 16,E 12 2 17,J [z0,z0,z0,e0,e0,.ai] 8,W 6 8 15,M 16 9,M 17 10]<|
 gR [M 10 18,D .neq 18 0 19] 19 [L 6 8 20,M 10 21,W 6 6 20,M 21 7]<|
 r [L 6 8 23,A 1 3 24,K 24 25,C 113 [t 23,t 25] 26,M 26 22,E 22 0 27,E 22 1 28,M 27 11,M 28 10]<|
 q (r [M 10 29,D .eql 29 0 30,M 30 31,MT 11 32 31,AT 2 3 33 31,KT 33 34 31,MT 1 35 31,IT true 3 34 35 36 31,AT 1 36 37 31,KT 37 38 31,CT 114 [t 32,t 38] 39 31,UT 39 40 31,P 31 40 41]<|
 c 41 (R [V (i6 14) 10]) k)<|
 r [L 6 8 42,M 10 43,W 6 6 42,M 43 7]<|
 .ret):=bj Tryz.func70
def DE: Of aD 71 38 [.tmp 4] (r [X 0 2,V z0 4]<|
 gR [M 1 7,N 7 8,A 0 2 9,A 1 9 10,K 10 11,N 11 12,B .neq 8 12 13] 13 [V (i6 21) 4]<|
 q (r [M 1 14,N 14 15,V z0 16]<|
 .block 0 (.loop (r [B .lss 16 15 17]<|
 q (c 17 k (.exit 0))<|
 q (.block 1 (r [M 16 18,I true 3 14 16 19,L 3 19 20,J [z0,z0,e0] 6,M 18 5,W 3 6 20]<|
 q (.draw [L 3 6 21,Q 115 [t 21] 22,D .neq 22 0 23,M 23 24,AF 0 6 25 24,KF 25 26 24,AF 0 2 27 24,AF 1 27 28 24,KF 28 29 24,MF 5 30 24,IF true 3 29 30 31 24,AF 1 31 32 24,KF 32 33 24,QF 114 [t 26,t 33] 34 24,UF 34 35 24,O 24 35 36] [])<|
 c 36 (r [V (i6 21) 4]<|
 .ret) k))<|
 R [D .add 16 1 37,M 37 16])))<|
 r [V z0 4]<|
 .ret):=bj Tryz.func71
def Pk: Of aD 72 45 [.tmp 6,.tmp 7] (r [X 0 3,gF 6,V z0 7]<|
 q (r [A 6 3 12,K 12 13,M 1 14,I true 2 13 14 15,A 0 15 16,K 16 17,N 17 18,V z0 19]<|
 .block 0 (.loop (r [B .lss 19 18 20]<|
 q (c 20 k (.exit 0))<|
 q (.block 1 (r [M 19 21,I true 3 17 19 22,L 3 22 23,J [.bool false,.bool false,.ai] 9,M 21 8,W 3 9 23]<|
 q (.draw [L 3 9 25,M 2 26,M 8 27,I true 3 26 27 28,L 3 28 29,A 0 3 30,A 1 30 31,K 31 32,M 2 33,Q 116 [t 25,t 29,t 32,t 33] 34,M 34 24,E 24 0 35,E 24 1 36,M 35 10,M 36 11] [])<|
 r [M 11 37,D .neq 37 0 38,M 38 39,MF 10 40 39,UF 40 41 39,O 39 41 42]<|
 c 42 (r [M 11 43,gF 6,M 43 7]<|
 .ret) k))<|
 R [D .add 19 1 44,M 44 19])))<|
 r [gT 6,V z0 7]<|
 .ret):=bj Tryz.func72
def ux: Of aD 74 32 [.cell 6 true 3] (r [J [z0,.ai,.ai] 6]<|
 q (r [M 0 9,D .eql 9 0 10]<|
 c 10 (r [M 2 11,C 120 [t 11,(.c (.fn (.func 121) [] []))] 12]<|
 r [M 1 13,M 2 14,gU [z0,.ai,.ai] [(1,1,t 13),(2,1,t 14)] 15,W 3 6 15]<|
 .ret) k)<|
 r [M 0 17,M 2 18,C 124 [t 17,t 18] 19,M 19 16,E 16 0 20,E 16 1 21,J [z0,z0,e0] 7,W 3 7 20,M 21 8]<|
 gR [M 8 22,D .neq 22 0 23] 23 [M 8 24,M 1 25,gU [z0,.ai,.ai] [(0,1,t 24),(1,1,t 25)] 26,W 3 6 26]<|
 r [M 1 27,L 3 7 28,gB true 3 (.agg [z0,z0,e0]) 1 [(0,t 28)] 29,gB false 1 .ai 1 [(0,t 29)] 30,gU [z0,.ai,.ai] [(1,1,t 27),(2,1,t 30)] 31,W 3 6 31]<|
 .ret):=bj Tryz.func74
def Nt: Of aD 75 6 [.tmp 2] (r [X 0 1,gF 2]<|
 r [K 1 3,bq (.q_ (.func 125) [] [t 1]) 4,C 79 [t 3,t 4] 5,M 5 2]<|
 .ret):=bj Tryz.func75
def Pm: Of aD 76 49 [.tmp 4] (r [V z0 4]<|
 r [V z0 5]<|
 q (r [M 1 10,N 10 11,V z0 12]<|
 .block 0 (.loop (r [B .lss 12 11 13]<|
 q (c 13 k (.exit 0))<|
 q (.block 1 (r [M 12 14,M 14 6]<|
 r [V z0 7]<|
 q (r [M 0 15,N 15 16,V z0 17]<|
 .block 2 (.loop (r [B .lss 17 16 18]<|
 q (c 18 k (.exit 2))<|
 q (.block 3 (r [M 17 19,I true 3 15 17 20,L 3 20 21,J [e0,z0,.ai] 9,M 19 8,W 3 9 21]<|
 r [M 7 22,D .eql 22 0 23]<|
 c 23 (.draw [L 3 9 24,M 1 25,M 6 26,I false 1 25 26 27,K 27 28,M 8 29,I true 3 28 29 30,L 3 30 31,Q 127 [t 24,t 31] 32,L 3 9 33,M 1 34,M 5 35,I false 1 34 35 36,K 36 37,M 8 38,I true 3 37 38 39,L 3 39 40,Q 127 [t 33,t 40] 41,Q 126 [t 32,t 41] 42,M 42 7] []) k))<|
 R [D .add 17 1 43,M 43 17])))<|
 r [M 7 44,D .lss 44 0 45]<|
 c 45 (R [M 6 46,M 46 5]) k))<|
 R [D .add 12 1 47,M 47 12])))<|
 r [M 5 48,M 48 4]<|
 .ret):=bj Tryz.func76
def IV: Of aD 77 21 [.tmp 2] (r [gF 2]<|
 r [V (i6 (-1)) 3]<|
 q (r [M 0 6,N 6 7,V z0 8]<|
 .block 0 (.loop (r [B .lss 8 7 9]<|
 q (c 9 k (.exit 0))<|
 q (.block 1 (r [I false 1 6 8 10,K 10 11,M 11 5]<|
 gR [M 5 12,M 3 13,B .leq 12 13 14,M 14 15,MF 5 16 15,DF .geq 16 24 17 15,O 15 17 18] 18 [gF 2]<|
 R [M 5 19,M 19 3]))<|
 R [D .add 8 1 20,M 20 8])))<|
 r [gT 2]<|
 .ret):=bj Tryz.func77
def KQ: Of aD 78 11 [.tmp 2] (r [gF 2]<|
 r [M 0 3,N 3 4,D .leq 4 6 5,M 5 6,MT 0 7 6,CT 128 [t 7,(.c (.fn (.func 129) [] []))] 8 6,UT 8 9 6,P 6 9 10,M 10 2]<|
 .ret):=bj Tryz.func78
def tX: Of aD 79 9 [.tmp 4] (r [gF 4]<|
 r [M 0 5,M 1 6,C 130 [t 5,t 6] 7,D .geq 7 0 8,M 8 4]<|
 .ret):=bj Tryz.func79
def He: Of aD 80 6 [.tmp 2] (r [gF 2]<|
 r [M 0 3,C 78 [t 3] 4,U 4 5,M 5 2]<|
 .ret):=bj Tryz.func80
def Nu: Of aD 81 22 [.tmp 2] (r [gF 2]<|
 r [M 0 3,bq (.bin .neq (t 3) (.c e0)) 4,M 4 5,MT 0 6 5,CT 131 [t 6] 7 5,MT 0 8 5,ST 8 9 5,BT .eql 7 9 10 5,P 5 10 11,M 11 12,MT 0 13 12,ST 13 14 12,DT .leq 14 16 15 12,P 12 15 16,M 16 17,MT 0 18 17,CT 132 [t 18] 19 17,UT 19 20 17,P 17 20 21,M 21 2]<|
 .ret):=bj Tryz.func81
def Hf: Of aD 82 28 [.tmp 4] (r [V z0 4]<|
 q (r [M 0 7,C 133 [t 7] 8,M 8 5]<|
 r [M 5 9,D .neq 9 0 10]<|
 c 10 (r [M 5 11,M 11 4]<|
 .ret) k)<|
 q (r [V z0 6]<|
 gL 0 [M 6 12,M 0 13,N 13 14,B .lss 12 14 15] 15 ((
 q (.block 1 (r [M 0 18,M 6 19,I true 3 18 19 20,L 3 20 21,M 1 22,C 134 [t 21,t 22] 23,U 23 24]<|
 c 24 (r [V (i6 17) 4]<|
 .ret) k))<|
 R [M 6 16,D .add 16 1 17,M 17 6])))<|
 gR [M 0 25,N 25 26,D .eql 26 0 27] 27 [V (i6 17) 4]<|
 r [V z0 4]<|
 .ret):=bj Tryz.func82
def IW: Of aD 83 55 [.tmp 2] (r [X 0 1,gF 2]<|
 gR [A 3 1 4,K 4 5,D .lss 5 1 6,M 6 7,AF 3 1 8 7,KF 8 9 7,DF .gtr 9 6 10 7,O 7 10 11] 11 [gF 2]<|
 gR [A 4 1 12,K 12 13,D .eql 13 0 14] 14 [gT 2]<|
 gR [A 3 1 15,K 15 16,D .neq 16 5 17,M 17 18,AF 4 1 19 18,KF 19 20 18,DF .lss 20 1 21 18,O 18 21 22,M 22 23,AF 4 1 24 23,KF 24 25 23,DF .gtr 25 4 26 23,O 23 26 27,M 27 28,AF 2 1 29 28,KF 29 30 28,NF 30 31 28,DF .neq 31 1 32 28,O 28 32 33] 33 [gF 2]<|
 r [A 2 1 34,K 34 35,gI true 3 35 0 36,A 1 36 37,K 37 38,M 38 3]<|
 r [A 4 1 39,K 39 40,D .eql 40 4 41,M 41 42,MF 3 43 42,DF .eql 43 1 44 42,O 42 44 45,M 45 46,MF 3 47 46,DF .eql 47 2 48 46,MF 48 49 46,AT 4 1 50 49,KT 50 51 49,DT .neq 51 1 52 49,PF 49 52 53 46,O 46 53 54,M 54 2]<|
 .ret):=bj Tryz.func83
