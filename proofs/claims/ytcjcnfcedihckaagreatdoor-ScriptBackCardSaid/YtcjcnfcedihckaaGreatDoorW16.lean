/- Part. -/
import Derived.Test.YtcjcnfcedihckaaGreatDoorW15
import Derived.KernelRfl
set_option linter.all false
namespace Go.Proofs.YtcjcnfcedihckaaGreatDoor
open Go.AM Go.AM.W
set_option maxRecDepth 10000
def mC: Of aK 4 61 [.tmp 2] (r [gF 2]<|
 gR [M 0 8,C 7 [t 8] 9,U 9 10] 10 [C 8 [] 11,M 11 2]<|
 r [M 0 13,C 9 [t 13] 14,M 14 12,E 12 0 15,E 12 1 16,M 15 3,M 16 4]<|
 gR [M 4 17,D .neq 17 0 18] 18 [M 3 19,bw (.bin .eql (t 19) (.c e0)) 20,M 20 21,CT 8 [] 22 21,P 21 22 23,M 23 2]<|
 r [M 3 25,C 14 [t 25] 26,M 26 24,E 24 0 27,E 24 1 28,E 24 2 29,M 27 5,M 28 6,M 29 7]<|
 gR [M 3 30,S 30 31,D .gtr 31 65536 32] 32 [M 7 33,D .eql 33 5 34,M 34 35,MT 6 36 35,DT .eql 36 0 37 35,P 35 37 38,M 38 39,MT 5 40 39,NT 40 41 39,DT .eql 41 0 42 39,P 39 42 43,M 43 44,CT 8 [] 45 44,P 44 45 46,M 46 2]<|
 r [M 0 47,M 5 48,C 15 [t 47,t 48] 49,M 49 50,MT 6 51 50,DT .eql 51 0 52 50,P 50 52 53,M 53 54,MT 7 55 54,DT .eql 55 0 56 54,P 54 56 57,M 57 58,CT 8 [] 59 58,P 58 59 60,M 60 2]<|
 .ret):=bV Tryz.func4
def oZ: Of aK 5 73 [.tmp 2] (r [gF 2]<|
 gR [M 0 10,S 10 11,D .gtr 11 20000 12] 12 [C 8 [] 13,M 13 2]<|
 r [M 0 15,C 14 [t 15] 16,M 16 14,E 14 0 17,E 14 1 18,E 14 2 19,M 17 3,M 18 4,M 19 5]<|
 q (r [M 5 20,D .neq 20 0 21]<|
 c 21 (r [V z0 6]<|
 q (r [V z0 7]<|
 gL 0 [M 7 22,M 0 23,S 23 24,B .lss 22 24 25] 25 ((
 q (.block 1 (r [M 0 28,M 7 29,bw (.j_ (t 28) (t 29)) 30,bw (.bin .eql (t 30) (.c (.int .u8 10))) 31]<|
 c 31 (R [M 6 32,D .add 32 1 33,M 33 6]) k))<|
 R [M 7 26,D .add 26 1 27,M 27 7])))<|
 r [M 3 34,N 34 35,D .eql 35 0 36,M 36 37,MT 5 38 37,DT .eql 38 4 39 37,P 37 39 40,M 40 41,MT 4 42 41,DT .geq 42 1 43 41,P 41 43 44,M 44 45,MT 4 46 45,MT 6 47 45,DT .add 47 1 48 45,BT .leq 46 48 49 45,P 45 49 50,M 50 51,CT 8 [] 52 51,P 51 52 53,M 53 2]<|
 .ret) k)<|
 r [M 3 55,C 9 [t 55] 56,M 56 54,E 54 0 57,E 54 1 58,M 57 8,M 58 9]<|
 r [M 4 59,D .eql 59 0 60,M 60 61,MT 8 62 61,MT 0 63 61,BT .eql 62 63 64 61,P 61 64 65,M 65 66,MT 9 67 66,DT .eql 67 0 68 66,P 66 68 69,M 69 70,CT 8 [] 71 70,P 70 71 72,M 72 2]<|
 .ret):=bV Tryz.func5
def ov: Of aK 6 181 [.tmp 6] (r [gF 6]<|
 gR [M 0 24,C 7 [t 24] 25,U 25 26,M 26 27,MF 0 28 27,NF 28 29 27,DF .eql 29 0 30 27,O 27 30 31,M 31 32,MF 2 33 32,SF 33 34 32,DF .gtr 34 300 35 32,O 32 35 36] 36 [C 8 [] 37,M 37 6]<|
 r [M 0 39,C 9 [t 39] 40,M 40 38,E 38 0 41,E 38 1 42,M 41 7,M 42 8]<|
 gR [M 8 43,D .neq 43 0 44,M 44 45,MF 7 46 45,SF 46 47 45,DF .gtr 47 30000 48 45,O 45 48 49] 49 [C 8 [] 50,M 50 6]<|
 q (r [V z0 9]<|
 gL 0 [M 9 51,M 2 52,S 52 53,B .lss 51 53 54] 54 ((
 q (.block 1 (r [M 2 57,M 9 58,bw (.j_ (t 57) (t 58)) 59,bw (.bin .eql (t 59) (.c (.int .u8 10))) 60,M 60 61,MF 2 62 61,MF 9 63 61,⟨.j_ (t 62) (t 63),(some 64),some (61,false)⟩,⟨.bin .geq (t 64) (.c (.int .u8 97)),(some 65),some (61,false)⟩,MF 65 66 61,MT 2 67 66,MT 9 68 66,⟨.j_ (t 67) (t 68),(some 69),some (66,true)⟩,⟨.bin .leq (t 69) (.c (.int .u8 122)),(some 70),some (66,true)⟩,PF 66 70 71 61,O 61 71 72]<|
 c 72 (r [C 8 [] 73,M 73 6]<|
 .ret) k))<|
 R [M 9 55,D .add 55 1 56,M 56 9])))<|
 r [M 1 74,bw (.nw .u64 (t 74)) 75,M 0 76,N 76 77,bw (.nw .u64 (t 77)) 78,B .rem 75 78 79,bw (.nw .i64 (t 79)) 80,M 80 10]<|
 r [M 0 82,M 10 83,bw (.tS ⟨true,12⟩ (t 82) none (some (t 83))) 84,C 9 [t 84] 85,M 85 81,E 81 0 86,E 81 1 87,M 86 11,M 87 12]<|
 r [V z0 13]<|
 q (r [V z0 14]<|
 gL 2 [M 14 88,M 11 89,S 89 90,B .lss 88 90 91] 91 ((
 q (.block 3 (r [M 11 94,M 14 95,bw (.j_ (t 94) (t 95)) 96,bw (.bin .eql (t 96) (.c (.int .u8 10))) 97]<|
 c 97 (R [M 13 98,D .add 98 1 99,M 99 13]) k))<|
 R [M 14 92,D .add 92 1 93,M 93 14])))<|
 r [M 11 101,M 2 102,B .add 101 102 103,bw (.bin .add (t 103) (gS [10])) 104,M 7 105,B .add 104 105 106,C 14 [t 106] 107,M 107 100,E 100 0 108,E 100 1 109,E 100 2 110,M 108 15,M 109 16,M 110 17]<|
 gR [M 15 111,N 111 112,D .neq 112 0 113,M 113 114,MF 16 115 114,MF 13 116 114,DF .add 116 1 117 114,BF .neq 115 117 118 114,O 114 118 119,M 119 120,MF 17 121 120,DF .neq 121 4 122 120,O 120 122 123] 123 [gF 6]<|
 r [M 11 125,bw (.bin .add (t 125) (gS [97,117,100,105])) 126,C 14 [t 126] 127,M 127 124,E 124 0 128,E 124 1 129,E 124 2 130,M 128 15,M 129 16,M 130 17]<|
 gR [M 15 131,N 131 132,D .neq 132 0 133,M 133 134,MF 16 135 134,MF 13 136 134,DF .add 136 1 137 134,BF .neq 135 137 138 134,O 134 138 139,M 139 140,MF 17 141 140,DF .neq 141 4 142 140,O 140 142 143] 143 [gF 6]<|
 r [M 0 144,M 10 145,I true 12 144 145 146,L 12 146 147,C 16 [t 147] 148,M 148 18]<|
 r [M 11 149,M 149 19]<|
 q (r [V z0 20]<|
 gL 4 [M 20 150,D .add 150 1 151,M 18 152,N 152 153,B .lss 151 153 154] 154 ((
 q (.block 5 (r [M 19 157,M 18 158,M 20 159,I false 1 158 159 160,K 160 161,B .add 157 161 162,bw (.bin .add (t 162) (gS [10])) 163,M 163 19]<|
 r [M 19 165,C 14 [t 165] 166,M 166 164,E 164 0 167,E 164 1 168,E 164 2 169,M 167 21,M 168 22,M 169 23]<|
 r [M 22 170,M 13 171,M 20 172,B .add 171 172 173,D .add 173 2 174,B .neq 170 174 175,M 175 176,MF 23 177 176,DF .neq 177 4 178 176,O 176 178 179]<|
 c 179 (r [gF 6]<|
 .ret) k))<|
 R [M 20 155,D .add 155 1 156,M 156 20])))<|
 r [C 8 [] 180,M 180 6]<|
 .ret):=bV Tryz.func6
def Ee: Of aK 7 38 [.tmp 2] (r [gF 2]<|
 gR [M 0 4,N 4 5,D .gtr 5 70 6] 6 [gF 2]<|
 q (r [V z0 3]<|
 gL 0 [M 3 7,M 0 8,N 8 9,B .lss 7 9 10] 10 ((
 q (.block 1 (r [M 0 13,M 3 14,I true 12 13 14 15,A 1 15 16,L 6 16 17,C 17 [t 17] 18,U 18 19,M 19 20,MF 0 21 20,MF 3 22 20,IF true 12 21 22 23 20,AF 7 23 24 20,KF 24 25 20,SF 25 26 20,DF .gtr 26 300 27 20,O 20 27 28,M 28 29,MF 0 30 29,MF 3 31 29,IF true 12 30 31 32 29,AF 9 32 33 29,KF 33 34 29,CF 18 [t 34] 35 29,UF 35 36 29,O 29 36 37]<|
 c 37 (r [gF 2]<|
 .ret) k))<|
 R [M 3 11,D .add 11 1 12,M 12 3])))<|
 r [gT 2]<|
 .ret):=bV Tryz.func7
def I8: Of aK 8 43 [.tmp 0] (r [gF 0]<|
 r [gU [z0,e0,.au,.au,z0,z0,.au,e0,z0,.au,z0,z0] [(0,1,gJ 5),(10,1,gJ 2),(11,1,gJ 5)] 7,gB true 12 (.agg [z0,e0,.au,.au,z0,z0,.au,e0,z0,.au,z0,z0]) 1 [(0,t 7)] 8,C 9 [t 8] 9,M 9 6,E 6 0 10,E 6 1 11,M 10 1,M 11 2]<|
 r [C 14 [gS [108,105,115,116,10,108,111,103,32,50,32,53,10]] 13,M 13 12,E 12 0 14,E 12 1 15,E 12 2 16,M 14 3,M 15 4,M 16 5]<|
 r [M 1 17,bw (.bin .eql (t 17) (gS [108,111,103,32,50,32,53,10])) 18,M 18 19,MT 2 20 19,DT .eql 20 0 21 19,P 19 21 22,M 22 23,MT 3 24 23,⟨.build [z0,e0,.au,.au,z0,z0,.au,e0,z0,.au,z0,z0] [(0,1,gJ 4)],(some 25),some (23,true)⟩,⟨.build [z0,e0,.au,.au,z0,z0,.au,e0,z0,.au,z0,z0] [(0,1,gJ 5),(10,1,gJ 2),(11,1,gJ 5)],(some 26),some (23,true)⟩,⟨.jI false ⟨true,12⟩ (.agg [z0,e0,.au,.au,z0,z0,.au,e0,z0,.au,z0,z0]) 2 [(0,t 25),(1,t 26)],(some 27),some (23,true)⟩,CT 15 [t 24,t 27] 28 23,P 23 28 29,M 29 30,MT 4 31 30,DT .eql 31 0 32 30,P 30 32 33,M 33 34,MT 5 35 34,DT .eql 35 0 36 34,P 34 36 37,M 37 38,CT 12 [gS [97,32,124,32,34,124,34],(.c (.int .u8 124))] 39 38,NT 39 40 38,DT .eql 40 2 41 38,P 38 41 42,M 42 0]<|
 .ret):=bV Tryz.func8
def I9: Of aK 9 37 [.tmp 2,.tmp 3] (r [V e0 2,V z0 3]<|
 gR [M 0 10,N 10 11,D .gtr 11 64 12] 12 [V e0 2,V (i6 24) 3]<|
 r [bw (.alloc (some 56) [.iX,.au]) 4]<|
 q (r [M 0 13,N 13 14,V z0 15]<|
 .block 0 (.loop (r [B .lss 15 14 16]<|
 q (c 16 k (.exit 0))<|
 q (.block 1 (r [I true 12 13 15 17,L 12 17 18,J [z0,e0,.au,.au,z0,z0,.au,e0,z0,.au,z0,z0] 6,W 12 6 18]<|
 q (r [L 12 6 19,C 19 [t 19] 20,M 20 7]<|
 r [M 7 21,D .neq 21 0 22]<|
 c 22 (r [M 7 23,V e0 2,M 23 3]<|
 .ret) k)<|
 r [L 12 6 24,C 20 [t 24] 25,N 25 26,V z0 27]<|
 .block 2 (.loop (r [B .lss 27 26 28]<|
 q (c 28 k (.exit 2))<|
 q (.block 3 (r [I false 1 25 27 29,K 29 30,M 30 9]<|
 r [M 9 31,C 21 [t 4,t 31] 32]<|
 R [C 22 [t 4,(.c (.int .u8 10))] 33]))<|
 R [D .add 27 1 34,M 34 27]))))<|
 R [D .add 15 1 35,M 35 15])))<|
 r [C 23 [t 4] 36,M 36 2,V z0 3]<|
 .ret):=pN ⟨[],[],[],[4],[],[]⟩ Tryz.func9
def Cr: Of aK 11 26 [.tmp 4] (r [gF 4]<|
 gR [M 0 6,N 6 7,M 1 8,N 8 9,B .neq 7 9 10] 10 [gF 4]<|
 q (r [V z0 5]<|
 gL 0 [M 5 11,M 0 12,N 12 13,B .lss 11 13 14] 14 ((
 q (.block 1 (q (.draw [M 0 17,M 5 18,I false 1 17 18 19,K 19 20,M 1 21,M 5 22,I false 1 21 22 23,K 23 24,B .neq 20 24 25] [])<|
 c 25 (r [gF 4]<|
 .ret) k))<|
 R [M 5 15,D .add 15 1 16,M 16 5])))<|
 r [gT 4]<|
 .ret):=bV Tryz.func11
def G1: Of aK 12 55 [.tmp 4] (r [V .au 4]<|
 r [bw (.lp ⟨false,1⟩) 5]<|
 r [V z0 6]<|
 r [gF 7]<|
 q (r [V z0 8]<|
 gL 0 [M 8 10,M 0 11,S 11 12,B .lss 10 12 13] 13 ((
 q (.block 1 (r [M 0 16,M 8 17,bw (.j_ (t 16) (t 17)) 18,M 18 9]<|
 .block 2 (r [M 7 20,M 20 21,MT 9 22 21,⟨.bin .eql (t 22) (.c (.int .u8 92)),(some 23),some (21,true)⟩,P 21 23 24,M 24 19]<|
 c 19 (R [M 8 25,D .add 25 1 26,M 26 8]) (r [M 7 28,M 28 27]<|
 c 27 (R [M 9 29,bw (.bin .neq (t 29) (.c (.int .u8 34))) 30,M 30 7]) (r [M 9 32,M 1 33,B .eql 32 33 34,M 34 31]<|
 c 31 (r [M 5 35,M 0 36,M 6 37,M 8 38,bw (.pH (t 36) (some (t 37)) (some (t 38))) 39,C 25 [t 39,gS [32]] 40,gB false 1 e0 1 [(0,t 40)] 41,gA false 1 35 41 42,M 42 5]<|
 R [M 8 43,D .add 43 1 44,M 44 6]) (r [M 9 46,bw (.bin .eql (t 46) (.c (.int .u8 34))) 47,M 47 45]<|
 c 45 (R [gT 7]) k))))))<|
 R [M 8 14,D .add 14 1 15,M 15 8])))<|
 r [M 5 48,M 0 49,M 6 50,bw (.pH (t 49) (some (t 50)) none) 51,C 25 [t 51,gS [32]] 52,gB false 1 e0 1 [(0,t 52)] 53,gA false 1 48 53 54,M 54 4]<|
 .ret):=pN ⟨[],[],[(5,⟨false,1⟩)],[],[],[]⟩ Tryz.func12
def ya: Of aK 14 48 [.tmp 2,.tmp 3,.tmp 4] (r [V .au 2,V z0 3,V z0 4]<|
 .scope 0 (gR [M 0 10,S 10 11,D .gtr 11 65536 12] 12 [V .au 2,V z0 3,V (i6 5) 4]<|
 r [gU [.au,z0,e0,.au,.au,z0,z0,.au] [] 13,X 13 14,M 14 5]<|
 r [V (i6 1) 6]<|
 q (.label 0)<|
 q (gL 0 [M 0 15,bw (.bin .neq (t 15) (.c e0)) 16] 16 ((
 q (.block 1 (r [M 0 20,C 27 [t 20,gS [10]] 21,M 21 19,E 19 0 22,E 19 1 23,E 19 2 24,M 22 7,M 23 8,M 24 9]<|
 q (r [M 9 25,U 25 26,M 26 27,MF 5 28 27,MF 7 29 27,CF 28 [t 28,t 29] 30 27,UF 30 31 27,O 27 31 32]<|
 c 32 (.exit 0) k)<|
 R [M 8 33,M 33 0]))<|
 R [M 6 17,D .add 17 1 18,M 18 6])))<|
 gR [M 0 34,bw (.bin .neq (t 34) (.c e0)) 35,M 35 36,MF 5 37 36,ZF 37 38 36,AF 1 38 39 36,KF 39 40 36,DF .neq 40 0 41 36,O 36 41 42] 42 [M 6 43,V .au 2,M 43 3,V (i6 4) 4]<|
 r [M 5 44,Z 44 45,A 0 45 46,K 46 47,M 47 2,V z0 3,V z0 4]<|
 .ret) (.seq k <|
 q (gL 0 [M 0 15,bw (.bin .neq (t 15) (.c e0)) 16] 16 ((
 q (.block 1 (r [M 0 20,C 27 [t 20,gS [10]] 21,M 21 19,E 19 0 22,E 19 1 23,E 19 2 24,M 22 7,M 23 8,M 24 9]<|
 q (r [M 9 25,U 25 26,M 26 27,MF 5 28 27,MF 7 29 27,CF 28 [t 28,t 29] 30 27,UF 30 31 27,O 27 31 32]<|
 c 32 (.exit 0) k)<|
 R [M 8 33,M 33 0]))<|
 R [M 6 17,D .add 17 1 18,M 18 6])))<|
 gR [M 0 34,bw (.bin .neq (t 34) (.c e0)) 35,M 35 36,MF 5 37 36,ZF 37 38 36,AF 1 38 39 36,KF 39 40 36,DF .neq 40 0 41 36,O 36 41 42] 42 [M 6 43,V .au 2,M 43 3,V (i6 4) 4]<|
 r [M 5 44,Z 44 45,A 0 45 46,K 46 47,M 47 2,V z0 3,V z0 4]<|
 .ret)):=bV Tryz.func14
def FD: Of aK 15 27 [.tmp 4] (r [gF 4]<|
 gR [M 0 6,N 6 7,M 1 8,N 8 9,B .neq 7 9 10] 10 [gF 4]<|
 q (r [V z0 5]<|
 gL 0 [M 5 11,M 0 12,N 12 13,B .lss 11 13 14] 14 ((
 q (.block 1 (q (.draw [M 0 17,M 5 18,I true 12 17 18 19,L 12 19 20,M 1 21,M 5 22,I true 12 21 22 23,L 12 23 24,Q 29 [t 20,t 24] 25,U 25 26] [])<|
 c 26 (r [gF 4]<|
 .ret) k))<|
 R [M 5 15,D .add 15 1 16,M 16 5])))<|
 r [gT 4]<|
 .ret):=bV Tryz.func15
def mj: Of aK 16 73 [.tmp 2] (r [X 0 1,V .au 2]<|
 q (r [A 0 1 4,K 4 5]<|
 .block 0 (r [D .eql 5 1 7,M 7 6]<|
 c 6 (r [A 1 1 8,L 6 8 9,C 30 [t 9] 10,M 10 2]<|
 .ret) (r [D .eql 5 2 12,M 12 11]<|
 c 11 (q (.draw [A 7 1 13,K 13 14,bw (.bin .add (gS [100,101,99,105,100,101,32]) (t 14)) 15,bw (.bin .add (t 15) (gS [32])) 16,A 8 1 17,K 17 18,Q 31 [t 18] 19,B .add 16 19 20,M 20 3] [])<|
 q (r [A 9 1 21,K 21 22,N 22 23,D .gtr 23 0 24]<|
 c 24 (R [M 3 25,bw (.bin .add (t 25) (gS [32])) 26,A 9 1 27,K 27 28,C 32 [t 28] 29,B .add 26 29 30,M 30 3]) k)<|
 r [M 3 31,gB false 1 e0 1 [(0,t 31)] 32,M 32 2]<|
 .ret) (r [D .eql 5 3 34,M 34 33]<|
 c 33 (q (.draw [A 7 1 35,K 35 36,bw (.bin .add (gS [118,101,114,115,105,111,110,32]) (t 36)) 37,bw (.bin .add (t 37) (gS [32])) 38,A 8 1 39,K 39 40,Q 31 [t 40] 41,B .add 38 41 42,gB false 1 e0 1 [(0,t 42)] 43,M 43 2] [])<|
 .ret) (r [D .eql 5 4 45,M 45 44]<|
 c 44 (r [gB false 1 e0 1 [(0,gS [108,105,115,116])] 46,M 46 2]<|
 .ret) (r [D .eql 5 5 48,M 48 47]<|
 c 47 (q (.draw [A 10 1 49,K 49 50,Q 31 [t 50] 51,bw (.bin .add (gS [108,111,103,32]) (t 51)) 52,bw (.bin .add (t 52) (gS [32])) 53,A 11 1 54,K 54 55,Q 31 [t 55] 56,B .add 53 56 57,gB false 1 e0 1 [(0,t 57)] 58,M 58 2] [])<|
 .ret) (r [D .eql 5 6 60,M 60 59]<|
 c 59 (r [A 10 1 61,K 61 62,C 31 [t 62] 63,bw (.bin .add (gS [99,111,109,112,97,99,116,32]) (t 63)) 64,gB false 1 e0 1 [(0,t 64)] 65,M 65 2]<|
 .ret) (r [D .eql 5 7 67,M 67 66]<|
 c 66 (r [gB false 1 e0 1 [(0,gS [97,117,100,105,116])] 68,M 68 2]<|
 .ret) (r [D .eql 5 8 70,M 70 69]<|
 c 69 (r [gB false 1 e0 1 [(0,gS [109,97,114,107])] 71,M 71 2]<|
 .ret) k)))))))))<|
 r [gB false 1 e0 1 [(0,gS [115,121,110,99])] 72,M 72 2]<|
 .ret):=bV Tryz.func16
def FE: Of aK 17 51 [.tmp 2] (r [X 0 1,gF 2]<|
 gR [A 0 1 4,K 4 5,S 5 6,D .gtr 6 300 7,M 7 8,AF 5 1 9 8,KF 9 10 8,NF 10 11 8,DF .gtr 11 26 12 8,O 8 12 13,M 13 14,AF 1 1 15 14,KF 15 16 14,CF 33 [t 16] 17 14,UF 17 18 14,O 14 18 19,M 19 20,AF 2 1 21 20,KF 21 22 20,CF 33 [t 22] 23 20,UF 23 24 20,O 20 24 25] 25 [gF 2]<|
 q (r [V z0 3]<|
 gL 0 [M 3 26,A 5 1 27,K 27 28,N 28 29,B .lss 26 29 30] 30 ((
 q (.block 1 (r [A 5 1 33,K 33 34,M 3 35,I true 2 34 35 36,A 0 36 37,K 37 38,C 34 [t 38] 39,U 39 40,M 40 41,AF 5 1 42 41,KF 42 43 41,MF 3 44 41,IF true 2 43 44 45 41,AF 1 45 46 41,KF 46 47 41,CF 34 [t 47] 48 41,UF 48 49 41,O 41 49 50]<|
 c 50 (r [gF 2]<|
 .ret) k))<|
 R [M 3 31,D .add 31 1 32,M 32 3])))<|
 r [gT 2]<|
 .ret):=bV Tryz.func17
def FF: Of aK 18 20 [.tmp 2] (r [gF 2]<|
 gR [M 0 4,N 4 5,D .gtr 5 12 6] 6 [gF 2]<|
 q (r [V z0 3]<|
 gL 0 [M 3 7,M 0 8,N 8 9,B .lss 7 9 10] 10 ((
 q (.block 1 (r [M 0 13,M 3 14,I true 3 13 14 15,A 2 15 16,K 16 17,S 17 18,D .gtr 18 300 19]<|
 c 19 (r [gF 2]<|
 .ret) k))<|
 R [M 3 11,D .add 11 1 12,M 12 3])))<|
 r [gT 2]<|
 .ret):=bV Tryz.func18
def FG: Of aK 19 71 [.tmp 2] (r [X 0 1,V z0 2]<|
 r [A 0 1 8,K 8 9,C 35 [t 9] 10,M 10 7,E 7 0 11,E 7 1 12,M 11 3,M 12 4]<|
 q (r [M 3 13,D .eql 13 1 14]<|
 c 14 (r [A 1 1 16,L 6 16 17,C 36 [t 17] 18,M 18 15,E 15 0 19,E 15 1 20,M 19 5,M 20 6]<|
 r [M 6 21,D .neq 21 0 22]<|
 c 22 (r [M 6 23,M 23 2]<|
 .ret) k) k)<|
 q (.block 0 (r [M 4 25,U 25 26,M 26 27,LF 12 1 28 27,CF 37 [t 28] 29 27,MF 3 30 27,BF .andNot 29 30 31 27,DF .neq 31 0 32 27,O 27 32 33,M 33 24]<|
 c 24 (r [V (i6 2) 2]<|
 .ret) (r [M 3 35,D .and 35 2 36,D .neq 36 0 37,M 37 38,AT 7 1 39 38,KT 39 40 38,CT 38 [t 40] 41 38,UT 41 42 38,MT 42 43 38,AF 8 1 44 43,KF 44 45 43,DF .lss 45 0 46 43,OT 43 46 47 38,MT 47 48 38,AF 8 1 49 48,KF 49 50 48,DF .gtr 50 2147483648 51 48,OT 48 51 52 38,P 38 52 53,M 53 34]<|
 c 34 (r [V (i6 2) 2]<|
 .ret) (r [A 10 1 55,K 55 56,C 39 [t 56] 57,U 57 58,M 58 59,AF 11 1 60 59,KF 60 61 59,CF 39 [t 61] 62 59,UF 62 63 59,O 59 63 64,M 64 65,AF 9 1 66 65,KF 66 67 65,CF 40 [t 67] 68 65,UF 68 69 65,O 65 69 70,M 70 54]<|
 c 54 (r [V (i6 2) 2]<|
 .ret) k))))<|
 r [V z0 2]<|
 .ret):=bV Tryz.func19
def lB: Of aK 20 62 [.tmp 2] (r [X 0 1,V .au 2]<|
 r [V (.fn (.func 41) [] []) 3]<|
 q (r [A 0 1 4,K 4 5]<|
 .block 0 (r [D .eql 5 1 7,M 7 6]<|
 c 6 (r [A 1 1 8,L 6 8 9,C 42 [t 9] 10,M 10 2]<|
 .ret) (r [D .eql 5 2 12,M 12 11]<|
 c 11 (q (.draw [A 7 1 13,K 13 14,M 3 15,A 8 1 16,K 16 17,bw (.call true (t 15) [t 17]) 18,gB false 1 e0 3 [(0,gS [100,101,99,105,100,101]),(1,t 14),(2,t 18)] 19,Q 44 [t 19] 20,A 9 1 21,K 21 22,Q 43 [t 20,t 22] 23,gB false 1 e0 1 [(0,t 23)] 24,M 24 2] [])<|
 .ret) (r [D .eql 5 3 26,M 26 25]<|
 c 25 (q (.draw [A 7 1 27,K 27 28,M 3 29,A 8 1 30,K 30 31,bw (.call true (t 29) [t 31]) 32,gB false 1 e0 3 [(0,gS [118,101,114,115,105,111,110]),(1,t 28),(2,t 32)] 33,Q 44 [t 33] 34,gB false 1 e0 1 [(0,t 34)] 35,M 35 2] [])<|
 .ret) (r [D .eql 5 5 37,M 37 36]<|
 c 36 (q (.draw [M 3 38,A 10 1 39,K 39 40,bw (.call true (t 38) [t 40]) 41,M 3 42,A 11 1 43,K 43 44,bw (.call true (t 42) [t 44]) 45,gB false 1 e0 3 [(0,gS [108,111,103]),(1,t 41),(2,t 45)] 46,Q 44 [t 46] 47,gB false 1 e0 1 [(0,t 47)] 48,M 48 2] [])<|
 .ret) (r [D .eql 5 6 50,M 50 49]<|
 c 49 (r [M 3 51,A 10 1 52,K 52 53,bw (.call false (t 51) [t 53]) 54,gB false 1 e0 2 [(0,gS [99,111,109,112,97,99,116]),(1,t 54)] 55,C 44 [t 55] 56,gB false 1 e0 1 [(0,t 56)] 57,M 57 2]<|
 .ret) k))))))<|
 r [A 0 1 58,K 58 59,C 45 [t 59] 60,gB false 1 e0 1 [(0,t 60)] 61,M 61 2]<|
 .ret):=bV Tryz.func20
def s8: Of aK 21 19 [.tmp 4,.tmp 5] (r [V z0 4,V .jn 5]<|
 r [M 0 6,C 46 [t 6] 7]<|
 r [M 0 8,M 0 9,Z 9 10,A 1 10 11,K 11 12,M 1 13,bw (.app (some 5) ⟨false,1⟩ (t 12) (t 13)) 14,Z 8 15,A 1 15 16,W 1 16 14]<|
 r [M 1 17,S 17 18,M 18 4,V .jn 5]<|
 .ret):=pN ⟨[],[],[],[14],[],[]⟩ Tryz.func21
def um: Of aK 22 17 [.tmp 4] (r [V .jn 4]<|
 r [M 0 5,C 46 [t 5] 6]<|
 r [M 0 7,M 0 8,Z 8 9,A 1 9 10,K 10 11,M 1 12,gB false 1 (.int .u8 0) 1 [(0,t 12)] 13,bw (.app (some 5) ⟨false,1⟩ (t 11) (t 13)) 14,Z 7 15,A 1 15 16,W 1 16 14]<|
 r [V .jn 4]<|
 .ret):=pN ⟨[],[],[],[14],[],[]⟩ Tryz.func22
def wu: Of aK 23 14 [.tmp 2] (r [V e0 2]<|
 q (.draw [M 0 3,Z 3 4,A 1 4 5,K 5 6,bw (.Bf ⟨false,1⟩ (t 6)) 7,M 0 8,Z 8 9,A 1 9 10,K 10 11,N 11 12,bw (.wT 5 (t 7) (t 12)) 13,M 13 2] [])<|
 .ret):=bV Tryz.func23
def I_: Of aK 27 13 [.tmp 4,.tmp 5,.tmp 6] (r [V e0 4,V e0 5,gF 6]<|
 r [M 0 7,M 1 8,C 59 [t 7,t 8] 9,E 9 0 10,E 9 1 11,E 9 2 12,M 10 4,M 11 5,M 12 6]<|
 .ret):=bV Tryz.func27
def ij: Of aK 28 71 [.tmp 4] (r [gF 4]<|
 gR [M 0 7,Z 7 8,A 1 8 9,K 9 10,D .neq 10 0 11] 11 [M 0 12,M 1 13,C 60 [t 12,t 13] 14,M 14 4]<|
 gR [M 0 15,Z 15 16,A 0 16 17,K 17 18,N 18 19,D .eql 19 64 20] 20 [gF 4]<|
 gR [M 1 21,C 61 [t 21,gS [116,97,98,108,101,32]] 22] 22 [M 0 23,M 1 24,C 62 [t 23,t 24] 25,M 25 26,MT 0 27 26,CT 63 [t 27] 28 26,P 26 28 29,M 29 30,MT 0 31 30,ZT 31 32 30,AT 2 32 33 30,LT 6 33 34 30,CT 42 [t 34] 35 30,⟨.gG ⟨false,1⟩ none (t 35) (.c z0),(some 36),some (30,true)⟩,KT 36 37 30,MT 1 38 30,BT .eql 37 38 39 30,P 30 39 40,M 40 4]<|
 r [M 1 42,C 64 [t 42] 43,M 43 41,E 41 0 44,E 41 1 45,J [z0,e0,.au,.au,z0,z0,.au,e0,z0,.au,z0,z0] 5,W 12 5 44,M 45 6]<|
 gR [M 6 46,U 46 47,M 47 48,LF 12 5 49 48,CF 19 [t 49] 50 48,DF .neq 50 0 51 48,O 48 51 52,M 52 53,LF 12 5 54 53,CF 20 [t 54] 55 53,⟨.gG ⟨false,1⟩ none (t 55) (.c z0),(some 56),some (53,false)⟩,KF 56 57 53,MF 1 58 53,BF .neq 57 58 59 53,O 53 59 60] 60 [gF 4]<|
 q (.draw [M 0 61,M 0 62,Z 62 63,A 0 63 64,K 64 65,L 12 5 66,gB true 12 (.agg [z0,e0,.au,.au,z0,z0,.au,e0,z0,.au,z0,z0]) 1 [(0,t 66)] 67,gA true 12 65 67 68,Z 61 69,A 0 69 70,W 1 70 68] [])<|
 r [gT 4]<|
 .ret):=bV Tryz.func28
def Md: Of aK 29 52 [.tmp 4] (r [X 0 2,X 1 3,gF 4]<|
 r [A 0 2 5,K 5 6,A 0 3 7,K 7 8,B .eql 6 8 9,M 9 10,AT 1 2 11 10,LT 6 11 12 10,AT 1 3 13 10,LT 6 13 14 10,CT 65 [t 12,t 14] 15 10,P 10 15 16,M 16 17,AT 7 2 18 17,KT 18 19 17,AT 7 3 20 17,KT 20 21 17,BT .eql 19 21 22 17,P 17 22 23,M 23 24,AT 8 2 25 24,KT 25 26 24,AT 8 3 27 24,KT 27 28 24,BT .eql 26 28 29 24,P 24 29 30,M 30 31,AT 9 2 32 31,KT 32 33 31,AT 9 3 34 31,KT 34 35 31,CT 66 [t 33,t 35] 36 31,P 31 36 37,M 37 38,AT 10 2 39 38,KT 39 40 38,AT 10 3 41 38,KT 41 42 38,BT .eql 40 42 43 38,P 38 43 44,M 44 45,AT 11 2 46 45,KT 46 47 45,AT 11 3 48 45,KT 48 49 45,BT .eql 47 49 50 45,P 45 50 51,M 51 4]<|
 .ret):=bV Tryz.func29
def mV: Of aK 31 38 [.tmp 2] (r [V e0 2]<|
 q (r [M 0 4,D .geq 4 (-9) 5,M 5 6,MT 0 7 6,DT .leq 7 9 8 6,P 6 8 9]<|
 c 9 (gR [M 0 10,D .lss 10 0 11] 11 [M 0 12,bw (.bin .sub (gJ 48) (t 12)) 13,bw (.nw .u8 (t 13)) 14,gB false 1 (.int .u8 0) 1 [(0,t 14)] 15,bw (.uZ (t 15)) 16,bw (.bin .add (gS [45]) (t 16)) 17,M 17 2]<|
 r [M 0 18,bw (.bin .add (gJ 48) (t 18)) 19,bw (.nw .u8 (t 19)) 20,gB false 1 (.int .u8 0) 1 [(0,t 20)] 21,bw (.uZ (t 21)) 22,M 22 2]<|
 .ret) k)<|
 r [M 0 23,D .rem 23 10 24,M 24 3]<|
 q (r [M 3 25,D .lss 25 0 26]<|
 c 26 (R [M 3 27,bw (.un .neg (t 27)) 28,M 28 3]) k)<|
 q (.draw [M 0 29,D .quo 29 10 30,Q 31 [t 30] 31,M 3 32,bw (.bin .add (gJ 48) (t 32)) 33,bw (.nw .u8 (t 33)) 34,gB false 1 (.int .u8 0) 1 [(0,t 34)] 35,bw (.uZ (t 35)) 36,B .add 31 36 37,M 37 2] [])<|
 .ret):=bV Tryz.func31
def G2: Of aK 32 21 [.tmp 2] (r [V e0 2]<|
 r [bw (.lp ⟨false,1⟩) 3]<|
 q (r [V z0 4]<|
 gL 0 [M 4 5,M 0 6,N 6 7,B .lss 5 7 8] 8 ((
 q (.block 1 (R [M 3 11,M 0 12,M 4 13,I true 3 12 13 14,L 3 14 15,C 71 [t 15] 16,gB false 1 e0 1 [(0,t 16)] 17,gA false 1 11 17 18,M 18 3]))<|
 R [M 4 9,D .add 9 1 10,M 10 4])))<|
 r [M 3 19,C 70 [t 19,gS [44,32]] 20,M 20 2]<|
 .ret):=pN ⟨[],[],[(3,⟨false,1⟩)],[],[],[]⟩ Tryz.func32
def Ja: Of aK 33 42 [.tmp 2] (r [gF 2]<|
 gR [M 0 5,C 72 [t 5] 6,U 6 7] 7 [gF 2]<|
 q (r [V z0 3]<|
 gL 0 [M 3 8,M 0 9,N 9 10,B .lss 8 10 11] 11 ((
 q (.block 1 (gR [M 0 14,M 3 15,I true 3 14 15 16,A 2 16 17,K 17 18,N 18 19,D .gtr 19 12 20] 20 [gF 2]<|
 r [V z0 4]<|
 gL 2 [M 4 21,M 0 22,M 3 23,I true 3 22 23 24,A 2 24 25,K 25 26,N 26 27,B .lss 21 27 28] 28 ((
 q (.block 3 (r [M 0 31,M 3 32,I true 3 31 32 33,A 2 33 34,K 34 35,M 4 36,I true 3 35 36 37,A 2 37 38,K 38 39,S 39 40,D .gtr 40 300 41]<|
 c 41 (r [gF 2]<|
 .ret) k))<|
 R [M 4 29,D .add 29 1 30,M 30 4]))))<|
 R [M 3 12,D .add 12 1 13,M 13 3])))<|
 r [gT 2]<|
 .ret):=bV Tryz.func33
def Jb: Of aK 34 19 [.tmp 2] (r [gF 2]<|
 gR [M 0 4,N 4 5,D .gtr 5 10 6] 6 [gF 2]<|
 q (r [V z0 3]<|
 gL 0 [M 3 7,M 0 8,N 8 9,B .lss 7 9 10] 10 ((
 q (.block 1 (r [M 0 13,M 3 14,I false 1 13 14 15,K 15 16,S 16 17,D .gtr 17 300 18]<|
 c 18 (r [gF 2]<|
 .ret) k))<|
 R [M 3 11,D .add 11 1 12,M 12 3])))<|
 r [gT 2]<|
 .ret):=bV Tryz.func34
def G3: Of aK 35 21 [.tmp 2,.tmp 3] (r [V z0 2,gF 3]<|
 q (r [M 0 4]<|
 .block 0 (r [D .eql 4 1 6,M 6 5]<|
 c 5 (r [V (i6 1) 2,gT 3]<|
 .ret) (r [D .eql 4 2 8,M 8 7]<|
 c 7 (r [V (i6 6) 2,gT 3]<|
 .ret) (r [D .eql 4 3 10,M 10 9]<|
 c 9 (r [V (i6 2) 2,gT 3]<|
 .ret) (r [D .eql 4 5 12,M 12 11]<|
 c 11 (r [V (i6 24) 2,gT 3]<|
 .ret) (r [D .eql 4 6 14,M 14 13]<|
 c 13 (r [V (i6 8) 2,gT 3]<|
 .ret) k))))))<|
 r [M 0 15,D .geq 15 1 16,M 16 17,MT 0 18 17,DT .leq 18 9 19 17,P 17 19 20,V z0 2,M 20 3]<|
 .ret):=bV Tryz.func35
def s9: Of aK 36 73 [.tmp 2,.tmp 3] (r [X 0 1,V e0 2,V z0 3]<|
 r [L 6 1 12,C 73 [t 12] 13,M 13 11,E 11 0 14,E 11 1 15,E 11 2 16,E 11 3 17,J [e0,.au,.au,z0,z0,.au] 4,W 6 4 14,M 15 5,M 16 6,M 17 7]<|
 q (.block 0 (r [M 7 19,D .neq 19 0 20,M 20 18]<|
 c 18 (r [M 7 21,V e0 2,M 21 3]<|
 .ret) (r [L 6 4 23,L 6 1 24,C 74 [t 23,t 24] 25,U 25 26,M 26 22]<|
 c 22 (r [V e0 2,V (i6 4) 3]<|
 .ret) k)))<|
 q (.draw [A 0 1 27,K 27 28,Q 75 [t 28] 29,A 3 1 30,K 30 31,Q 76 [t 31] 32,B .add 29 32 33,A 4 1 34,K 34 35,Q 76 [t 35] 36,B .add 33 36 37,M 37 8] [])<|
 q (.draw [M 8 38,A 1 1 39,K 39 40,Q 77 [t 40,(.c (.fn (.func 78) [] []))] 41,A 2 1 42,K 42 43,Q 77 [t 43,(.c (.fn (.func 79) [] []))] 44,B .add 41 44 45,A 5 1 46,K 46 47,N 47 48,Q 76 [t 48] 49,B .add 45 49 50,B .add 38 50 51,M 51 8] [])<|
 q (r [A 5 1 52,K 52 53,N 53 54,V z0 55]<|
 .block 1 (.loop (r [B .lss 55 54 56]<|
 q (c 56 k (.exit 1))<|
 q (.block 2 (r [I true 2 53 55 57,L 2 57 58,J [.au,.au] 10,W 2 10 58]<|
 .draw [M 8 59,A 0 10 60,K 60 61,Q 80 [t 61] 62,A 1 10 63,K 63 64,Q 80 [t 64] 65,B .add 62 65 66,B .add 59 66 67,M 67 8] []))<|
 R [D .add 55 1 68,M 68 55])))<|
 gR [M 8 69,S 69 70,D .gtr 70 1400 71] 71 [V e0 2,V (i6 5) 3]<|
 r [M 8 72,M 72 2,V z0 3]<|
 .ret):=bV Tryz.func36
def Jc: Of aK 37 38 [.tmp 2] (r [X 0 1,V z0 2]<|
 r [V z0 3]<|
 q (r [A 1 1 4,L 6 4 5,gU [e0,.au,.au,z0,z0,.au] [] 6,C 74 [t 5,t 6] 7,U 7 8]<|
 c 8 (R [M 3 9,D .or 9 1 10,M 10 3]) k)<|
 q (r [A 7 1 11,K 11 12,bw (.bin .neq (t 12) (.c e0)) 13,M 13 14,AF 8 1 15 14,KF 15 16 14,DF .neq 16 0 17 14,O 14 17 18]<|
 c 18 (R [M 3 19,D .or 19 2 20,M 20 3]) k)<|
 q (r [A 9 1 21,K 21 22,N 22 23,D .gtr 23 0 24]<|
 c 24 (R [M 3 25,D .or 25 4 26,M 26 3]) k)<|
 q (r [A 10 1 27,K 27 28,D .neq 28 0 29]<|
 c 29 (R [M 3 30,D .or 30 8 31,M 31 3]) k)<|
 q (r [A 11 1 32,K 32 33,D .neq 33 0 34]<|
 c 34 (R [M 3 35,D .or 35 16 36,M 36 3]) k)<|
 r [M 3 37,M 37 2]<|
 .ret):=bV Tryz.func37
def PD: Of aK 38 22 [.tmp 2] (r [gF 2]<|
 r [M 0 3,bw (.bin .neq (t 3) (.c e0)) 4,M 4 5,MT 0 6 5,CT 81 [t 6] 7 5,MT 0 8 5,ST 8 9 5,BT .eql 7 9 10 5,P 5 10 11,M 11 12,MT 0 13 12,ST 13 14 12,DT .leq 14 16 15 12,P 12 15 16,M 16 17,MT 0 18 17,CT 82 [t 18] 19 17,UT 19 20 17,P 17 20 21,M 21 2]<|
 .ret):=bV Tryz.func38
def FH: Of aK 39 9 [.tmp 2] (r [gF 2]<|
 r [M 0 3,D .geq 3 0 4,M 4 5,MT 0 6 5,DT .leq 6 1125899906842624 7 5,P 5 7 8,M 8 2]<|
 .ret):=bV Tryz.func39
def FI: Of aK 40 11 [.tmp 2] (r [gF 2]<|
 r [M 0 3,N 3 4,D .leq 4 6 5,M 5 6,MT 0 7 6,CT 83 [t 7,(.c (.fn (.func 84) [] []))] 8 6,UT 8 9 6,P 6 9 10,M 10 2]<|
 .ret):=bV Tryz.func40
def w9: Of aK 43 14 [.tmp 4] (r [V e0 4]<|
 gR [M 1 5,N 5 6,D .eql 6 0 7] 7 [M 0 8,M 8 4]<|
 r [M 0 9,bw (.bin .add (t 9) (gS [32])) 10,M 1 11,C 91 [t 11] 12,B .add 10 12 13,M 13 4]<|
 .ret):=bV Tryz.func43
def G4: Of aK 44 5 [.tmp 2] (r [V e0 2]<|
 r [M 0 3,C 90 [t 3,gS [32]] 4,M 4 2]<|
 .ret):=bV Tryz.func44
def G5: Of aK 45 12 [.tmp 2] (r [V e0 2]<|
 q (r [M 0 3]<|
 .block 0 (r [D .eql 3 4 5,M 5 4]<|
 c 4 (r [V (.str [108,105,115,116]) 2]<|
 .ret) (r [D .eql 3 7 7,M 7 6]<|
 c 6 (r [V (.str [97,117,100,105,116]) 2]<|
 .ret) (r [D .eql 3 8 9,M 9 8]<|
 c 8 (r [V (.str [109,97,114,107]) 2]<|
 .ret) (r [D .eql 3 9 11,M 11 10]<|
 c 10 (r [V (.str [115,121,110,99]) 2]<|
 .ret) k)))))<|
 r [V e0 2]<|
 .ret):=bV Tryz.func45
def uo: Of aK 46 20 [] (r [M 0 2,Z 2 3,A 0 3 4,K 4 5,bw (.qf false .p (t 5) (.c .iX)) 6]<|
 c 6 (R [M 0 7,M 0 8,bw (.Gt (t 8)) 9,bw (.DL 92 (t 9)) 10,bw (.Gu 56 (t 10)) 11,Z 7 12,A 0 12 13,W 1 13 11]) (r [M 0 14,Z 14 15,A 0 15 16,K 16 17,M 0 18,bw (.Es true (t 17) (t 18)) 19]<|
 c 19 (.stop) k)):=bV Tryz.func46
def Ef: Of aK 51 16 [.tmp 2] (r [gF 2]<|
 q (r [V z0 3]<|
 gL 0 [M 3 4,M 0 5,N 5 6,B .lss 4 6 7] 7 ((
 q (.block 1 (r [M 0 10,M 3 11,I true 3 10 11 12,L 3 12 13,C 97 [t 13] 14,U 14 15]<|
 c 15 (r [gF 2]<|
 .ret) k))<|
 R [M 3 8,D .add 8 1 9,M 9 3])))<|
 r [gT 2]<|
 .ret):=bV Tryz.func51
def od: Of aK 59 23 [.tmp 4,.tmp 5,.tmp 6] (r [V e0 4,V e0 5,gF 6]<|
 q (r [M 0 8,M 1 9,C 102 [t 8,t 9] 10,M 10 7]<|
 r [M 7 11,D .geq 11 0 12]<|
 c 12 (q (.draw [M 0 13,M 7 14,bw (.pH (t 13) none (some (t 14))) 15,M 0 16,M 7 17,M 1 18,S 18 19,B .add 17 19 20,bw (.pH (t 16) (some (t 20)) none) 21,M 15 4,M 21 5,gT 6] [])<|
 .ret) k)<|
 r [M 0 22,M 22 4,V e0 5,gF 6]<|
 .ret):=bV Tryz.func59
def eS: Of aK 60 174 [.tmp 4] (r [gF 4]<|
 r [M 1 15,C 27 [t 15,gS [32]] 16,M 16 14,E 14 0 17,E 14 1 18,E 14 2 19,M 17 5,M 18 6,M 19 7]<|
 q (.block 0 (r [M 5 21,bw (.bin .eql (t 21) (gS [105,110])) 22,M 22 23,MT 0 24 23,ZT 24 25 23,AT 1 25 26 23,KT 26 27 23,DT .leq 27 2 28 23,P 23 28 29,M 29 20]<|
 c 20 (r [M 1 31,C 103 [t 31] 32,M 32 30,E 30 0 33,E 30 1 34,J [e0,z0,.au] 8,W 3 8 33,M 34 9]<|
 q (.draw [M 0 35,M 0 36,M 0 37,Z 37 38,A 2 38 39,A 1 39 40,K 40 41,L 3 8 42,gB true 3 (.agg [e0,z0,.au]) 1 [(0,t 42)] 43,gA true 3 41 43 44,Z 35 45,A 2 45 46,A 1 46 47,W 1 47 44,Z 36 48,A 1 48 49,⟨.store 1 (t 49) (gJ 2),none,none⟩] [])<|
 r [M 9 50,M 50 51,MT 0 52 51,CT 63 [t 52] 53 51,P 51 53 54,M 54 55,MT 0 56 55,MT 1 57 55,CT 104 [t 56,t 57] 58 55,P 55 58 59,M 59 4]<|
 .ret) (r [M 5 61,bw (.bin .eql (t 61) (gS [111,117,116])) 62,M 62 63,MT 0 64 63,ZT 64 65 63,AT 1 65 66 63,KT 66 67 63,DT .eql 67 2 68 63,MT 68 69 63,MF 0 70 69,ZF 70 71 69,AF 1 71 72 69,KF 72 73 69,DF .eql 73 3 74 69,OT 69 74 75 63,P 63 75 76,M 76 60]<|
 c 60 (r [M 1 78,C 103 [t 78] 79,M 79 77,E 77 0 80,E 77 1 81,J [e0,z0,.au] 10,W 3 10 80,M 81 11]<|
 q (.draw [M 0 82,M 0 83,M 0 84,Z 84 85,A 2 85 86,A 2 86 87,K 87 88,L 3 10 89,gB true 3 (.agg [e0,z0,.au]) 1 [(0,t 89)] 90,gA true 3 88 90 91,Z 82 92,A 2 92 93,A 2 93 94,W 1 94 91,Z 83 95,A 1 95 96,⟨.store 1 (t 96) (gJ 3),none,none⟩] [])<|
 r [M 11 97,M 97 98,MT 0 99 98,CT 63 [t 99] 100 98,P 98 100 101,M 101 102,MT 0 103 102,MT 1 104 102,CT 104 [t 103,t 104] 105 102,P 102 105 106,M 106 4]<|
 .ret) (r [M 5 108,bw (.bin .eql (t 108) (gS [114,117,108,101])) 109,M 109 110,MT 0 111 110,ZT 111 112 110,AT 1 112 113 110,KT 113 114 110,DT .geq 114 3 115 110,P 110 115 116,M 116 107]<|
 c 107 (r [M 1 118,C 105 [t 118] 119,M 119 117,E 117 0 120,E 117 1 121,J [.au,.au] 12,W 2 12 120,M 121 13]<|
 q (.draw [M 0 122,M 0 123,M 0 124,Z 124 125,A 2 125 126,A 5 126 127,K 127 128,L 2 12 129,gB true 2 (.agg [.au,.au]) 1 [(0,t 129)] 130,gA true 2 128 130 131,Z 122 132,A 2 132 133,A 5 133 134,W 1 134 131,Z 123 135,A 1 135 136,⟨.store 1 (t 136) (gJ 4),none,none⟩] [])<|
 r [M 13 137,M 137 138,MT 0 139 138,CT 63 [t 139] 140 138,P 138 140 141,M 141 142,MT 0 143 142,MT 1 144 142,CT 104 [t 143,t 144] 145 142,P 142 145 146,M 146 4]<|
 .ret) (r [M 1 148,bw (.bin .eql (t 148) (gS [101,110,100])) 149,M 149 150,MT 0 151 150,ZT 151 152 150,AT 1 152 153 150,KT 153 154 150,DT .geq 154 3 155 150,P 150 155 156,M 156 147]<|
 c 147 (q (.draw [M 0 157,M 0 158,M 0 159,Z 159 160,A 0 160 161,K 161 162,M 0 163,Z 163 164,A 2 164 165,L 6 165 166,gU [z0,e0,.au,.au,z0,z0,.au,e0,z0,.au,z0,z0] [(0,1,gJ 1),(1,6,t 166)] 167,gB true 12 (.agg [z0,e0,.au,.au,z0,z0,.au,e0,z0,.au,z0,z0]) 1 [(0,t 167)] 168,gA true 12 162 168 169,Z 157 170,A 0 170 171,W 1 171 169,Z 158 172,A 1 172 173,⟨.store 1 (t 173) (.c z0),none,none⟩] [])<|
 r [gT 4]<|
 .ret) k)))))<|
 r [gF 4]<|
 .ret):=bV Tryz.func60
def Ao: Of aK 61 8 [.tmp 4] (r [gF 4]<|
 r [M 0 5,M 1 6,C 106 [t 5,t 6] 7,M 7 4]<|
 .ret):=bV Tryz.func61
def nE: Of aK 62 57 [.tmp 4] (r [gF 4]<|
 r [M 1 11,C 107 [t 11,gJ 4] 12,M 12 10,E 10 0 13,E 10 1 14,E 10 2 15,M 13 5,M 14 6,M 15 7]<|
 gR [M 7 16,U 16 17,M 17 18,MF 6 19 18,⟨.bin .neq (t 19) (.c e0),(some 20),some (18,false)⟩,O 18 20 21,M 21 22,MF 5 23 22,⟨.gG ⟨false,1⟩ none (t 23) (gJ 1),(some 24),some (22,false)⟩,KF 24 25 22,CF 38 [t 25] 26 22,UF 26 27 22,O 22 27 28] 28 [gF 4]<|
 q (.draw [Q 87 [] 29,M 5 30,gI false 1 30 2 31,K 31 32,Q 108 [t 29,t 32] 33,Q 88 [] 34,M 5 35,gI false 1 35 3 36,K 36 37,Q 108 [t 34,t 37] 38,M 33 8,M 38 9] [])<|
 r [M 0 39,M 5 40,gI false 1 40 1 41,K 41 42,M 8 43,M 9 44,gU [e0,.au,.au,z0,z0,.au] [(0,1,t 42),(3,1,t 43),(4,1,t 44)] 45,Z 39 46,A 2 46 47,W 6 47 45]<|
 r [M 0 48,Z 48 49,A 1 49 50,⟨.store 1 (t 50) (gJ 1),none,none⟩]<|
 r [M 8 51,D .gtr 51 0 52,M 52 53,MT 9 54 53,DT .geq 54 0 55 53,P 53 55 56,M 56 4]<|
 .ret):=bV Tryz.func62
def oO: Of aK 64 54 [.cell 2 true 12,.tmp 3] (r [J [z0,e0,.au,.au,z0,z0,.au,e0,z0,.au,z0,z0] 2,gF 3]<|
 r [M 0 9,C 27 [t 9,gS [32]] 10,M 10 8,E 8 0 11,E 8 1 12,E 8 2 13,M 11 4,M 12 5,M 13 6]<|
 q (r [M 4 14]<|
 .block 0 (r [bw (.bin .eql (t 14) (gS [100,101,99,105,100,101])) 16,M 16 15]<|
 c 15 (r [M 0 17,C 109 [gJ 2,t 17] 18,E 18 0 19,E 18 1 20,W 12 2 19,M 20 3]<|
 .ret) (r [bw (.bin .eql (t 14) (gS [118,101,114,115,105,111,110])) 22,M 22 21]<|
 c 21 (r [M 0 23,C 109 [gJ 3,t 23] 24,E 24 0 25,E 24 1 26,W 12 2 25,M 26 3]<|
 .ret) (r [bw (.bin .eql (t 14) (gS [108,111,103])) 28,M 28 27]<|
 c 27 (r [M 0 29,C 110 [gJ 5,t 29,gJ 2] 30,E 30 0 31,E 30 1 32,W 12 2 31,M 32 3]<|
 .ret) (r [bw (.bin .eql (t 14) (gS [99,111,109,112,97,99,116])) 34,M 34 33]<|
 c 33 (r [M 0 35,C 110 [gJ 6,t 35,gJ 1] 36,E 36 0 37,E 36 1 38,W 12 2 37,M 38 3]<|
 .ret) k)))))<|
 q (r [V (i6 1) 7]<|
 gL 1 [M 7 39,D .leq 39 9 40] 40 ((
 q (.block 2 (r [M 0 43,bw (.bin .neq (t 43) (.c e0)) 44,M 44 45,MT 7 46 45,CT 45 [t 46] 47 45,MT 0 48 45,BT .eql 47 48 49 45,P 45 49 50]<|
 c 50 (r [M 7 51,gU [z0,e0,.au,.au,z0,z0,.au,e0,z0,.au,z0,z0] [(0,1,t 51)] 52,W 12 2 52,gT 3]<|
 .ret) k))<|
 R [M 7 41,D .add 41 1 42,M 42 7])))<|
 r [gU [z0,e0,.au,.au,z0,z0,.au,e0,z0,.au,z0,z0] [] 53,W 12 2 53,gF 3]<|
 .ret):=bV Tryz.func64
def Bm: Of aK 65 83 [.tmp 4] (r [X 0 2,X 1 3,gF 4]<|
 gR [A 0 2 6,K 6 7,A 0 3 8,K 8 9,B .neq 7 9 10,M 10 11,AF 3 2 12 11,KF 12 13 11,AF 3 3 14 11,KF 14 15 11,BF .neq 13 15 16 11,O 11 16 17,M 17 18,AF 4 2 19 18,KF 19 20 18,AF 4 3 21 18,KF 21 22 18,BF .neq 20 22 23 18,O 18 23 24,M 24 25,AF 5 2 26 25,KF 26 27 25,NF 27 28 25,AF 5 3 29 25,KF 29 30 25,NF 30 31 25,BF .neq 28 31 32 25,O 25 32 33] 33 [gF 4]<|
 q (r [V z0 5]<|
 gL 0 [M 5 34,A 5 2 35,K 35 36,N 36 37,B .lss 34 37 38] 38 ((
 q (.block 1 (q (.draw [A 5 2 41,K 41 42,M 5 43,I true 2 42 43 44,A 0 44 45,K 45 46,A 5 3 47,K 47 48,M 5 49,I true 2 48 49 50,A 0 50 51,K 51 52,Q 11 [t 46,t 52] 53,U 53 54,M 54 55,AF 5 2 56 55,KF 56 57 55,MF 5 58 55,IF true 2 57 58 59 55,AF 1 59 60 55,KF 60 61 55,AF 5 3 62 55,KF 62 63 55,MF 5 64 55,IF true 2 63 64 65 55,AF 1 65 66 55,KF 66 67 55,QF 11 [t 61,t 67] 68 55,UF 68 69 55,O 55 69 70] [])<|
 c 70 (r [gF 4]<|
 .ret) k))<|
 R [M 5 39,D .add 39 1 40,M 40 5])))<|
 r [A 1 2 71,K 71 72,A 1 3 73,K 73 74,C 111 [t 72,t 74] 75,M 75 76,AT 2 2 77 76,KT 77 78 76,AT 2 3 79 76,KT 79 80 76,CT 111 [t 78,t 80] 81 76,P 76 81 82,M 82 4]<|
 .ret):=bV Tryz.func65
def FJ: Of aK 66 26 [.tmp 4] (r [gF 4]<|
 gR [M 0 6,N 6 7,M 1 8,N 8 9,B .neq 7 9 10] 10 [gF 4]<|
 q (r [V z0 5]<|
 gL 0 [M 5 11,M 0 12,N 12 13,B .lss 11 13 14] 14 ((
 q (.block 1 (q (.draw [M 0 17,M 5 18,I true 3 17 18 19,L 3 19 20,M 1 21,M 5 22,I true 3 21 22 23,L 3 23 24,bw (.r_ true true [.i,.i,.s] (t 20) (t 24)) 25] [])<|
 c 25 (r [gF 4]<|
 .ret) k))<|
 R [M 5 15,D .add 15 1 16,M 16 5])))<|
 r [gT 4]<|
 .ret):=bV Tryz.func66
def Eg: Of aK 67 2 [.tmp 0] (r [V .au 0]<|
 r [gB false 1 e0 6 [(0,gS [117,110,105,113,117,101]),(1,gS [102,105,114,115,116]),(2,gS [112,114,105,111,114,105,116,121]),(3,gS [97,110,121]),(4,gS [99,111,108,108,101,99,116]),(5,gS [114,117,108,101])] 1,M 1 0]<|
 .ret):=bV Tryz.func67
def Me: Of aK 68 2 [.tmp 0] (r [V .au 0]<|
 r [gB false 1 e0 5 [(0,gS [108,105,115,116]),(1,gS [115,117,109]),(2,gS [108,101,97,115,116]),(3,gS [109,111,115,116]),(4,gS [99,111,117,110,116])] 1,M 1 0]<|
 .ret):=bV Tryz.func68
def Jd: Of aK 69 2 [.tmp 0] (r [V .au 0]<|
 r [gB false 1 e0 3 [(0,gS [105,110,116]),(1,gS [116,101,120,116]),(2,gS [98,111,111,108])] 1,M 1 0]<|
 .ret):=bV Tryz.func69
def Mf: Of aK 70 25 [.tmp 4] (r [V e0 4]<|
 r [V e0 5]<|
 q (r [V z0 6]<|
 gL 0 [M 6 7,M 0 8,N 8 9,B .lss 7 9 10] 10 ((
 q (.block 1 (q (r [M 6 13,D .gtr 13 0 14]<|
 c 14 (R [M 5 15,M 1 16,B .add 15 16 17,M 17 5]) k)<|
 R [M 5 18,M 0 19,M 6 20,I false 1 19 20 21,K 21 22,B .add 18 22 23,M 23 5]))<|
 R [M 6 11,D .add 11 1 12,M 12 6])))<|
 r [M 5 24,M 24 4]<|
 .ret):=bV Tryz.func70
def Mg: Of aK 71 20 [.tmp 2] (r [X 0 1,V e0 2]<|
 q (r [A 0 1 3,K 3 4]<|
 .block 0 (r [D .eql 4 1 6,M 6 5]<|
 c 5 (r [A 1 1 7,K 7 8,C 31 [t 8] 9,M 9 2]<|
 .ret) (r [D .eql 4 2 11,M 11 10]<|
 c 10 (r [A 2 1 12,K 12 13,C 112 [t 13] 14,M 14 2]<|
 .ret) (r [D .eql 4 3 16,M 16 15]<|
 c 15 (gR [A 1 1 17,K 17 18,D .eql 18 1 19] 19 [V (.str [116,114,117,101]) 2]<|
 r [V (.str [102,97,108,115,101]) 2]<|
 .ret) k))))<|
 r [V (.str [110,117,108,108]) 2]<|
 .ret):=bV Tryz.func71
def Eh: Of aK 72 20 [.tmp 2] (r [gF 2]<|
 gR [M 0 4,N 4 5,D .gtr 5 12 6] 6 [gF 2]<|
 q (r [V z0 3]<|
 gL 0 [M 3 7,M 0 8,N 8 9,B .lss 7 9 10] 10 ((
 q (.block 1 (r [M 0 13,M 3 14,I true 3 13 14 15,A 0 15 16,K 16 17,S 17 18,D .gtr 18 300 19]<|
 c 19 (r [gF 2]<|
 .ret) k))<|
 R [M 3 11,D .add 11 1 12,M 12 3])))<|
 r [gT 2]<|
 .ret):=bV Tryz.func72
def yb: Of aK 73 106 [.cell 2 true 6,.tmp 3,.tmp 4,.tmp 5] (r [X 0 1,J [e0,.au,.au,z0,z0,.au] 2,V z0 3,V z0 4,V z0 5]<|
 .scope 0 (r [L 6 1 22,C 113 [t 22] 23,M 23 21,E 21 0 24,E 21 1 25,E 21 2 26,E 21 3 27,J [e0,.au,.au,z0,z0,.au,.au] 6,W 7 6 24,M 25 7,M 26 8,M 27 9]<|
 gR [M 9 28,D .neq 28 0 29] 29 [gU [e0,.au,.au,z0,z0,.au] [] 30,M 7 31,M 8 32,M 9 33,W 6 2 30,M 31 3,M 32 4,M 33 5]<|
 r [L 6 1 34,J [e0,.au,.au,z0,z0,.au] 10,W 6 10 34]<|
 r [A 5 10 35,⟨.store 1 (t 35) (.c .au),none,none⟩]<|
 r [J [.au,.au] 11]<|
 r [V (.fn (.func 114) [] []) 12]<|
 q (.label 0)<|
 q (r [A 6 6 36,K 36 37,N 37 38,V z0 39]<|
 .block 0 (.loop (r [B .lss 39 38 40]<|
 q (c 40 k (.exit 0))<|
 q (.block 1 (r [M 39 41,I true 2 37 39 42,L 2 42 43,J [.au,.au] 14,M 41 13,W 2 14 43]<|
 r [gU [.au,.au] [] 44,M 13 45,W 2 11 44,M 45 7]<|
 q (r [A 0 14 46,K 46 47,N 47 48,V z0 49]<|
 .block 2 (.loop (r [B .lss 49 48 50]<|
 q (c 50 k (.exit 2))<|
 q (.block 3 (r [M 49 51,I true 3 47 49 52,L 3 52 53,J [.bool false,.bool false,.au] 16,M 51 15,W 3 16 53]<|
 r [V e0 17]<|
 r [L 3 16 55,C 115 [t 55] 56,M 56 54,E 54 0 57,E 54 1 58,M 57 17,M 58 9]<|
 r [M 15 59,M 59 8]<|
 r [M 12 60,A 0 11 61,M 17 62,M 9 63,bw (.call false (t 60) [t 61,t 62,t 63]) 64,U 64 65]<|
 c 65 (.exit 0) k))<|
 R [D .add 49 1 66,M 66 49])))<|
 q (r [A 1 14 67,K 67 68,N 68 69,V z0 70]<|
 .block 4 (.loop (r [B .lss 70 69 71]<|
 q (c 71 k (.exit 4))<|
 q (.block 5 (r [M 70 72,I true 6 68 70 73,L 6 73 74,J [z0,z0,z0,e0,e0,.au] 19,M 72 18,W 6 19 74]<|
 r [V e0 20]<|
 r [L 6 19 76,C 116 [t 76] 77,M 77 75,E 75 0 78,E 75 1 79,M 78 20,M 79 9]<|
 r [A 1 1 80,K 80 81,N 81 82,M 18 83,B .add 82 83 84,M 84 8]<|
 r [M 12 85,A 1 11 86,M 20 87,M 9 88,bw (.call false (t 85) [t 86,t 87,t 88]) 89,U 89 90]<|
 c 90 (.exit 0) k))<|
 R [D .add 70 1 91,M 91 70])))<|
 R [A 5 10 92,K 92 93,L 2 11 94,gB true 2 (.agg [.au,.au]) 1 [(0,t 94)] 95,gA true 2 93 95 96,A 5 10 97,W 1 97 96]))<|
 R [D .add 39 1 98,M 98 39])))<|
 gR [M 9 99,D .neq 99 0 100] 100 [gU [e0,.au,.au,z0,z0,.au] [] 101,M 7 102,M 8 103,M 9 104,W 6 2 101,M 102 3,M 103 4,M 104 5]<|
 r [L 6 10 105,W 6 2 105,V z0 3,V z0 4,V z0 5]<|
 .ret) (.seq k <|
 q (r [A 6 6 36,K 36 37,N 37 38,V z0 39]<|
 .block 0 (.loop (r [B .lss 39 38 40]<|
 q (c 40 k (.exit 0))<|
 q (.block 1 (r [M 39 41,I true 2 37 39 42,L 2 42 43,J [.au,.au] 14,M 41 13,W 2 14 43]<|
 r [gU [.au,.au] [] 44,M 13 45,W 2 11 44,M 45 7]<|
 q (r [A 0 14 46,K 46 47,N 47 48,V z0 49]<|
 .block 2 (.loop (r [B .lss 49 48 50]<|
 q (c 50 k (.exit 2))<|
 q (.block 3 (r [M 49 51,I true 3 47 49 52,L 3 52 53,J [.bool false,.bool false,.au] 16,M 51 15,W 3 16 53]<|
 r [V e0 17]<|
 r [L 3 16 55,C 115 [t 55] 56,M 56 54,E 54 0 57,E 54 1 58,M 57 17,M 58 9]<|
 r [M 15 59,M 59 8]<|
 r [M 12 60,A 0 11 61,M 17 62,M 9 63,bw (.call false (t 60) [t 61,t 62,t 63]) 64,U 64 65]<|
 c 65 (.exit 0) k))<|
 R [D .add 49 1 66,M 66 49])))<|
 q (r [A 1 14 67,K 67 68,N 68 69,V z0 70]<|
 .block 4 (.loop (r [B .lss 70 69 71]<|
 q (c 71 k (.exit 4))<|
 q (.block 5 (r [M 70 72,I true 6 68 70 73,L 6 73 74,J [z0,z0,z0,e0,e0,.au] 19,M 72 18,W 6 19 74]<|
 r [V e0 20]<|
 r [L 6 19 76,C 116 [t 76] 77,M 77 75,E 75 0 78,E 75 1 79,M 78 20,M 79 9]<|
 r [A 1 1 80,K 80 81,N 81 82,M 18 83,B .add 82 83 84,M 84 8]<|
 r [M 12 85,A 1 11 86,M 20 87,M 9 88,bw (.call false (t 85) [t 86,t 87,t 88]) 89,U 89 90]<|
 c 90 (.exit 0) k))<|
 R [D .add 70 1 91,M 91 70])))<|
 R [A 5 10 92,K 92 93,L 2 11 94,gB true 2 (.agg [.au,.au]) 1 [(0,t 94)] 95,gA true 2 93 95 96,A 5 10 97,W 1 97 96]))<|
 R [D .add 39 1 98,M 98 39])))<|
 gR [M 9 99,D .neq 99 0 100] 100 [gU [e0,.au,.au,z0,z0,.au] [] 101,M 7 102,M 8 103,M 9 104,W 6 2 101,M 102 3,M 103 4,M 104 5]<|
 r [L 6 10 105,W 6 2 105,V z0 3,V z0 4,V z0 5]<|
 .ret)):=bV Tryz.func73
def Je: Of aK 74 45 [.tmp 4] (r [X 0 2,X 1 3,gF 4]<|
 r [A 0 2 5,K 5 6,A 0 3 7,K 7 8,B .eql 6 8 9,M 9 10,AT 3 2 11 10,KT 11 12 10,AT 3 3 13 10,KT 13 14 10,BT .eql 12 14 15 10,P 10 15 16,M 16 17,AT 4 2 18 17,KT 18 19 17,AT 4 3 20 17,KT 20 21 17,BT .eql 19 21 22 17,P 17 22 23,M 23 24,AT 1 2 25 24,KT 25 26 24,AT 1 3 27 24,KT 27 28 24,CT 117 [t 26,t 28,(.c (.fn (.func 118) [] []))] 29 24,P 24 29 30,M 30 31,AT 2 2 32 31,KT 32 33 31,AT 2 3 34 31,KT 34 35 31,CT 117 [t 33,t 35,(.c (.fn (.func 118) [] []))] 36 31,P 31 36 37,M 37 38,AT 5 2 39 38,KT 39 40 38,AT 5 3 41 38,KT 41 42 38,CT 119 [t 40,t 42,(.c (.fn (.func 120) [] []))] 43 38,P 38 43 44,M 44 4]<|
 .ret):=bV Tryz.func74
def Mh: Of aK 75 8 [.tmp 2] (r [V e0 2]<|
 r [M 0 3,S 3 4,C 76 [t 4] 5,M 0 6,B .add 5 6 7,M 7 2]<|
 .ret):=bV Tryz.func75
def Ns: Of aK 76 24 [.tmp 2] (r [V e0 2]<|
 r [M 0 5,C 121 [t 5] 6,M 6 3]<|
 r [bw (.nS ⟨false,1⟩ (.int .u8 0) (.c z0) (gJ 10)) 7,M 7 4]<|
 q (gL 0 [M 3 8,bw (.bin .geq (t 8) (.c (.int .u64 128))) 9] 9 ((
 .block 1 (r [M 4 10,M 3 11,C 122 [t 11] 12,bw (.bin .or (t 12) (.c (.int .u8 128))) 13,gB false 1 (.int .u8 0) 1 [(0,t 13)] 14,gA false 1 10 14 15,M 15 4]<|
 R [M 3 16,bw (.bin .shr (t 16) (.c (.int .u64 7))) 17,M 17 3]))))<|
 r [M 4 18,M 3 19,C 122 [t 19] 20,gB false 1 (.int .u8 0) 1 [(0,t 20)] 21,gA false 1 18 21 22,bw (.uZ (t 22)) 23,M 23 2]<|
 .ret):=bV Tryz.func76
def Ei: Of aK 77 32 [.tmp 4] (r [V e0 4]<|
 r [M 0 8,N 8 9,C 76 [t 9] 10,M 10 5]<|
 q (r [M 0 11,N 11 12,V z0 13]<|
 .block 0 (.loop (r [B .lss 13 12 14]<|
 q (c 14 k (.exit 0))<|
 q (.block 1 (r [I true 3 11 13 15,L 3 15 16,J [e0,z0,.au] 7,W 3 7 16]<|
 .draw [M 5 17,A 0 7 18,K 18 19,Q 75 [t 19] 20,A 1 7 21,K 21 22,Q 76 [t 22] 23,B .add 20 23 24,M 1 25,L 3 7 26,bw (.call true (t 25) [t 26]) 27,B .add 24 27 28,B .add 17 28 29,M 29 5] []))<|
 R [D .add 13 1 30,M 30 13])))<|
 r [M 5 31,M 31 4]<|
 .ret):=bV Tryz.func77
def Ej: Of aK 78 3 [.tmp 2] (r [X 0 1,V e0 2]<|
 r [V e0 2]<|
 .ret):=bV Tryz.func78
def G6: Of aK 79 12 [.tmp 2] (r [X 0 1,V e0 2]<|
 r [A 2 1 6,K 6 7,C 123 [t 7] 8,M 8 5,E 5 0 9,E 5 1 10,M 9 3,M 10 4]<|
 r [M 3 11,M 11 2]<|
 .ret):=bV Tryz.func79
def G7: Of aK 80 18 [.tmp 2] (r [V e0 2]<|
 r [V e0 3]<|
 q (r [M 0 6,N 6 7,V z0 8]<|
 .block 0 (.loop (r [B .lss 8 7 9]<|
 q (c 9 k (.exit 0))<|
 q (.block 1 (r [I false 1 6 8 10,K 10 11,M 11 5]<|
 R [M 3 12,M 5 13,C 75 [t 13] 14,B .add 12 14 15,M 15 3]))<|
 R [D .add 8 1 16,M 16 8])))<|
 r [M 3 17,M 17 2]<|
 .ret):=bV Tryz.func80
def PE: Of aK 81 13 [.tmp 2] (r [V z0 2]<|
 gR [M 0 3,bw (.bin .eql (t 3) (.c e0)) 4,M 4 5,MF 0 6 5,⟨.j_ (t 6) (.c z0),(some 7),some (5,false)⟩,CF 124 [t 7] 8 5,UF 8 9 5,O 5 9 10] 10 [V z0 2]<|
 r [M 0 11,C 125 [t 11,(.c (.fn (.func 126) [] []))] 12,M 12 2]<|
 .ret):=bV Tryz.func81
def G8: Of aK 82 14 [.tmp 2] (r [gF 2]<|
 q (r [M 0 3]<|
 .block 0 (q (r [bw (.bin .eql (t 3) (gS [97,110,100])) 5,M 5 4]<|
 c 4 k (r [bw (.bin .eql (t 3) (gS [111,114])) 6,M 6 4]<|
 c 4 k (r [bw (.bin .eql (t 3) (gS [110,111,116])) 7,M 7 4]<|
 c 4 k (r [bw (.bin .eql (t 3) (gS [105,102])) 8,M 8 4]<|
 c 4 k (r [bw (.bin .eql (t 3) (gS [116,104,101,110])) 9,M 9 4]<|
 c 4 k (r [bw (.bin .eql (t 3) (gS [101,108,115,101])) 10,M 10 4]<|
 c 4 k (r [bw (.bin .eql (t 3) (gS [116,114,117,101])) 11,M 11 4]<|
 c 4 k (r [bw (.bin .eql (t 3) (gS [102,97,108,115,101])) 12,M 12 4]<|
 c 4 k (R [bw (.bin .eql (t 3) (gS [110,117,108,108])) 13,M 13 4])))))))))<|
 c 4 (r [gT 2]<|
 .ret) k))<|
 r [gF 2]<|
 .ret):=bV Tryz.func82
def uq: Of aK 83 9 [.tmp 4] (r [gF 4]<|
 r [M 0 5,M 1 6,C 128 [t 5,t 6] 7,D .geq 7 0 8,M 8 4]<|
 .ret):=bV Tryz.func83
def Ct: Of aK 84 6 [.tmp 2] (r [X 0 1,gF 2]<|
 r [L 3 1 3,C 85 [t 3] 4,D .neq 4 0 5,M 5 2]<|
 .ret):=bV Tryz.func84
def Jf: Of aK 85 39 [.tmp 2] (r [X 0 1,V z0 2]<|
 r [gF 3]<|
 q (r [A 0 1 4,K 4 5]<|
 .block 0 (r [D .eql 5 0 7,M 7 6]<|
 c 6 (R [L 3 1 8,gU [z0,z0,e0] [] 9,bw (.r_ false true [.i,.i,.s] (t 8) (t 9)) 10,M 10 3]) (r [D .eql 5 1 12,M 12 11]<|
 c 11 (R [A 2 1 13,K 13 14,bw (.bin .eql (t 14) (.c e0)) 15,M 15 3]) (r [D .eql 5 2 17,M 17 16]<|
 c 16 (R [A 1 1 18,K 18 19,D .eql 19 0 20,M 20 21,AT 2 1 22 21,KT 22 23 21,CT 129 [t 23] 24 21,P 21 24 25,M 25 3]) (r [D .eql 5 3 27,M 27 26]<|
 c 26 (R [A 2 1 28,K 28 29,bw (.bin .eql (t 29) (.c e0)) 30,M 30 31,AT 1 1 32 31,KT 32 33 31,DT .andNot 33 1 34 31,DT .eql 34 0 35 31,P 31 35 36,M 36 3]) k)))))<|
 gR [M 3 37,U 37 38] 38 [V (i6 2) 2]<|
 r [V z0 2]<|
 .ret):=bV Tryz.func85
def Cu: Of aK 87 2 [.tmp 0] (r [V .au 0]<|
 r [gB false 1 e0 7 [(0,.c e0),(1,gS [117,110,105,113,117,101]),(2,gS [102,105,114,115,116]),(3,gS [112,114,105,111,114,105,116,121]),(4,gS [97,110,121]),(5,gS [99,111,108,108,101,99,116]),(6,gS [114,117,108,101])] 1,M 1 0]<|
 .ret):=bV Tryz.func87
def Jg: Of aK 88 2 [.tmp 0] (r [V .au 0]<|
 r [gB false 1 e0 5 [(0,gS [108,105,115,116]),(1,gS [115,117,109]),(2,gS [108,101,97,115,116]),(3,gS [109,111,115,116]),(4,gS [99,111,117,110,116])] 1,M 1 0]<|
 .ret):=bV Tryz.func88
def G9: Of aK 89 2 [.tmp 0] (r [V .au 0]<|
 r [gB false 1 e0 4 [(0,.c e0),(1,gS [105,110,116]),(2,gS [116,101,120,116]),(3,gS [98,111,111,108])] 1,M 1 0]<|
 .ret):=bV Tryz.func89
def Mi: Of aK 91 26 [.tmp 2] (r [V e0 2]<|
 r [bw (.lp ⟨false,1⟩) 3]<|
 q (r [M 0 8,N 8 9,V z0 10]<|
 .block 0 (.loop (r [B .lss 10 9 11]<|
 q (c 11 k (.exit 0))<|
 q (.block 1 (r [I true 3 8 10 12,L 3 12 13,J [z0,z0,e0] 5,W 3 5 13]<|
 r [L 3 5 15,C 132 [t 15] 16,M 16 14,E 14 0 17,E 14 1 18,M 17 6,M 18 7]<|
 R [M 3 19,M 6 20,gB false 1 e0 1 [(0,t 20)] 21,gA false 1 19 21 22,M 22 3]))<|
 R [D .add 10 1 23,M 23 10])))<|
 r [M 3 24,C 90 [t 24,gS [44,32]] 25,M 25 2]<|
 .ret):=pN ⟨[],[],[(3,⟨false,1⟩)],[],[],[]⟩ Tryz.func91
