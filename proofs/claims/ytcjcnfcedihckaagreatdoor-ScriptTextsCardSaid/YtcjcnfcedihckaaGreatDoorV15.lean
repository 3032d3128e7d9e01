/- Part. -/
import Derived.Test.YtcjcnfcedihckaaGreatDoorV14
import Derived.KernelRfl
set_option linter.all false
namespace Go.Proofs.YtcjcnfcedihckaaGreatDoor
open Go.AM Go.AM.W
set_option maxRecDepth 10000
def xX: Of aE 93 125 [.cell 2 true 6,.tmp 3,.tmp 4,.tmp 5] (r [X 0 1,J [e0,.ai,.ai,z0,z0,.ai] 2,V z0 3,V z0 4,V z0 5]<|
 r [L 6 1 20,C 133 [t 20] 21,M 21 19,E 19 0 22,E 19 1 23,E 19 2 24,E 19 3 25,J [e0,.ai,.ai,z0,z0,.ai,.ai] 6,W 7 6 22,M 23 7,M 24 8,M 25 9]<|
 gR [M 9 26,D .neq 26 0 27] 27 [gU [e0,.ai,.ai,z0,z0,.ai] [] 28,M 7 29,M 8 30,M 9 31,W 6 2 28,M 29 3,M 30 4,M 31 5]<|
 r [L 6 1 32,J [e0,.ai,.ai,z0,z0,.ai] 10,W 6 10 32]<|
 r [A 5 10 33,⟨.store 1 (t 33) (.c .ai),none,none⟩]<|
 q (r [V z0 11]<|
 gL 0 [M 11 34,A 6 6 35,K 35 36,N 36 37,B .lss 34 37 38] 38 ((
 q (.block 1 (r [gU [.ai,.ai] [] 41,J [.ai,.ai] 12,W 2 12 41]<|
 q (r [V z0 13]<|
 gL 2 [M 13 42,A 6 6 43,K 43 44,M 11 45,I true 2 44 45 46,A 0 46 47,K 47 48,N 48 49,B .lss 42 49 50] 50 ((
 q (.block 3 (r [A 6 6 54,K 54 55,M 11 56,I true 2 55 56 57,A 0 57 58,K 58 59,M 13 60,I true 3 59 60 61,L 3 61 62,C 134 [t 62] 63,M 63 53,E 53 0 64,E 53 1 65,M 64 14,M 65 15]<|
 gR [M 15 66,D .neq 66 0 67] 67 [gU [e0,.ai,.ai,z0,z0,.ai] [] 68,M 11 69,M 13 70,M 15 71,W 6 2 68,M 69 3,M 70 4,M 71 5]<|
 R [A 0 12 72,K 72 73,M 14 74,gB false 1 e0 1 [(0,t 74)] 75,gA false 1 73 75 76,A 0 12 77,W 1 77 76]))<|
 R [M 13 51,D .add 51 1 52,M 52 13])))<|
 q (r [V z0 16]<|
 gL 4 [M 16 78,A 6 6 79,K 79 80,M 11 81,I true 2 80 81 82,A 1 82 83,K 83 84,N 84 85,B .lss 78 85 86] 86 ((
 q (.block 5 (r [A 6 6 90,K 90 91,M 11 92,I true 2 91 92 93,A 1 93 94,K 94 95,M 16 96,I true 6 95 96 97,L 6 97 98,C 135 [t 98] 99,M 99 89,E 89 0 100,E 89 1 101,M 100 17,M 101 18]<|
 q (r [M 18 102,D .neq 102 0 103]<|
 c 103 (q (.draw [gU [e0,.ai,.ai,z0,z0,.ai] [] 104,M 11 105,A 1 1 106,K 106 107,N 107 108,M 16 109,B .add 108 109 110,M 18 111,W 6 2 104,M 105 3,M 110 4,M 111 5] [(t 106,t 2)])<|
 .ret) k)<|
 R [A 1 12 112,K 112 113,M 17 114,gB false 1 e0 1 [(0,t 114)] 115,gA false 1 113 115 116,A 1 12 117,W 1 117 116]))<|
 R [M 16 87,D .add 87 1 88,M 88 16])))<|
 R [A 5 10 118,K 118 119,L 2 12 120,gB true 2 (.agg [.ai,.ai]) 1 [(0,t 120)] 121,gA true 2 119 121 122,A 5 10 123,W 1 123 122]))<|
 R [M 11 39,D .add 39 1 40,M 40 11])))<|
 r [L 6 10 124,W 6 2 124,V z0 3,V z0 4,V z0 5]<|
 .ret):=bt Tryz.func93
def KR: Of aE 94 85 [.tmp 2] (r [X 0 1,V e0 2]<|
 q (.draw [A 0 1 7,K 7 8,Q 136 [t 8] 9,A 3 1 10,K 10 11,Q 137 [t 11] 12,B .add 9 12 13,A 4 1 14,K 14 15,Q 137 [t 15] 16,B .add 13 16 17,A 1 1 18,K 18 19,Q 138 [t 19,(.c (.bool false))] 20,B .add 17 20 21,A 2 1 22,K 22 23,Q 138 [t 23,(.c (.bool true))] 24,B .add 21 24 25,A 5 1 26,K 26 27,N 27 28,Q 137 [t 28] 29,B .add 25 29 30,M 30 3] [])<|
 q (r [V z0 4]<|
 gL 0 [M 4 31,A 5 1 32,K 32 33,N 33 34,B .lss 31 34 35] 35 ((
 q (.block 1 (q (r [V z0 5]<|
 gL 2 [M 5 38,A 5 1 39,K 39 40,M 4 41,I true 2 40 41 42,A 0 42 43,K 43 44,N 44 45,B .lss 38 45 46] 46 ((
 q (.block 3 (R [M 3 49,A 5 1 50,K 50 51,M 4 52,I true 2 51 52 53,A 0 53 54,K 54 55,M 5 56,I false 1 55 56 57,K 57 58,C 136 [t 58] 59,B .add 49 59 60,M 60 3]))<|
 R [M 5 47,D .add 47 1 48,M 48 5])))<|
 r [V z0 6]<|
 gL 4 [M 6 61,A 5 1 62,K 62 63,M 4 64,I true 2 63 64 65,A 1 65 66,K 66 67,N 67 68,B .lss 61 68 69] 69 ((
 q (.block 5 (R [M 3 72,A 5 1 73,K 73 74,M 4 75,I true 2 74 75 76,A 1 76 77,K 77 78,M 6 79,I false 1 78 79 80,K 80 81,C 136 [t 81] 82,B .add 72 82 83,M 83 3]))<|
 R [M 6 70,D .add 70 1 71,M 71 6]))))<|
 R [M 4 36,D .add 36 1 37,M 37 4])))<|
 r [M 3 84,M 84 2]<|
 .ret):=bt Tryz.func94
def KS: Of aE 95 27 [.tmp 2] (r [V z0 2]<|
 r [V z0 3]<|
 q (gL 0 [M 3 4,M 0 5,S 5 6,B .lss 4 6 7,M 7 8,MT 0 9 8,MT 3 10 8,⟨.fU (t 9) (t 10),(some 11),some (8,true)⟩,CT 139 [t 11] 12 8,MT 12 13 8,MF 3 14 13,DF .gtr 14 0 15 13,MF 15 16 13,MT 0 17 16,MT 3 18 16,⟨.fU (t 17) (t 18),(some 19),some (16,true)⟩,CT 140 [t 19] 20 16,PF 16 20 21 13,OT 13 21 22 8,P 8 22 23] 23 ((
 .block 1 (R [M 3 24,D .add 24 1 25,M 25 3]))))<|
 r [M 3 26,M 26 2]<|
 .ret):=bt Tryz.func95
def De: Of aE 96 18 [.tmp 2] (r [gF 2]<|
 r [gB false 1 e0 9 [(0,gS [97,110,100]),(1,gS [111,114]),(2,gS [110,111,116]),(3,gS [105,102]),(4,gS [116,104,101,110]),(5,gS [101,108,115,101]),(6,gS [116,114,117,101]),(7,gS [102,97,108,115,101]),(8,gS [110,117,108,108])] 5,M 5 3]<|
 q (r [V z0 4]<|
 gL 0 [M 4 6,M 3 7,N 7 8,B .lss 6 8 9] 9 ((
 q (.block 1 (r [M 3 12,M 4 13,I false 1 12 13 14,K 14 15,M 0 16,B .eql 15 16 17]<|
 c 17 (r [gT 2]<|
 .ret) k))<|
 R [M 4 10,D .add 10 1 11,M 11 4])))<|
 r [gF 2]<|
 .ret):=bt Tryz.func96
def Iu: Of aE 97 45 [.tmp 2] (r [X 0 1,gF 2]<|
 q (r [A 0 1 3,K 3 4]<|
 .block 0 (r [D .eql 4 0 6,M 6 5]<|
 c 5 (r [A 1 1 7,K 7 8,D .eql 8 0 9,M 9 10,AT 2 1 11 10,KT 11 12 10,⟨.bin .eql (t 12) (.c e0),(some 13),some (10,true)⟩,P 10 13 14,M 14 2]<|
 .ret) (r [D .eql 4 1 16,M 16 15]<|
 c 15 (r [A 2 1 17,K 17 18,aU (.bin .eql (t 18) (.c e0)) 19,M 19 2]<|
 .ret) (r [D .eql 4 2 21,M 21 20]<|
 c 20 (r [A 1 1 22,K 22 23,D .eql 23 0 24,M 24 25,AT 2 1 26 25,KT 26 27 25,CT 141 [t 27] 28 25,P 25 28 29,M 29 2]<|
 .ret) (r [D .eql 4 3 31,M 31 30]<|
 c 30 (r [A 2 1 32,K 32 33,aU (.bin .eql (t 33) (.c e0)) 34,M 34 35,AT 1 1 36 35,KT 36 37 35,DT .eql 37 0 38 35,MT 38 39 35,AF 1 1 40 39,KF 40 41 39,DF .eql 41 1 42 39,OT 39 42 43 35,P 35 43 44,M 44 2]<|
 .ret) k)))))<|
 r [gF 2]<|
 .ret):=bt Tryz.func97
def pS: Of aE 106 18 [.tmp 4] (r [gF 4]<|
 r [M 0 5,S 5 6,M 1 7,S 7 8,B .geq 6 8 9,M 9 10,MT 0 11 10,MT 1 12 10,ST 12 13 10,⟨.lf (t 11) none (some (t 13)),(some 14),some (10,true)⟩,MT 1 15 10,BT .eql 14 15 16 10,P 10 16 17,M 17 4]<|
 .ret):=bt Tryz.func106
def rA: Of aE 107 33 [.tmp 4,.tmp 5,.tmp 6] (r [V .ai 4,V e0 5,gF 6]<|
 r [M 0 8,M 1 9,D .add 9 1 10,C 150 [t 8,gS [32],t 10] 11,M 11 7]<|
 gR [M 7 12,N 12 13,M 1 14,B .lss 13 14 15] 15 [V .ai 4,V e0 5,gF 6]<|
 gR [M 7 16,N 16 17,M 1 18,B .eql 17 18 19] 19 [M 7 20,M 20 4,V e0 5,gT 6]<|
 q (.draw [M 7 21,M 1 22,aU (.tF ⟨false,1⟩ (t 21) none (some (t 22))) 23,M 7 24,M 1 25,I false 1 24 25 26,K 26 27,M 7 28,M 1 29,I false 1 28 29 30,K 30 31,aU (.bin .neq (t 31) (.c e0)) 32,M 23 4,M 27 5,M 32 6] [])<|
 .ret):=bt Tryz.func107
def xj: Of aE 108 19 [.tmp 4] (r [V z0 4]<|
 q (r [M 0 6,N 6 7,V z0 8]<|
 .block 0 (.loop (r [B .lss 8 7 9]<|
 q (c 9 k (.exit 0))<|
 q (.block 1 (r [M 8 10,M 10 5]<|
 r [M 1 11,M 0 12,M 5 13,I false 1 12 13 14,K 14 15,B .eql 11 15 16]<|
 c 16 (r [M 5 17,M 17 4]<|
 .ret) k))<|
 R [D .add 8 1 18,M 18 8])))<|
 r [V (i6 (-1)) 4]<|
 .ret):=bt Tryz.func108
def rB: Of aE 109 54 [.cell 4 true 12,.tmp 5] (r [J [z0,e0,.ai,.ai,z0,z0,.ai,e0,z0,.ai,z0,z0] 4,gF 5]<|
 r [M 1 12,C 107 [t 12,gJ 3] 13,M 13 11,E 11 0 14,E 11 1 15,E 11 2 16,M 14 6,M 15 7,M 16 8]<|
 gR [M 8 17,U 17 18,M 18 19,MF 0 20 19,DF .eql 20 3 21 19,MF 21 22 19,MT 7 23 22,⟨.bin .neq (t 23) (.c e0),(some 24),some (22,true)⟩,PF 22 24 25 19,O 19 25 26] 26 [gU [z0,e0,.ai,.ai,z0,z0,.ai,e0,z0,.ai,z0,z0] [] 27,W 12 4 27,gF 5]<|
 r [M 6 29,gI false 1 29 2 30,K 30 31,C 151 [t 31] 32,M 32 28,E 28 0 33,E 28 1 34,M 33 9,M 34 8]<|
 r [M 0 35,M 6 36,gI false 1 36 1 37,K 37 38,M 9 39,gU [z0,e0,.ai,.ai,z0,z0,.ai,e0,z0,.ai,z0,z0] [(0,1,t 35),(7,1,t 38),(8,1,t 39)] 40,J [z0,e0,.ai,.ai,z0,z0,.ai,e0,z0,.ai,z0,z0] 10,W 12 10 40]<|
 q (r [M 8 41,M 41 42,MT 7 43 42,⟨.bin .neq (t 43) (.c e0),(some 44),some (42,true)⟩,P 42 44 45]<|
 c 45 (R [M 7 47,C 149 [t 47] 48,M 48 46,E 46 0 49,E 46 1 50,A 9 10 51,W 1 51 49,M 50 8]) k)<|
 r [L 12 10 52,M 8 53,W 12 4 52,M 53 5]<|
 .ret):=bt Tryz.func109
def qw: Of aE 110 52 [.cell 6 true 12,.tmp 7] (r [J [z0,e0,.ai,.ai,z0,z0,.ai,e0,z0,.ai,z0,z0] 6,gF 7]<|
 r [M 1 13,M 2 14,D .add 14 1 15,C 107 [t 13,t 15] 16,M 16 12,E 12 0 17,E 12 1 18,E 12 2 19,M 17 8,M 18 9,M 19 10]<|
 gR [M 10 20,U 20 21,M 21 22,MF 9 23 22,⟨.bin .neq (t 23) (.c e0),(some 24),some (22,false)⟩,O 22 24 25] 25 [gU [z0,e0,.ai,.ai,z0,z0,.ai,e0,z0,.ai,z0,z0] [] 26,W 12 6 26,gF 7]<|
 r [M 0 27,gU [z0,e0,.ai,.ai,z0,z0,.ai,e0,z0,.ai,z0,z0] [(0,1,t 27)] 28,J [z0,e0,.ai,.ai,z0,z0,.ai,e0,z0,.ai,z0,z0] 11,W 12 11 28]<|
 r [M 8 30,gI false 1 30 1 31,K 31 32,C 151 [t 32] 33,M 33 29,E 29 0 34,E 29 1 35,A 10 11 36,W 1 36 34,M 35 10]<|
 q (r [M 10 37,M 37 38,MT 2 39 38,DT .eql 39 2 40 38,P 38 40 41]<|
 c 41 (R [M 8 43,gI false 1 43 2 44,K 44 45,C 151 [t 45] 46,M 46 42,E 42 0 47,E 42 1 48,A 11 11 49,W 1 49 47,M 48 10]) k)<|
 r [L 12 11 50,M 10 51,W 12 6 50,M 51 7]<|
 .ret):=bt Tryz.func110
def zc: Of aE 111 55 [.tmp 4] (r [gF 4]<|
 gR [M 0 6,N 6 7,M 1 8,N 8 9,B .neq 7 9 10] 10 [gF 4]<|
 q (r [V z0 5]<|
 gL 0 [M 5 11,M 0 12,N 12 13,B .lss 11 13 14] 14 ((
 q (.block 1 (q (.draw [M 0 17,M 5 18,I true 3 17 18 19,A 0 19 20,K 20 21,M 1 22,M 5 23,I true 3 22 23 24,A 0 24 25,K 25 26,B .neq 21 26 27,M 27 28,MF 0 29 28,MF 5 30 28,IF true 3 29 30 31 28,AF 1 31 32 28,KF 32 33 28,MF 1 34 28,MF 5 35 28,IF true 3 34 35 36 28,AF 1 36 37 28,KF 37 38 28,BF .neq 33 38 39 28,O 28 39 40,M 40 41,MF 0 42 41,MF 5 43 41,IF true 3 42 43 44 41,AF 2 44 45 41,KF 45 46 41,MF 1 47 41,MF 5 48 41,IF true 3 47 48 49 41,AF 2 49 50 41,KF 50 51 41,QF 66 [t 46,t 51] 52 41,UF 52 53 41,O 41 53 54] [])<|
 c 54 (r [gF 4]<|
 .ret) k))<|
 R [M 5 15,D .add 15 1 16,M 16 5])))<|
 r [gT 4]<|
 .ret):=bt Tryz.func111
def Iv: Of aE 112 32 [.tmp 2] (r [V e0 2]<|
 r [V (.str [34]) 3]<|
 q (r [V z0 4]<|
 gL 0 [M 4 5,M 0 6,S 6 7,B .lss 5 7 8] 8 ((
 q (.block 1 (q (r [M 0 11,M 4 12,aU (.fU (t 11) (t 12)) 13,aU (.bin .eql (t 13) (.c (.int .u8 34))) 14,M 14 15,MF 0 16 15,MF 4 17 15,⟨.fU (t 16) (t 17),(some 18),some (15,false)⟩,⟨.bin .eql (t 18) (.c (.int .u8 92)),(some 19),some (15,false)⟩,O 15 19 20]<|
 c 20 (R [M 3 21,aU (.bin .add (t 21) (gS [92])) 22,M 22 3]) k)<|
 R [M 3 23,M 0 24,M 4 25,M 4 26,D .add 26 1 27,aU (.lf (t 24) (some (t 25)) (some (t 27))) 28,B .add 23 28 29,M 29 3]))<|
 R [M 4 9,D .add 9 1 10,M 10 4])))<|
 r [M 3 30,aU (.bin .add (t 30) (gS [34])) 31,M 31 2]<|
 .ret):=bt Tryz.func112
def xY: Of aE 113 50 [.cell 2 true 7,.tmp 3,.tmp 4,.tmp 5] (r [X 0 1,J [e0,.ai,.ai,z0,z0,.ai,.ai] 2,V z0 3,V z0 4,V z0 5]<|
 q (r [L 6 1 13,C 152 [t 13] 14,M 14 6]<|
 r [M 6 15,D .neq 15 0 16]<|
 c 16 (r [gU [e0,.ai,.ai,z0,z0,.ai,.ai] [] 17,M 6 18,W 7 2 17,V (i6 (-1)) 3,V z0 4,M 18 5]<|
 .ret) k)<|
 r [L 6 1 19,gU [e0,.ai,.ai,z0,z0,.ai,.ai] [(0,6,t 19)] 20,J [e0,.ai,.ai,z0,z0,.ai,.ai] 7,W 7 7 20]<|
 q (r [A 5 1 21,K 21 22,N 22 23,V z0 24]<|
 .block 0 (.loop (r [B .lss 24 23 25]<|
 q (c 25 k (.exit 0))<|
 q (.block 1 (r [M 24 26,I true 2 22 24 27,L 2 27 28,J [.ai,.ai] 9,M 26 8,W 2 9 28]<|
 r [L 6 1 30,L 2 9 31,C 153 [t 30,t 31] 32,M 32 29,E 29 0 33,E 29 1 34,E 29 2 35,J [.ai,.ai] 10,W 2 10 33,M 34 11,M 35 12]<|
 gR [M 12 36,D .neq 36 0 37] 37 [gU [e0,.ai,.ai,z0,z0,.ai,.ai] [] 38,M 8 39,M 11 40,M 12 41,W 7 2 38,M 39 3,M 40 4,M 41 5]<|
 R [A 6 7 42,K 42 43,L 2 10 44,gB true 2 (.agg [.ai,.ai]) 1 [(0,t 44)] 45,gA true 2 43 45 46,A 6 7 47,W 1 47 46]))<|
 R [D .add 24 1 48,M 48 24])))<|
 r [L 7 7 49,W 7 2 49,V z0 3,V z0 4,V z0 5]<|
 .ret):=bt Tryz.func113
def mG: Of aE 114 17 [.tmp 6] (r [gF 6]<|
 r [M 0 7,M 0 8,Z 8 9,K 9 10,M 1 11,gB false 1 e0 1 [(0,t 11)] 12,gA false 1 10 12 13,Z 7 14,W 1 14 13]<|
 r [M 2 15,D .eql 15 0 16,M 16 6]<|
 .ret):=bt Tryz.func114
def vD: Of aE 115 49 [.tmp 2,.tmp 3] (r [X 0 1,V e0 2,V z0 3]<|
 q (r [L 3 1 11,C 154 [t 11] 12,M 12 4]<|
 r [M 4 13,D .neq 13 0 14]<|
 c 14 (r [M 4 15,V e0 2,M 15 3]<|
 .ret) k)<|
 gR [A 0 1 16,K 16 17] 17 [V (.str [45]) 2,V z0 3]<|
 r [aU (.jI ⟨false,1⟩) 5]<|
 q (r [A 2 1 18,K 18 19,N 19 20,V z0 21]<|
 .block 0 (.loop (r [B .lss 21 20 22]<|
 q (c 22 k (.exit 0))<|
 q (.block 1 (r [I true 15 19 21 23,L 15 23 24,J [z0,z0,z0,z0,e0,e0,.ai,z0,z0,z0,e0,e0,.ai,.bool false,.bool false] 7,W 15 7 24]<|
 r [L 15 7 26,C 155 [t 26] 27,M 27 25,E 25 0 28,E 25 1 29,M 28 8,M 29 9]<|
 gR [M 9 30,D .neq 30 0 31] 31 [M 9 32,V e0 2,M 32 3]<|
 R [M 5 33,M 8 34,gB false 1 e0 1 [(0,t 34)] 35,gA false 1 33 35 36,M 36 5]))<|
 R [D .add 21 1 37,M 37 21])))<|
 r [M 5 38,C 90 [t 38,gS [44,32]] 39,M 39 10]<|
 q (r [A 1 1 40,K 40 41]<|
 c 41 (R [M 10 42,aU (.bin .add (gS [110,111,116,40]) (t 42)) 43,aU (.bin .add (t 43) (gS [41])) 44,M 44 10]) k)<|
 gR [M 10 45,S 45 46,D .gtr 46 200 47] 47 [V e0 2,V (i6 5) 3]<|
 r [M 10 48,M 48 2,V z0 3]<|
 .ret):=mM ⟨[],[],[(5,⟨false,1⟩)],[],[],[]⟩ Tryz.func115
def xZ: Of aE 116 27 [.tmp 2,.tmp 3] (r [X 0 1,V e0 2,V z0 3]<|
 q (.block 0 (r [L 6 1 6,C 156 [t 6] 7,U 7 8,M 8 5]<|
 c 5 (r [V e0 2,V (i6 2) 3]<|
 .ret) (r [L 6 1 10,C 157 [t 10] 11,D .gtr 11 12 12,M 12 9]<|
 c 9 (r [V e0 2,V (i6 12) 3]<|
 .ret) k)))<|
 r [gU [.iE,.ai] [] 13,aU (.vt 200 (t 13)) 14,M 14 4]<|
 r [M 4 15,L 6 1 16,C 158 [t 15,t 16,.c z0] 17]<|
 gR [M 4 18,Z 18 19,A 0 19 20,C 159 [t 20] 21,D .gtr 21 200 22] 22 [V e0 2,V (i6 5) 3]<|
 r [M 4 23,Z 23 24,A 0 24 25,C 23 [t 25] 26,M 26 2,V z0 3]<|
 .ret):=mM ⟨[],[],[],[14],[],[]⟩ Tryz.func116
def tS: Of aE 117 32 [.tmp 6] (r [gF 6]<|
 gR [M 0 10,N 10 11,M 1 12,N 12 13,B .neq 11 13 14] 14 [gF 6]<|
 q (r [M 0 15,N 15 16,V z0 17]<|
 .block 0 (.loop (r [B .lss 17 16 18]<|
 q (c 18 k (.exit 0))<|
 q (.block 1 (r [M 17 19,I true 3 15 17 20,L 3 20 21,J [e0,z0,.ai] 8,M 19 7,W 3 8 21]<|
 r [M 1 22,M 7 23,I true 3 22 23 24,L 3 24 25,J [e0,z0,.ai] 9,W 3 9 25]<|
 r [M 2 26,L 3 8 27,L 3 9 28,aU (.call false (t 26) [t 27,t 28]) 29,U 29 30]<|
 c 30 (r [gF 6]<|
 .ret) k))<|
 R [D .add 17 1 31,M 31 17])))<|
 r [gT 6]<|
 .ret):=bt Tryz.func117
def zd: Of aE 118 24 [.tmp 4] (r [X 0 2,X 1 3,gF 4]<|
 r [A 0 2 5,K 5 6,A 0 3 7,K 7 8,B .eql 6 8 9,M 9 10,AT 1 2 11 10,KT 11 12 10,AT 1 3 13 10,KT 13 14 10,BT .eql 12 14 15 10,P 10 15 16,M 16 17,AT 2 2 18 17,KT 18 19 17,AT 2 3 20 17,KT 20 21 17,CT 160 [t 19,t 21] 22 17,P 17 22 23,M 23 4]<|
 .ret):=bt Tryz.func118
def vE: Of aE 119 32 [.tmp 6] (r [gF 6]<|
 gR [M 0 10,N 10 11,M 1 12,N 12 13,B .neq 11 13 14] 14 [gF 6]<|
 q (r [M 0 15,N 15 16,V z0 17]<|
 .block 0 (.loop (r [B .lss 17 16 18]<|
 q (c 18 k (.exit 0))<|
 q (.block 1 (r [M 17 19,I true 2 15 17 20,L 2 20 21,J [.ai,.ai] 8,M 19 7,W 2 8 21]<|
 r [M 1 22,M 7 23,I true 2 22 23 24,L 2 24 25,J [.ai,.ai] 9,W 2 9 25]<|
 r [M 2 26,L 2 8 27,L 2 9 28,aU (.call false (t 26) [t 27,t 28]) 29,U 29 30]<|
 c 30 (r [gF 6]<|
 .ret) k))<|
 R [D .add 17 1 31,M 31 17])))<|
 r [gT 6]<|
 .ret):=bt Tryz.func119
def Bw: Of aE 120 17 [.tmp 4] (r [X 0 2,X 1 3,gF 4]<|
 r [A 0 2 5,K 5 6,A 0 3 7,K 7 8,C 161 [t 6,t 8] 9,M 9 10,AT 1 2 11 10,KT 11 12 10,AT 1 3 13 10,KT 13 14 10,CT 161 [t 12,t 14] 15 10,P 10 15 16,M 16 4]<|
 .ret):=bt Tryz.func120
def KU: Of aE 121 10 [.tmp 2] (r [V (.int .u64 0) 2]<|
 r [M 0 3,aU (.ld .u64 (t 3)) 4,aU (.bin .shl (t 4) (.c (.int .u64 1))) 5,M 0 6,aU (.bin .shr (t 6) (.c (.int .u64 63))) 7,aU (.ld .u64 (t 7)) 8,B .xor 5 8 9,M 9 2]<|
 .ret):=bt Tryz.func121
def AA: Of aE 122 6 [.tmp 2] (r [V (.int .u8 0) 2]<|
 r [M 0 3,aU (.ld .u8 (t 3)) 4,aU (.bin .and (t 4) (.c (.int .u8 127))) 5,M 5 2]<|
 .ret):=bt Tryz.func122
def Ml: Of aE 123 31 [.tmp 2,.tmp 3] (r [V e0 2,V z0 3]<|
 r [M 0 9,N 9 10,C 76 [t 10] 11,M 11 4]<|
 q (r [M 0 12,N 12 13,V z0 14]<|
 .block 0 (.loop (r [B .lss 14 13 15]<|
 q (c 15 k (.exit 0))<|
 q (.block 1 (r [I true 3 12 14 16,L 3 16 17,J [z0,z0,e0] 6,W 3 6 17]<|
 r [L 3 6 19,C 162 [t 19] 20,M 20 18,E 18 0 21,E 18 1 22,M 21 7,M 22 8]<|
 gR [M 8 23,D .neq 23 0 24] 24 [M 8 25,V e0 2,M 25 3]<|
 R [M 4 26,M 7 27,B .add 26 27 28,M 28 4]))<|
 R [D .add 14 1 29,M 29 14])))<|
 r [M 4 30,M 30 2,V z0 3]<|
 .ret):=bt Tryz.func123
def KV: Of aE 124 15 [.tmp 2] (r [gF 2]<|
 r [M 0 3,aU (.bin .or (t 3) (.c (.int .u8 32))) 4,aU (.bin .geq (t 4) (.c (.int .u8 97))) 5,M 5 6,MT 0 7 6,⟨.bin .or (t 7) (.c (.int .u8 32)),(some 8),some (6,true)⟩,⟨.bin .leq (t 8) (.c (.int .u8 122)),(some 9),some (6,true)⟩,P 6 9 10,M 10 11,MF 0 12 11,⟨.bin .eql (t 12) (.c (.int .u8 95)),(some 13),some (11,false)⟩,O 11 13 14,M 14 2]<|
 .ret):=bt Tryz.func124
def Ro: Of aE 125 21 [.tmp 4] (r [V z0 4]<|
 q (r [M 0 6,S 6 7,V z0 8]<|
 .block 0 (.loop (r [B .lss 8 7 9]<|
 q (c 9 k (.exit 0))<|
 q (.block 1 (r [M 8 10,M 10 5]<|
 r [M 1 11,M 0 12,M 5 13,aU (.fU (t 12) (t 13)) 14,aU (.call false (t 11) [t 14]) 15,U 15 16]<|
 c 16 (r [M 5 17,M 17 4]<|
 .ret) k))<|
 R [D .add 8 1 18,M 18 8])))<|
 r [M 0 19,S 19 20,M 20 4]<|
 .ret):=bt Tryz.func125
def KW: Of aE 126 9 [.tmp 2] (r [gF 2]<|
 r [M 0 3,C 124 [t 3] 4,M 4 5,MF 0 6 5,CF 127 [t 6] 7 5,O 5 7 8,M 8 2]<|
 .ret):=bt Tryz.func126
def Mm: Of aE 127 9 [.tmp 2] (r [gF 2]<|
 r [M 0 3,aU (.bin .geq (t 3) (.c (.int .u8 48))) 4,M 4 5,MT 0 6 5,⟨.bin .leq (t 6) (.c (.int .u8 57)),(some 7),some (5,true)⟩,P 5 7 8,M 8 2]<|
 .ret):=bt Tryz.func127
def uD: Of aE 128 19 [.tmp 4] (r [V z0 4]<|
 q (r [M 0 6,N 6 7,V z0 8]<|
 .block 0 (.loop (r [B .lss 8 7 9]<|
 q (c 9 k (.exit 0))<|
 q (.block 1 (r [M 8 10,M 10 5]<|
 r [M 1 11,M 0 12,M 5 13,I true 3 12 13 14,L 3 14 15,aU (.call false (t 11) [t 15]) 16]<|
 c 16 (r [M 5 17,M 17 4]<|
 .ret) k))<|
 R [D .add 8 1 18,M 18 8])))<|
 r [V (i6 (-1)) 4]<|
 .ret):=bt Tryz.func128
def Iw: Of aE 129 19 [.tmp 2] (r [gF 2]<|
 gR [M 0 5,S 5 6,D .gtr 6 40 7] 7 [gF 2]<|
 q (r [M 0 8,aU (.D3 (t 8)) 9]<|
 .block 0 (.loop (r [aU (.D4 (t 9)) 10,E 10 0 11]<|
 q (c 11 k (.exit 0))<|
 .block 1 (r [E 10 2 12,M 12 4]<|
 r [M 4 13,aU (.bin .lss (t 13) (.c (.int .i32 32))) 14,M 14 15,MF 4 16 15,⟨.bin .gtr (t 16) (.c (.int .i32 126)),(some 17),some (15,false)⟩,O 15 17 18]<|
 c 18 (r [gF 2]<|
 .ret) k))))<|
 r [gT 2]<|
 .ret):=bt Tryz.func129
def Af: Of aE 132 28 [.tmp 2,.tmp 3] (r [X 0 1,V e0 2,V z0 3]<|
 q (r [L 3 1 5,C 85 [t 5] 6,M 6 4]<|
 r [M 4 7,D .neq 7 0 8]<|
 c 8 (r [M 4 9,V e0 2,M 9 3]<|
 .ret) k)<|
 q (r [A 0 1 10,K 10 11]<|
 .block 0 (r [D .eql 11 1 13,M 13 12]<|
 c 12 (r [A 1 1 14,K 14 15,C 41 [t 15] 16,M 16 2,V z0 3]<|
 .ret) (r [D .eql 11 2 18,M 18 17]<|
 c 17 (r [A 2 1 19,K 19 20,C 168 [t 20] 21,M 21 2,V z0 3]<|
 .ret) (r [D .eql 11 3 23,M 23 22]<|
 c 22 (r [A 1 1 24,K 24 25,D .eql 25 1 26,C 169 [t 26] 27,M 27 2,V z0 3]<|
 .ret) k))))<|
 r [V (.str [110,117,108,108]) 2,V z0 3]<|
 .ret):=bt Tryz.func132
def Ag: Of aE 133 51 [.cell 2 true 7,.tmp 3,.tmp 4,.tmp 5] (r [X 0 1,J [e0,.ai,.ai,z0,z0,.ai,.ai] 2,V z0 3,V z0 4,V z0 5]<|
 q (r [L 6 1 12,C 170 [t 12] 13,M 13 6]<|
 r [M 6 14,D .neq 14 0 15]<|
 c 15 (r [gU [e0,.ai,.ai,z0,z0,.ai,.ai] [] 16,M 6 17,W 7 2 16,V (i6 (-1)) 3,V z0 4,M 17 5]<|
 .ret) k)<|
 r [L 6 1 18,gU [e0,.ai,.ai,z0,z0,.ai,.ai] [(0,6,t 18)] 19,J [e0,.ai,.ai,z0,z0,.ai,.ai] 7,W 7 7 19]<|
 q (r [V z0 8]<|
 gL 0 [M 8 20,A 5 1 21,K 21 22,N 22 23,B .lss 20 23 24] 24 ((
 q (.block 1 (q (.draw [L 6 1 28,A 5 1 29,K 29 30,M 8 31,I true 2 30 31 32,L 2 32 33,Q 171 [t 28,t 33] 34,M 34 27,E 27 0 35,E 27 1 36,E 27 2 37,J [.ai,.ai] 9,W 2 9 35,M 36 10,M 37 11] [])<|
 gR [M 11 38,D .neq 38 0 39] 39 [gU [e0,.ai,.ai,z0,z0,.ai,.ai] [] 40,M 8 41,M 10 42,M 11 43,W 7 2 40,M 41 3,M 42 4,M 43 5]<|
 R [A 6 7 44,K 44 45,L 2 9 46,gB true 2 (.agg [.ai,.ai]) 1 [(0,t 46)] 47,gA true 2 45 47 48,A 6 7 49,W 1 49 48]))<|
 R [M 8 25,D .add 25 1 26,M 26 8])))<|
 r [L 7 7 50,W 7 2 50,V z0 3,V z0 4,V z0 5]<|
 .ret):=bt Tryz.func133
def nE: Of aE 134 22 [.tmp 2,.tmp 3] (r [X 0 1,V e0 2,V z0 3]<|
 gR [L 3 1 6,C 172 [t 6] 7,U 7 8] 8 [V e0 2,V (i6 2) 3]<|
 r [L 3 1 10,C 173 [t 10] 11,M 11 9,E 9 0 12,E 9 1 13,M 12 4,M 13 5]<|
 gR [M 5 14,U 14 15,M 15 16,MF 4 17 16,SF 17 18 16,DF .gtr 18 200 19 16,O 16 19 20] 20 [V e0 2,V (i6 5) 3]<|
 r [M 4 21,M 21 2,V z0 3]<|
 .ret):=bt Tryz.func134
def Ah: Of aE 135 19 [.tmp 2,.tmp 3] (r [X 0 1,V e0 2,V z0 3]<|
 q (.block 0 (r [L 6 1 6,C 174 [t 6] 7,U 7 8,M 8 5]<|
 c 5 (r [V e0 2,V (i6 2) 3]<|
 .ret) (r [L 6 1 10,C 175 [t 10] 11,D .gtr 11 12 12,M 12 9]<|
 c 9 (r [V e0 2,V (i6 12) 3]<|
 .ret) k)))<|
 r [L 6 1 13,C 176 [t 13,.c z0] 14,M 14 4]<|
 gR [M 4 15,S 15 16,D .gtr 16 200 17] 17 [V e0 2,V (i6 5) 3]<|
 r [M 4 18,M 18 2,V z0 3]<|
 .ret):=bt Tryz.func135
def KX: Of aE 136 8 [.tmp 2] (r [V e0 2]<|
 r [M 0 3,S 3 4,C 137 [t 4] 5,M 0 6,B .add 5 6 7,M 7 2]<|
 .ret):=bt Tryz.func136
def Mn: Of aE 137 24 [.tmp 2] (r [V e0 2]<|
 r [M 0 5,C 177 [t 5] 6,M 6 3]<|
 r [aU (.jI ⟨false,1⟩) 4]<|
 q (gL 0 [M 3 7,aU (.bin .geq (t 7) (.c (.int .u64 128))) 8] 8 ((
 .block 1 (r [M 4 9,M 3 10,aU (.bin .rem (t 10) (.c (.int .u64 128))) 11,aU (.bin .add (.c (.int .u64 128)) (t 11)) 12,aU (.ld .u8 (t 12)) 13,gB false 1 (.int .u8 0) 1 [(0,t 13)] 14,gA false 1 9 14 15,M 15 4]<|
 R [M 3 16,aU (.bin .quo (t 16) (.c (.int .u64 128))) 17,M 17 3]))))<|
 r [M 4 18,M 3 19,aU (.ld .u8 (t 19)) 20,gB false 1 (.int .u8 0) 1 [(0,t 20)] 21,gA false 1 18 21 22,aU (.sj (t 22)) 23,M 23 2]<|
 .ret):=mM ⟨[],[],[(4,⟨false,1⟩)],[],[],[]⟩ Tryz.func137
def Ew: Of aE 138 41 [.tmp 4] (r [V e0 4]<|
 r [M 0 7,N 7 8,C 137 [t 8] 9,M 9 5]<|
 q (r [V z0 6]<|
 gL 0 [M 6 10,M 0 11,N 11 12,B .lss 10 12 13] 13 ((
 q (.block 1 (q (.draw [M 5 16,M 0 17,M 6 18,I true 3 17 18 19,A 0 19 20,K 20 21,Q 136 [t 21] 22,B .add 16 22 23,M 0 24,M 6 25,I true 3 24 25 26,A 1 26 27,K 27 28,Q 137 [t 28] 29,B .add 23 29 30,M 30 5] [])<|
 r [M 1 31]<|
 c 31 (R [M 5 32,M 0 33,M 6 34,I true 3 33 34 35,A 2 35 36,K 36 37,C 178 [t 37] 38,B .add 32 38 39,M 39 5]) k))<|
 R [M 6 14,D .add 14 1 15,M 15 6])))<|
 r [M 5 40,M 40 4]<|
 .ret):=bt Tryz.func138
def Gi: Of aE 139 21 [.tmp 2] (r [gF 2]<|
 r [M 0 3,aU (.bin .geq (t 3) (.c (.int .u8 97))) 4,M 4 5,MT 0 6 5,⟨.bin .leq (t 6) (.c (.int .u8 122)),(some 7),some (5,true)⟩,P 5 7 8,M 8 9,MF 0 10 9,⟨.bin .geq (t 10) (.c (.int .u8 65)),(some 11),some (9,false)⟩,MF 11 12 9,MT 0 13 12,⟨.bin .leq (t 13) (.c (.int .u8 90)),(some 14),some (12,true)⟩,PF 12 14 15 9,O 9 15 16,M 16 17,MF 0 18 17,⟨.bin .eql (t 18) (.c (.int .u8 95)),(some 19),some (17,false)⟩,O 17 19 20,M 20 2]<|
 .ret):=bt Tryz.func139
def Ix: Of aE 140 9 [.tmp 2] (r [gF 2]<|
 r [M 0 3,aU (.bin .geq (t 3) (.c (.int .u8 48))) 4,M 4 5,MT 0 6 5,⟨.bin .leq (t 6) (.c (.int .u8 57)),(some 7),some (5,true)⟩,P 5 7 8,M 8 2]<|
 .ret):=bt Tryz.func140
def Iy: Of aE 141 23 [.tmp 2] (r [gF 2]<|
 q (r [V z0 3]<|
 gL 0 [M 3 4,M 0 5,S 5 6,B .lss 4 6 7] 7 ((
 q (.block 1 (r [M 0 10,M 3 11,aU (.fU (t 10) (t 11)) 12,aU (.bin .lss (t 12) (.c (.int .u8 32))) 13,M 13 14,MF 0 15 14,MF 3 16 14,⟨.fU (t 15) (t 16),(some 17),some (14,false)⟩,⟨.bin .gtr (t 17) (.c (.int .u8 126)),(some 18),some (14,false)⟩,O 14 18 19]<|
 c 19 (r [gF 2]<|
 .ret) k))<|
 R [M 3 8,D .add 8 1 9,M 9 3])))<|
 r [M 0 20,S 20 21,D .leq 21 40 22,M 22 2]<|
 .ret):=bt Tryz.func141
def Ex: Of aE 149 40 [.tmp 2,.tmp 3] (r [V .ai 2,gF 3]<|
 r [aU (.jI ⟨true,3⟩) 4]<|
 q (r [M 0 9,C 12 [t 9,(.c (.int .u8 44))] 10,N 10 11,V z0 12]<|
 .block 0 (.loop (r [B .lss 12 11 13]<|
 q (c 13 k (.exit 0))<|
 q (.block 1 (r [I false 1 10 12 14,K 14 15,M 15 6]<|
 r [M 6 17,C 183 [t 17] 18,M 18 16,E 16 0 19,E 16 1 20,J [z0,z0,e0] 7,W 3 7 19,M 20 8]<|
 q (r [M 8 21,U 21 22]<|
 c 22 (R [M 6 24,C 184 [t 24] 25,M 25 23,E 23 0 26,E 23 1 27,W 3 7 26,M 27 8]) k)<|
 gR [M 8 28,U 28 29] 29 [V .ai 2,gF 3]<|
 R [M 4 30,L 3 7 31,gB true 3 (.agg [z0,z0,e0]) 1 [(0,t 31)] 32,gA true 3 30 32 33,M 33 4]))<|
 R [D .add 12 1 34,M 34 12])))<|
 r [M 4 35,M 4 36,C 91 [t 36] 37,M 0 38,B .eql 37 38 39,M 35 2,M 39 3]<|
 .ret):=mM ⟨[],[],[(4,⟨true,3⟩)],[],[],[]⟩ Tryz.func149
def Df: Of aE 150 11 [.tmp 6] (r [V .ai 6]<|
 r [M 0 7,M 1 8,M 2 9,C 185 [t 7,t 8,.c z0,t 9] 10,M 10 6]<|
 .ret):=bt Tryz.func150
def Ey: Of aE 151 14 [.tmp 2,.tmp 3] (r [V z0 2,gF 3]<|
 r [M 0 7,C 184 [t 7] 8,M 8 6,E 6 0 9,E 6 1 10,J [z0,z0,e0] 4,W 3 4 9,M 10 5]<|
 r [A 1 4 11,K 11 12,M 5 13,M 12 2,M 13 3]<|
 .ret):=bt Tryz.func151
def wL: Of aE 152 33 [.tmp 2] (r [X 0 1,V z0 2]<|
 gR [A 0 1 5,K 5 6,C 38 [t 6] 7,U 7 8] 8 [V (i6 13) 2]<|
 q (r [A 1 1 9,K 9 10,C 186 [t 10,(.c (.bool false))] 11,M 11 3]<|
 r [M 3 12,D .neq 12 0 13]<|
 c 13 (r [M 3 14,M 14 2]<|
 .ret) k)<|
 q (r [A 2 1 15,K 15 16,A 3 1 17,K 17 18,D .eql 18 3 19,C 186 [t 16,t 19] 20,M 20 4]<|
 r [M 4 21,D .neq 21 0 22]<|
 c 22 (r [M 4 23,M 23 2]<|
 .ret) k)<|
 q (.block 0 (r [L 6 1 25,C 187 [t 25] 26,U 26 27,M 27 24]<|
 c 24 (r [V (i6 17) 2]<|
 .ret) (r [A 5 1 29,K 29 30,N 30 31,D .gtr 31 24 32,M 32 28]<|
 c 28 (r [V (i6 24) 2]<|
 .ret) k)))<|
 r [V z0 2]<|
 .ret):=bt Tryz.func152
def x4: Of aE 153 91 [.cell 4 true 2,.tmp 5,.tmp 6] (r [X 0 2,X 1 3,J [.ai,.ai] 4,V z0 5,V z0 6]<|
 gR [A 0 3 15,K 15 16,N 16 17,A 1 2 18,K 18 19,N 19 20,B .neq 17 20 21,M 21 22,AF 1 3 23 22,KF 23 24 22,NF 24 25 22,AF 2 2 26 22,KF 26 27 22,NF 27 28 22,BF .neq 25 28 29 22,O 22 29 30] 30 [L 2 4 31,W 2 4 31,V z0 5,V (i6 17) 6]<|
 q (r [A 0 3 32,K 32 33,N 33 34,V z0 35]<|
 .block 0 (.loop (r [B .lss 35 34 36]<|
 q (c 36 k (.exit 0))<|
 q (.block 1 (r [M 35 37,I false 1 33 35 38,K 38 39,M 37 7,M 39 8]<|
 r [L 6 2 41,M 7 42,M 8 43,C 188 [t 41,t 42,t 43] 44,M 44 40,E 40 0 45,E 40 1 46,J [.bool false,.bool false,.ai] 9,W 3 9 45,M 46 10]<|
 gR [M 10 47,D .neq 47 0 48] 48 [L 2 4 49,M 7 50,M 10 51,W 2 4 49,M 50 5,M 51 6]<|
 R [A 0 4 52,K 52 53,L 3 9 54,gB true 3 (.agg [.bool false,.bool false,.ai]) 1 [(0,t 54)] 55,gA true 3 53 55 56,A 0 4 57,W 1 57 56]))<|
 R [D .add 35 1 58,M 58 35])))<|
 q (r [A 1 3 59,K 59 60,N 60 61,V z0 62]<|
 .block 2 (.loop (r [B .lss 62 61 63]<|
 q (c 63 k (.exit 2))<|
 q (.block 3 (r [M 62 64,I false 1 60 62 65,K 65 66,M 64 11,M 66 12]<|
 r [L 6 2 68,M 11 69,M 12 70,C 189 [t 68,t 69,t 70] 71,M 71 67,E 67 0 72,E 67 1 73,J [z0,z0,z0,e0,e0,.ai] 13,W 6 13 72,M 73 14]<|
 q (r [M 14 74,D .neq 74 0 75]<|
 c 75 (q (.draw [L 2 4 76,A 1 2 77,K 77 78,N 78 79,M 11 80,B .add 79 80 81,M 14 82,W 2 4 76,M 81 5,M 82 6] [(t 77,t 4)])<|
 .ret) k)<|
 R [A 1 4 83,K 83 84,L 6 13 85,gB true 6 (.agg [z0,z0,z0,e0,e0,.ai]) 1 [(0,t 85)] 86,gA true 6 84 86 87,A 1 4 88,W 1 88 87]))<|
 R [D .add 62 1 89,M 89 62])))<|
 r [L 2 4 90,W 2 4 90,V z0 5,V z0 6]<|
 .ret):=bt Tryz.func153
def KY: Of aE 154 36 [.tmp 2] (r [X 0 1,V z0 2]<|
 q (.block 0 (r [A 0 1 4,K 4 5,M 5 6,AT 1 1 7 6,KT 7 8 6,UT 8 9 6,P 6 9 10,M 10 11,AT 2 1 12 11,KT 12 13 11,NT 13 14 11,DT .eql 14 0 15 11,P 11 15 16,M 16 3]<|
 c 3 (r [V z0 2]<|
 .ret) (r [A 0 1 18,K 18 19,M 19 20,AF 2 1 21 20,KF 21 22 20,NF 22 23 20,DF .eql 23 0 24 20,O 20 24 25,M 25 26,AF 2 1 27 26,KF 27 28 26,NF 28 29 26,DF .gtr 29 12 30 26,O 26 30 31,M 31 17]<|
 c 17 (r [V (i6 2) 2]<|
 .ret) (r [A 2 1 33,K 33 34,C 190 [t 34,(.c (.fn (.func 191) [] []))] 35,M 35 32]<|
 c 32 (r [V (i6 2) 2]<|
 .ret) k))))<|
 r [V z0 2]<|
 .ret):=bt Tryz.func154
def oq: Of aE 155 55 [.tmp 2,.tmp 3] (r [X 0 1,V e0 2,V z0 3]<|
 r [A 1 1 10,L 6 10 11,C 193 [t 11] 12,M 12 9,E 9 0 13,E 9 1 14,M 13 4,M 14 5]<|
 gR [M 5 15,D .neq 15 0 16] 16 [M 5 17,V e0 2,M 17 3]<|
 q (r [A 0 1 18,K 18 19]<|
 .block 0 (r [D .eql 19 1 21,M 21 20]<|
 c 20 (r [M 4 22,M 22 2,V z0 3]<|
 .ret) (q (r [D .eql 19 2 24,M 24 23]<|
 c 23 k (r [D .eql 19 3 25,M 25 23]<|
 c 23 k (r [D .eql 19 4 26,M 26 23]<|
 c 23 k (R [D .eql 19 5 27,M 27 23]))))<|
 c 23 (r [A 0 1 28,K 28 29,C 194 [t 29] 30,aU (.bin .add (t 30) (gS [32])) 31,M 4 32,B .add 31 32 33,M 33 2,V z0 3]<|
 .ret) k)))<|
 r [A 7 1 35,L 6 35 36,C 193 [t 36] 37,M 37 34,E 34 0 38,E 34 1 39,M 38 6,M 39 5]<|
 gR [M 5 40,D .neq 40 0 41] 41 [M 5 42,V e0 2,M 42 3]<|
 r [V (.str [91]) 7,V (.str [93]) 8]<|
 q (r [A 13 1 43,K 43 44]<|
 c 44 (R [V (.str [93]) 7]) k)<|
 q (r [A 14 1 45,K 45 46]<|
 c 46 (R [V (.str [91]) 8]) k)<|
 r [M 7 47,M 4 48,B .add 47 48 49,aU (.bin .add (t 49) (gS [46,46])) 50,M 6 51,B .add 50 51 52,M 8 53,B .add 52 53 54,M 54 2,V z0 3]<|
 .ret):=bt Tryz.func155
def Gj: Of aE 156 61 [.tmp 2] (r [X 0 1,gF 2]<|
 q (q (.draw [A 5 1 3,K 3 4,N 4 5,A 0 1 6,K 6 7,Q 195 [t 7] 8,B .neq 5 8 9] [])<|
 c 9 (r [gF 2]<|
 .ret) k)<|
 q (r [A 0 1 10,K 10 11]<|
 .block 0 (r [D .eql 11 1 13,M 13 12]<|
 c 12 (r [A 4 1 14,K 14 15,aU (.bin .eql (t 15) (.c e0)) 16,M 16 17,AT 1 1 18 17,LT 3 18 19 17,CT 85 [t 19] 20 17,DT .eql 20 0 21 17,P 17 21 22,M 22 23,AT 1 1 24 23,AT 0 24 25 23,KT 25 26 23,DT .neq 26 1 27 23,MT 27 28 23,AF 1 1 29 28,AF 1 29 30 28,KF 30 31 28,DF .geq 31 0 32 28,OT 28 32 33 23,P 23 33 34,M 34 2]<|
 .ret) (r [D .eql 11 2 36,M 36 35]<|
 c 35 (r [A 1 1 37,L 3 37 38,gU [z0,z0,e0] [] 39,aU (.oa false true [.i,.i,.s] (t 38) (t 39)) 40,M 40 41,AT 4 1 42 41,KT 42 43 41,CT 38 [t 43] 44 41,P 41 44 45,M 45 2]<|
 .ret) k)))<|
 r [A 1 1 46,L 3 46 47,gU [z0,z0,e0] [] 48,aU (.oa false true [.i,.i,.s] (t 47) (t 48)) 49,M 49 50,AT 4 1 51 50,KT 51 52 50,⟨.bin .eql (t 52) (.c e0),(some 53),some (50,true)⟩,P 50 53 54,M 54 55,AT 5 1 56 55,KT 56 57 55,CT 196 [t 57,(.c (.fn (.func 197) [] []))] 58 55,UT 58 59 55,P 55 59 60,M 60 2]<|
 .ret):=bt Tryz.func156
def Iz: Of aE 157 20 [.tmp 2] (r [X 0 1,V z0 2]<|
 r [V z0 3]<|
 q (r [A 5 1 6,K 6 7,N 7 8,V z0 9]<|
 .block 0 (.loop (r [B .lss 9 8 10]<|
 q (c 10 k (.exit 0))<|
 q (.block 1 (r [I true 6 7 9 11,L 6 11 12,J [z0,z0,z0,e0,e0,.ai] 5,W 6 5 12]<|
 R [M 3 13,L 6 5 14,C 157 [t 14] 15,aU (.max (t 13) [t 15]) 16,M 16 3]))<|
 R [D .add 9 1 17,M 17 9])))<|
 r [M 3 18,D .add 18 1 19,M 19 2]<|
 .ret):=bt Tryz.func157
def ig: Of aE 158 115 [] (r [X 1 4]<|
 q (r [L 6 4 12,C 198 [t 12] 13,M 2 14,B .lss 13 14 15]<|
 c 15 (r [M 0 16,Z 16 17,A 0 17 18,C 22 [t 18,(.c (.int .u8 40))] 19]<|
 r [M 0 20,L 6 4 21,C 158 [t 20,t 21,.c z0] 22]<|
 r [M 0 23,Z 23 24,A 0 24 25,C 22 [t 25,(.c (.int .u8 41))] 26]<|
 .ret) k)<|
 r [A 0 4 27,K 27 28]<|
 .block 0 (r [D .eql 28 1 63,M 63 62]<|
 c 62 (r [A 1 4 65,L 3 65 66,C 132 [t 66] 67,M 67 64,E 64 0 68,E 64 1 69,M 68 6,M 69 7]<|
 R [M 0 70,Z 70 71,A 0 71 72,M 6 73,C 21 [t 72,t 73] 74]) (r [D .eql 28 2 76,M 76 75]<|
 c 75 (.draw [M 0 77,Z 77 78,A 0 78 79,A 4 4 80,K 80 81,C 21 [t 79,t 81] 82] []) (r [D .eql 28 3 84,M 84 83]<|
 c 83 (r [M 0 85,Z 85 86,A 0 86 87,C 22 [t 87,(.c (.int .u8 45))] 88]<|
 R [M 0 89,A 5 4 90,K 90 91,gI true 6 91 0 92,L 6 92 93,C 158 [t 89,t 93,gJ 6] 94]) (r [D .eql 28 16 96,M 96 95]<|
 c 95 (r [gU [e0,e0,e0] [(0,1,gS [105,102,32]),(1,1,gS [32,116,104,101,110,32]),(2,1,gS [32,101,108,115,101,32])] 97,V z0 98]<|
 .block 1 (.loop (r [D .lss 98 3 99]<|
 q (c 99 k (.exit 1))<|
 q (.block 2 (r [M 98 100,aU (.xe ⟨false,1⟩ 3 (t 97) (t 98)) 101,M 100 8,M 101 9]<|
 r [M 0 102,Z 102 103,A 0 103 104,M 9 105,C 21 [t 104,t 105] 106]<|
 R [M 0 107,A 5 4 108,K 108 109,M 8 110,I true 6 109 110 111,L 6 111 112,C 158 [t 107,t 112,.c z0] 113]))<|
 R [D .add 98 1 114,M 114 98]))) (r [A 0 4 29,K 29 30,C 199 [t 30] 31,J [z0,e0,z0] 10,W 3 10 31]<|
 r [A 2 10 32,K 32 33,M 33 11]<|
 q (r [M 11 34,D .eql 34 3 35]<|
 c 35 (R [M 11 36,D .add 36 1 37,M 37 11]) k)<|
 r [M 0 38,A 5 4 39,K 39 40,gI true 6 40 0 41,L 6 41 42,M 11 43,C 158 [t 38,t 42,t 43] 44]<|
 q (.draw [M 0 45,Z 45 46,A 0 46 47,A 1 10 48,K 48 49,aU (.bin .add (gS [32]) (t 49)) 50,aU (.bin .add (t 50) (gS [32])) 51,C 21 [t 47,t 51] 52] [])<|
 .draw [M 0 53,A 5 4 54,K 54 55,gI true 6 55 1 56,L 6 56 57,A 2 10 58,K 58 59,D .add 59 1 60,C 158 [t 53,t 57,t 60] 61] [])))))):=mM ⟨[],[52,61,82],[],[],[],[]⟩ Tryz.func158
def xk: Of aE 159 8 [.tmp 2] (r [V z0 2]<|
 r [M 0 3,Z 3 4,A 1 4 5,K 5 6,N 6 7,M 7 2]<|
 .ret):=bt Tryz.func159
def x6: Of aE 160 26 [.tmp 4] (r [gF 4]<|
 gR [M 0 6,N 6 7,M 1 8,N 8 9,B .neq 7 9 10] 10 [gF 4]<|
 q (r [M 0 11,N 11 12,V z0 13]<|
 .block 0 (.loop (r [B .lss 13 12 14]<|
 q (c 14 k (.exit 0))<|
 q (.block 1 (r [M 13 15,M 15 5]<|
 q (.draw [M 0 16,M 5 17,I true 3 16 17 18,L 3 18 19,M 1 20,M 5 21,I true 3 20 21 22,L 3 22 23,aU (.oa true true [.i,.i,.s] (t 19) (t 23)) 24] [])<|
 c 24 (r [gF 4]<|
 .ret) k))<|
 R [D .add 13 1 25,M 25 13])))<|
 r [gT 4]<|
 .ret):=bt Tryz.func160
def xm: Of aE 161 26 [.tmp 4] (r [gF 4]<|
 gR [M 0 6,N 6 7,M 1 8,N 8 9,B .neq 7 9 10] 10 [gF 4]<|
 q (r [M 0 11,N 11 12,V z0 13]<|
 .block 0 (.loop (r [B .lss 13 12 14]<|
 q (c 14 k (.exit 0))<|
 q (.block 1 (r [M 13 15,M 15 5]<|
 q (.draw [M 0 16,M 5 17,I false 1 16 17 18,K 18 19,M 1 20,M 5 21,I false 1 20 21 22,K 22 23,B .neq 19 23 24] [])<|
 c 24 (r [gF 4]<|
 .ret) k))<|
 R [D .add 13 1 25,M 25 13])))<|
 r [gT 4]<|
 .ret):=bt Tryz.func161
def x7: Of aE 162 32 [.tmp 2,.tmp 3] (r [X 0 1,V e0 2,V z0 3]<|
 q (r [L 3 1 6,C 85 [t 6] 7,M 7 4]<|
 r [M 4 8,D .neq 8 0 9]<|
 c 9 (r [M 4 10,V e0 2,M 10 3]<|
 .ret) k)<|
 r [A 0 1 11,K 11 12,C 76 [t 12] 13,M 13 5]<|
 q (r [A 0 1 14,K 14 15]<|
 .block 0 (r [D .eql 15 2 17,M 17 16]<|
 c 16 (R [M 5 18,A 2 1 19,K 19 20,C 75 [t 20] 21,B .add 18 21 22,M 22 5]) (q (r [D .eql 15 1 24,M 24 23]<|
 c 23 k (R [D .eql 15 3 25,M 25 23]))<|
 c 23 (R [M 5 26,A 1 1 27,K 27 28,C 76 [t 28] 29,B .add 26 29 30,M 30 5]) k)))<|
 r [M 5 31,M 31 2,V z0 3]<|
 .ret):=bt Tryz.func162
def IA: Of aE 168 22 [.tmp 2] (r [V e0 2]<|
 r [aU (.alloc (some 56) [.iE,.ai]) 3]<|
 r [C 22 [t 3,(.c (.int .u8 34))] 6]<|
 q (r [M 0 7,aU (.D3 (t 7)) 8]<|
 .block 0 (.loop (r [aU (.D4 (t 8)) 9,E 9 0 10]<|
 q (c 10 k (.exit 0))<|
 .block 1 (r [E 9 2 11,M 11 5]<|
 q (r [M 5 12]<|
 .block 2 (q (.block 4 (.block 3 (q (q (r [aU (.bin .eql (t 12) (.c (.int .i32 34))) 14,M 14 13]<|
 c 13 (.exit 3) k)<|
 r [aU (.bin .eql (t 12) (.c (.int .i32 92))) 16,M 16 15]<|
 c 15 (.exit 4) k)<|
 .exit 2)))<|
 r [C 22 [t 3,(.c (.int .u8 92))] 17]<|
 .exit 2))<|
 R [M 5 18,C 206 [t 3,t 18] 19]))))<|
 r [C 22 [t 3,(.c (.int .u8 34))] 20]<|
 r [C 23 [t 3] 21,M 21 2]<|
 .ret):=mM ⟨[],[],[],[3],[],[]⟩ Tryz.func168
def x8: Of aE 170 33 [.tmp 2] (r [X 0 1,V z0 2]<|
 gR [A 0 1 5,K 5 6,C 50 [t 6] 7,U 7 8] 8 [V (i6 13) 2]<|
 q (r [A 1 1 9,K 9 10,C 208 [t 10,(.c (.bool false))] 11,M 11 3]<|
 r [M 3 12,D .neq 12 0 13]<|
 c 13 (r [M 3 14,M 14 2]<|
 .ret) k)<|
 q (r [A 2 1 15,K 15 16,A 3 1 17,K 17 18,D .eql 18 3 19,C 208 [t 16,t 19] 20,M 20 4]<|
 r [M 4 21,D .neq 21 0 22]<|
 c 22 (r [M 4 23,M 23 2]<|
 .ret) k)<|
 q (.block 0 (r [L 6 1 25,C 209 [t 25] 26,U 26 27,M 27 24]<|
 c 24 (r [V (i6 17) 2]<|
 .ret) (r [A 5 1 29,K 29 30,N 30 31,D .gtr 31 24 32,M 32 28]<|
 c 28 (r [V (i6 24) 2]<|
 .ret) k)))<|
 r [V z0 2]<|
 .ret):=bt Tryz.func170
def Ai: Of aE 171 130 [.cell 4 true 2,.tmp 5,.tmp 6] (r [X 0 2,X 1 3,J [.ai,.ai] 4,V z0 5,V z0 6]<|
 r [gU [.ai,.ai] [] 17,J [.ai,.ai] 7,W 2 7 17]<|
 gR [A 0 3 18,K 18 19,N 19 20,A 1 2 21,K 21 22,N 22 23,B .neq 20 23 24,M 24 25,AF 1 3 26 25,KF 26 27 25,NF 27 28 25,AF 2 2 29 25,KF 29 30 25,NF 30 31 25,BF .neq 28 31 32 25,O 25 32 33] 33 [L 2 7 34,W 2 4 34,V z0 5,V (i6 17) 6]<|
 q (r [V z0 8]<|
 gL 0 [M 8 35,A 0 3 36,K 36 37,N 37 38,B .lss 35 38 39] 39 ((
 q (.block 1 (r [A 0 3 43,K 43 44,M 8 45,I false 1 44 45 46,K 46 47,C 210 [t 47] 48,M 48 42,E 42 0 49,E 42 1 50,E 42 2 51,J [.bool false,.bool false,.ai] 9,W 3 9 49,M 50 10,M 51 11]<|
 q (r [M 11 52,D .eql 52 0 53]<|
 c 53 (.draw [L 3 9 54,A 1 2 55,K 55 56,M 8 57,I true 3 56 57 58,A 1 58 59,K 59 60,A 1 2 61,K 61 62,Q 211 [t 54,t 60,t 62] 63,M 63 11] []) k)<|
 gR [M 11 64,D .neq 64 0 65] 65 [L 2 7 66,M 8 67,M 11 68,W 2 4 66,M 67 5,M 68 6]<|
 R [A 0 7 69,K 69 70,L 3 9 71,gB true 3 (.agg [.bool false,.bool false,.ai]) 1 [(0,t 71)] 72,gA true 3 70 72 73,A 0 7 74,W 1 74 73]))<|
 R [M 8 40,D .add 40 1 41,M 41 8])))<|
 q (r [V z0 12]<|
 gL 2 [M 12 75,A 1 3 76,K 76 77,N 77 78,B .lss 75 78 79] 79 ((
 q (.block 3 (r [A 1 3 83,K 83 84,M 12 85,I false 1 84 85 86,K 86 87,C 212 [t 87] 88,M 88 82,E 82 0 89,E 82 1 90,E 82 2 91,J [z0,z0,z0,e0,e0,.ai] 13,W 6 13 89,M 90 14,M 91 15]<|
 r [V z0 16]<|
 q (r [M 15 92,D .eql 92 0 93]<|
 c 93 (R [L 6 13 95,A 1 2 96,K 96 97,C 213 [t 95,t 97] 98,M 98 94,E 94 0 99,E 94 1 100,M 99 16,M 100 15]) k)<|
 q (r [M 15 101,D .eql 101 0 102,M 102 103,MT 16 104 103,AT 2 2 105 103,KT 105 106 103,MT 12 107 103,IT true 3 106 107 108 103,AT 1 108 109 103,KT 109 110 103,CT 214 [t 104,t 110] 111 103,UT 111 112 103,P 103 112 113]<|
 c 113 (R [V (i6 14) 15]) k)<|
 q (r [M 15 114,D .neq 114 0 115]<|
 c 115 (q (.draw [L 2 7 116,A 1 2 117,K 117 118,N 118 119,M 12 120,B .add 119 120 121,M 15 122,W 2 4 116,M 121 5,M 122 6] [(t 117,t 4)])<|
 .ret) k)<|
 R [A 1 7 123,K 123 124,L 6 13 125,gB true 6 (.agg [z0,z0,z0,e0,e0,.ai]) 1 [(0,t 125)] 126,gA true 6 124 126 127,A 1 7 128,W 1 128 127]))<|
 R [M 12 80,D .add 80 1 81,M 81 12])))<|
 r [L 2 7 129,W 2 4 129,V z0 5,V z0 6]<|
 .ret):=bt Tryz.func171
def IB: Of aE 172 39 [.tmp 2] (r [X 0 1,gF 2]<|
 gR [A 0 1 4,K 4 5] 5 [A 1 1 6,K 6 7,U 7 8,M 8 9,AT 2 1 10 9,KT 10 11 9,NT 11 12 9,DT .eql 12 0 13 9,P 9 13 14,M 14 2]<|
 q (r [V z0 3]<|
 gL 0 [M 3 15,A 2 1 16,K 16 17,N 17 18,B .lss 15 18 19] 19 ((
 q (.block 1 (r [A 2 1 22,K 22 23,M 3 24,I true 15 23 24 25,L 15 25 26,C 215 [t 26] 27,U 27 28]<|
 c 28 (r [gF 2]<|
 .ret) k))<|
 R [M 3 20,D .add 20 1 21,M 21 3])))<|
 r [A 2 1 29,K 29 30,N 30 31,D .geq 31 1 32,M 32 33,AT 2 1 34 33,KT 34 35 33,NT 35 36 33,DT .leq 36 12 37 33,P 33 37 38,M 38 2]<|
 .ret):=bt Tryz.func172
def vF: Of aE 173 97 [.tmp 2,.tmp 3] (r [X 0 1,V e0 2,gF 3]<|
 gR [A 0 1 15,K 15 16] 16 [V (.str [45]) 2,gT 3]<|
 r [V e0 4]<|
 q (r [V z0 5]<|
 gL 0 [M 5 17,A 2 1 18,K 18 19,N 19 20,B .lss 17 20 21] 21 ((
 q (.block 1 (r [A 2 1 24,K 24 25,M 5 26,I true 15 25 26 27,L 15 27 28,J [z0,z0,z0,z0,e0,e0,.ai,z0,z0,z0,e0,e0,.ai,.bool false,.bool false] 6,W 15 6 28]<|
 r [A 1 6 29,L 6 29 30,C 216 [t 30,gJ 4] 31,M 31 7,V e0 8]<|
 q (r [M 5 32,D .gtr 32 0 33]<|
 c 33 (R [M 4 34,aU (.bin .add (t 34) (gS [44,32])) 35,M 35 4]) k)<|
 q (r [A 1 6 37,L 6 37 38,C 135 [t 38] 39,M 39 36,E 36 0 40,E 36 1 41,M 40 9,M 41 10]<|
 r [M 10 42,D .neq 42 0 43]<|
 c 43 (r [V e0 2,gF 3]<|
 .ret) k)<|
 q (r [A 0 6 44,K 44 45,D .eql 45 6 46]<|
 c 46 (q (r [A 7 6 48,L 6 48 49,C 135 [t 49] 50,M 50 47,E 47 0 51,E 47 1 52,M 51 11,M 52 12]<|
 r [M 12 53,D .neq 53 0 54]<|
 c 54 (r [V e0 2,gF 3]<|
 .ret) k)<|
 R [A 7 6 55,L 6 55 56,C 216 [t 56,gJ 4] 57,M 57 8]) k)<|
 .block 2 (r [A 0 6 73,K 73 74,D .eql 74 1 75,M 75 72]<|
 c 72 (R [M 4 76,M 7 77,B .add 76 77 78,M 78 4]) (r [A 0 6 80,K 80 81,D .neq 81 6 82,M 82 79]<|
 c 79 (R [M 4 83,A 0 6 84,K 84 85,C 217 [t 85] 86,B .add 83 86 87,aU (.bin .add (t 87) (gS [32])) 88,M 7 89,B .add 88 89 90,M 90 4]) (r [V (.str [91]) 13,V (.str [93]) 14]<|
 q (r [A 13 6 58,K 58 59]<|
 c 59 (R [V (.str [93]) 13]) k)<|
 q (r [A 14 6 60,K 60 61]<|
 c 61 (R [V (.str [91]) 14]) k)<|
 R [M 4 62,M 13 63,B .add 62 63 64,M 7 65,B .add 64 65 66,aU (.bin .add (t 66) (gS [46,46])) 67,M 8 68,B .add 67 68 69,M 14 70,B .add 69 70 71,M 71 4])))))<|
 R [M 5 22,D .add 22 1 23,M 23 5])))<|
 gR [A 1 1 91,K 91 92] 92 [M 4 93,aU (.bin .add (gS [110,111,116,40]) (t 93)) 94,aU (.bin .add (t 94) (gS [41])) 95,M 95 2,gT 3]<|
 r [M 4 96,M 96 2,gT 3]<|
 .ret):=bt Tryz.func173
def IC: Of aE 174 69 [.tmp 2] (r [X 0 1,gF 2]<|
 q (q (.draw [A 5 1 4,K 4 5,N 5 6,A 0 1 7,K 7 8,Q 218 [t 8] 9,B .neq 6 9 10] [])<|
 c 10 (r [gF 2]<|
 .ret) k)<|
 q (r [A 0 1 11,K 11 12]<|
 .block 0 (r [D .eql 12 1 14,M 14 13]<|
 c 13 (r [A 4 1 15,K 15 16,aU (.bin .eql (t 16) (.c e0)) 17,M 17 18,AT 1 1 19 18,LT 3 19 20 18,CT 97 [t 20] 21 18,P 18 21 22,M 22 23,AT 1 1 24 23,AT 0 24 25 23,KT 25 26 23,DT .neq 26 1 27 23,MT 27 28 23,AF 1 1 29 28,AF 1 29 30 28,KF 30 31 28,DF .geq 31 0 32 28,OT 28 32 33 23,P 23 33 34,M 34 2]<|
 .ret) (r [D .eql 12 2 36,M 36 35]<|
 c 35 (r [A 1 1 37,L 3 37 38,gU [z0,z0,e0] [] 39,aU (.oa false true [.i,.i,.s] (t 38) (t 39)) 40,M 40 41,AT 4 1 42 41,KT 42 43 41,CT 50 [t 43] 44 41,P 41 44 45,M 45 2]<|
 .ret) k)))<|
 q (r [V z0 3]<|
 gL 1 [M 3 46,A 5 1 47,K 47 48,N 48 49,B .lss 46 49 50] 50 ((
 q (.block 2 (r [A 5 1 53,K 53 54,M 3 55,I true 6 54 55 56,L 6 56 57,C 174 [t 57] 58,U 58 59]<|
 c 59 (r [gF 2]<|
 .ret) k))<|
 R [M 3 51,D .add 51 1 52,M 52 3])))<|
 r [A 1 1 60,L 3 60 61,gU [z0,z0,e0] [] 62,aU (.oa false true [.i,.i,.s] (t 61) (t 62)) 63,M 63 64,AT 4 1 65 64,KT 65 66 64,⟨.bin .eql (t 66) (.c e0),(some 67),some (64,true)⟩,P 64 67 68,M 68 2]<|
 .ret):=bt Tryz.func174
def KZ: Of aE 175 25 [.tmp 2] (r [X 0 1,V z0 2]<|
 r [V z0 3]<|
 q (r [V z0 4]<|
 gL 0 [M 4 6,A 5 1 7,K 7 8,N 8 9,B .lss 6 9 10] 10 ((
 q (.block 1 (r [A 5 1 13,K 13 14,M 4 15,I true 6 14 15 16,L 6 16 17,C 175 [t 17] 18,M 18 5]<|
 r [M 5 19,M 3 20,B .gtr 19 20 21]<|
 c 21 (R [M 5 22,M 22 3]) k))<|
 R [M 4 11,D .add 11 1 12,M 12 4])))<|
 r [M 3 23,D .add 23 1 24,M 24 2]<|
 .ret):=bt Tryz.func175
def j3: Of aE 176 87 [.tmp 4] (r [X 0 2,V e0 4]<|
 r [A 0 2 7,K 7 8,C 219 [t 8] 9,M 9 5]<|
 gR [M 5 10,M 1 11,B .lss 10 11 12] 12 [L 6 2 13,C 176 [t 13,.c z0] 14,aU (.bin .add (gS [40]) (t 14)) 15,aU (.bin .add (t 15) (gS [41])) 16,M 16 4]<|
 q (.block 0 (r [A 0 2 18,K 18 19,D .eql 19 1 20,M 20 17]<|
 c 17 (r [A 1 2 21,L 3 21 22,C 71 [t 22] 23,M 23 4]<|
 .ret) (r [A 0 2 25,K 25 26,D .eql 26 2 27,M 27 24]<|
 c 24 (r [A 4 2 28,K 28 29,M 29 4]<|
 .ret) (r [A 0 2 31,K 31 32,D .eql 32 3 33,M 33 30]<|
 c 30 (r [A 5 2 34,K 34 35,gI true 6 35 0 36,L 6 36 37,C 176 [t 37,gJ 6] 38,aU (.bin .add (gS [45]) (t 38)) 39,M 39 4]<|
 .ret) (r [A 0 2 41,K 41 42,D .eql 42 16 43,M 43 40]<|
 c 40 (q (.draw [A 5 2 44,K 44 45,gI true 6 45 0 46,L 6 46 47,Q 176 [t 47,.c z0] 48,aU (.bin .add (gS [105,102,32]) (t 48)) 49,aU (.bin .add (t 49) (gS [32,116,104,101,110,32])) 50,A 5 2 51,K 51 52,gI true 6 52 1 53,L 6 53 54,Q 176 [t 54,.c z0] 55,B .add 50 55 56,aU (.bin .add (t 56) (gS [32,101,108,115,101,32])) 57,A 5 2 58,K 58 59,gI true 6 59 2 60,L 6 60 61,Q 176 [t 61,.c z0] 62,B .add 57 62 63,M 63 4] [])<|
 .ret) k)))))<|
 r [M 5 64,M 64 6]<|
 q (r [M 5 65,D .eql 65 3 66]<|
 c 66 (R [V (i6 4) 6]) k)<|
 q (.draw [A 5 2 67,K 67 68,gI true 6 68 0 69,L 6 69 70,M 6 71,Q 176 [t 70,t 71] 72,aU (.bin .add (t 72) (gS [32])) 73,A 0 2 74,K 74 75,Q 220 [t 75] 76,B .add 73 76 77,aU (.bin .add (t 77) (gS [32])) 78,A 5 2 79,K 79 80,gI true 6 80 1 81,L 6 81 82,M 5 83,D .add 83 1 84,Q 176 [t 82,t 84] 85,B .add 78 85 86,M 86 4] [])<|
 .ret):=bt Tryz.func176
def K0: Of aE 177 13 [.tmp 2] (r [V (.int .u64 0) 2]<|
 gR [M 0 3,D .lss 3 0 4] 4 [M 0 5,aU (.bin .sub (gJ (-1)) (t 5)) 6,aU (.ld .u64 (t 6)) 7,aU (.bin .mul (.c (.int .u64 2)) (t 7)) 8,aU (.bin .add (t 8) (.c (.int .u64 1))) 9,M 9 2]<|
 r [M 0 10,aU (.ld .u64 (t 10)) 11,aU (.bin .mul (.c (.int .u64 2)) (t 11)) 12,M 12 2]<|
 .ret):=bt Tryz.func177
def Mp: Of aE 178 22 [.tmp 2] (r [V e0 2]<|
 r [M 0 5,N 5 6,C 137 [t 6] 7,M 7 3]<|
 q (r [V z0 4]<|
 gL 0 [M 4 8,M 0 9,N 9 10,B .lss 8 10 11] 11 ((
 q (.block 1 (R [M 3 14,M 0 15,M 4 16,I true 3 15 16 17,L 3 17 18,C 221 [t 18] 19,B .add 14 19 20,M 20 3]))<|
 R [M 4 12,D .add 12 1 13,M 13 4])))<|
 r [M 3 21,M 21 2]<|
 .ret):=bt Tryz.func178
def ji: Of aE 183 81 [.cell 2 true 3,.tmp 3] (r [J [z0,z0,e0] 2,gF 3]<|
 r [M 0 12,C 222 [t 12] 13,M 13 11,E 11 0 14,E 11 1 15,E 11 2 16,M 14 4,M 15 5,M 16 6]<|
 gR [M 6 17,D .neq 17 0 18,M 18 19,MF 4 20 19,NF 20 21 19,DF .lss 21 1 22 19,O 19 22 23,M 23 24,MF 4 25 24,NF 25 26 24,DF .gtr 26 2 27 24,O 24 27 28] 28 [gU [z0,z0,e0] [] 29,W 3 2 29,gF 3]<|
 r [gU [z0,z0,e0] [] 30,J [z0,z0,e0] 7,W 3 7 30]<|
 q (r [M 4 31,M 4 32,N 32 33,D .sub 33 1 34,I true 4 31 34 35,L 4 35 36,J [z0,e0,z0,z0] 8,W 4 8 36]<|
 .block 0 (r [A 0 8 38,K 38 39,D .eql 39 3 40,M 40 37]<|
 c 37 (R [A 1 8 41,K 41 42,gU [z0,z0,e0] [(0,1,gJ 2),(2,1,t 42)] 43,W 3 7 43]) (r [A 0 8 45,K 45 46,D .eql 46 2 47,M 47 44]<|
 c 44 (r [A 2 8 48,K 48 49,gU [z0,z0,e0] [(0,1,gJ 1),(1,1,t 49)] 50,W 3 7 50]<|
 r [M 4 51,N 51 52,D .eql 52 2 53]<|
 c 53 (R [A 2 8 54,K 54 55,aU (.un .neg (t 55)) 56,A 1 7 57,W 1 57 56]) k) (r [A 1 8 59,K 59 60,aU (.bin .eql (t 60) (gS [116,114,117,101])) 61,M 61 62,AF 1 8 63 62,KF 63 64 62,⟨.bin .eql (t 64) (gS [102,97,108,115,101]),(some 65),some (62,false)⟩,O 62 65 66,M 66 58]<|
 c 58 (R [A 1 8 67,K 67 68,S 68 69,aU (.bin .sub (gJ 5) (t 69)) 70,gU [z0,z0,e0] [(0,1,gJ 3),(1,1,t 70)] 71,W 3 7 71]) k))))<|
 r [L 3 7 73,C 132 [t 73] 74,M 74 72,E 72 0 75,E 72 1 76,M 75 9,M 76 10]<|
 r [L 3 7 77,M 9 78,M 0 79,B .eql 78 79 80,W 3 2 77,M 80 3]<|
 .ret):=bt Tryz.func183
def rC: Of aE 184 22 [.cell 2 true 3,.tmp 3] (r [J [z0,z0,e0] 2,gF 3]<|
 r [M 0 7,C 223 [t 7] 8,M 8 6,E 6 0 9,E 6 1 10,M 9 4,M 10 5]<|
 gR [M 5 11,aU (.oT true .i (t 11) (.c .ja)) 12,M 12 13,MF 4 14 13,CF 41 [t 14] 15 13,MF 0 16 13,BF .neq 15 16 17 13,O 13 17 18] 18 [gU [z0,z0,e0] [] 19,W 3 2 19,gF 3]<|
 r [M 4 20,gU [z0,z0,e0] [(0,1,gJ 1),(1,1,t 20)] 21,W 3 2 21,gT 3]<|
 .ret):=bt Tryz.func184
def AB: Of aE 185 66 [.tmp 8] (r [V .ai 8]<|
 gR [M 3 12,D .eql 12 0 13] 13 [V .ai 8]<|
 gR [M 1 14,aU (.bin .eql (t 14) (.c e0)) 15] 15 [M 0 16,M 3 17,C 224 [t 16,t 17] 18,M 18 8]<|
 q (r [M 3 19,D .lss 19 0 20]<|
 c 20 (R [M 0 21,M 1 22,C 225 [t 21,t 22] 23,D .add 23 1 24,M 24 3]) k)<|
 r [M 3 25,M 0 26,S 26 27,D .add 27 1 28,aU (.min (t 25) [t 28]) 29,M 29 3]<|
 r [M 3 30,aU (.mK ⟨false,1⟩ e0 (t 30) (t 30)) 31,M 31 9]<|
 r [M 3 32,D .sub 32 1 33,M 33 3]<|
 r [V z0 10]<|
 q (gL 0 [M 10 34,M 3 35,B .lss 34 35 36] 36 ((
 .block 1 (r [M 0 37,M 1 38,C 226 [t 37,t 38] 39,M 39 11]<|
 q (r [M 11 40,D .lss 40 0 41]<|
 c 41 (.exit 0) k)<|
 r [M 9 42,M 10 43,M 0 44,M 11 45,M 2 46,B .add 45 46 47,aU (.lf (t 44) none (some (t 47))) 48,I false 1 42 43 49,W 1 49 48]<|
 r [M 0 50,M 11 51,M 1 52,S 52 53,B .add 51 53 54,aU (.lf (t 50) (some (t 54)) none) 55,M 55 0]<|
 R [M 10 56,D .add 56 1 57,M 57 10]))))<|
 r [M 9 58,M 10 59,M 0 60,I false 1 58 59 61,W 1 61 60]<|
 r [M 9 62,M 10 63,D .add 63 1 64,aU (.tF ⟨false,1⟩ (t 62) none (some (t 64))) 65,M 65 8]<|
 .ret):=bt Tryz.func185
def Dg: Of aE 186 19 [.tmp 4] (r [X 1 3,V z0 4]<|
 q (r [M 0 6,C 227 [t 6] 7,M 7 5]<|
 r [M 5 8,D .neq 8 0 9]<|
 c 9 (r [M 5 10,M 10 4]<|
 .ret) k)<|
 gR [M 0 11,N 11 12,D .eql 12 0 13,M 13 14,MF 0 15 14,⟨.vp (.func 229) [] [t 3],(some 16),some (14,false)⟩,CF 228 [t 15,t 16] 17 14,O 14 17 18] 18 [V (i6 17) 4]<|
 r [V z0 4]<|
 .ret):=bt Tryz.func186
def Ez: Of aE 187 45 [.tmp 2] (r [X 0 1,gF 2]<|
 q (.block 0 (r [A 3 1 5,K 5 6,D .lss 6 1 7,M 7 8,AF 3 1 9 8,KF 9 10 8,DF .gtr 10 6 11 8,O 8 11 12,M 12 4]<|
 c 4 (r [gF 2]<|
 .ret) (r [A 4 1 14,K 14 15,D .eql 15 0 16,M 16 13]<|
 c 13 (r [gT 2]<|
 .ret) (r [A 3 1 18,K 18 19,D .neq 19 5 20,M 20 21,AF 2 1 22 21,KF 22 23 21,NF 23 24 21,DF .neq 24 1 25 21,O 21 25 26,M 26 17]<|
 c 17 (r [gF 2]<|
 .ret) k))))<|
 q (r [A 2 1 27,K 27 28,gI true 3 28 0 29,A 1 29 30,K 30 31,M 31 3]<|
 r [A 4 1 32,K 32 33]<|
 .block 1 (r [D .eql 33 1 35,M 35 34]<|
 c 34 (r [M 3 36,D .eql 36 1 37,M 37 2]<|
 .ret) (q (r [D .eql 33 2 39,M 39 38]<|
 c 38 k (R [D .eql 33 3 40,M 40 38]))<|
 c 38 (r [M 3 41,D .neq 41 3 42,M 42 2]<|
 .ret) (r [D .eql 33 4 44,M 44 43]<|
 c 43 (r [gT 2]<|
 .ret) k))))<|
 r [gF 2]<|
 .ret):=bt Tryz.func187
def K3: Of aE 188 31 [.cell 6 true 3,.tmp 7] (r [X 0 3,J [.bool false,.bool false,.ai] 6,V z0 7]<|
 r [M 2 12,C 231 [t 12] 13,M 13 11,E 11 0 14,E 11 1 15,E 11 2 16,J [.bool false,.bool false,.ai] 8,W 3 8 14,M 15 9,M 16 10]<|
 q (r [M 10 17,D .eql 17 0 18]<|
 c 18 (.draw [L 3 8 19,A 1 3 20,K 20 21,M 1 22,I true 3 21 22 23,A 1 23 24,K 24 25,A 1 3 26,K 26 27,Q 232 [t 19,t 25,t 27] 28,M 28 10] []) k)<|
 r [L 3 8 29,M 10 30,W 3 6 29,M 30 7]<|
 .ret):=bt Tryz.func188
def IE: Of aE 189 44 [.cell 6 true 6,.tmp 7] (r [X 0 3,J [z0,z0,z0,e0,e0,.ai] 6,V z0 7]<|
 r [M 2 13,C 233 [t 13] 14,M 14 12,E 12 0 15,E 12 1 16,E 12 2 17,J [z0,z0,z0,e0,e0,.ai] 8,W 6 8 15,M 16 9,M 17 10]<|
 gR [M 10 18,D .neq 18 0 19] 19 [L 6 8 20,M 10 21,W 6 6 20,M 21 7]<|
 r [L 6 8 23,A 1 3 24,K 24 25,C 234 [t 23,t 25] 26,M 26 22,E 22 0 27,E 22 1 28,M 27 11,M 28 10]<|
 q (r [M 10 29,D .eql 29 0 30,M 30 31,MT 11 32 31,AT 2 3 33 31,KT 33 34 31,MT 1 35 31,IT true 3 34 35 36 31,AT 1 36 37 31,KT 37 38 31,CT 235 [t 32,t 38] 39 31,UT 39 40 31,P 31 40 41]<|
 c 41 (R [V (i6 14) 10]) k)<|
 r [L 6 8 42,M 10 43,W 6 6 42,M 43 7]<|
 .ret):=bt Tryz.func189
def tL: Of aE 190 9 [.tmp 4] (r [gF 4]<|
 r [M 0 5,M 1 6,C 236 [t 5,t 6] 7,D .geq 7 0 8,M 8 4]<|
 .ret):=bt Tryz.func190
def Gk: Of aE 191 6 [.tmp 2] (r [X 0 1,gF 2]<|
 r [L 15 1 3,C 192 [t 3] 4,U 4 5,M 5 2]<|
 .ret):=bt Tryz.func191
def K4: Of aE 192 39 [.tmp 2] (r [X 0 1,gF 2]<|
 q (.block 0 (r [A 0 1 4,K 4 5,D .eql 5 6 6,M 6 3]<|
 c 3 (r [A 1 1 7,L 6 7 8,C 237 [t 8] 9,M 9 10,AT 7 1 11 10,LT 6 11 12 10,CT 237 [t 12] 13 10,P 10 13 14,M 14 2]<|
 .ret) (r [A 0 1 16,K 16 17,D .lss 17 1 18,M 18 19,AF 0 1 20 19,KF 20 21 19,DF .gtr 21 6 22 19,O 19 22 23,M 23 15]<|
 c 15 (r [gF 2]<|
 .ret) k)))<|
 r [A 1 1 24,L 6 24 25,C 237 [t 25] 26,M 26 27,AT 7 1 28 27,LT 6 28 29 27,⟨.build [z0,z0,z0,e0,e0,.ai] [],(some 30),some (27,true)⟩,CT 238 [t 29,t 30] 31 27,P 27 31 32,M 32 33,LT 15 1 34 33,CT 239 [t 34] 35 33,⟨.build [.bool false,.bool false] [],(some 36),some (33,true)⟩,⟨.oa false true [.b,.b] (t 35) (t 36),(some 37),some (33,true)⟩,P 33 37 38,M 38 2]<|
 .ret):=bt Tryz.func192
def tT: Of aE 193 28 [.tmp 2,.tmp 3] (r [X 0 1,V e0 2,V z0 3]<|
 r [L 6 1 7,C 116 [t 7] 8,M 8 6,E 6 0 9,E 6 1 10,M 9 4,M 10 5]<|
 q (r [M 5 11,D .eql 11 0 12,M 12 13,AT 0 1 14 13,KT 14 15 13,DT .geq 15 8 16 13,MT 16 17 13,AT 0 1 18 17,KT 18 19 17,DT .leq 19 16 20 17,PT 17 20 21 13,P 13 21 22]<|
 c 22 (R [M 4 23,aU (.bin .add (gS [40]) (t 23)) 24,aU (.bin .add (t 24) (gS [41])) 25,M 25 4]) k)<|
 r [M 4 26,M 5 27,M 26 2,M 27 3]<|
 .ret):=bt Tryz.func193
def Mq: Of aE 194 12 [.tmp 2] (r [V e0 2]<|
 q (r [M 0 3]<|
 .block 0 (r [D .eql 3 2 5,M 5 4]<|
 c 4 (r [V (.str [60]) 2]<|
 .ret) (r [D .eql 3 3 7,M 7 6]<|
 c 6 (r [V (.str [60,61]) 2]<|
 .ret) (r [D .eql 3 4 9,M 9 8]<|
 c 8 (r [V (.str [62]) 2]<|
 .ret) (r [D .eql 3 5 11,M 11 10]<|
 c 10 (r [V (.str [62,61]) 2]<|
 .ret) k)))))<|
 r [V e0 2]<|
 .ret):=bt Tryz.func194
def Gl: Of aE 195 21 [.tmp 2] (r [V z0 2]<|
 q (.block 0 (r [M 0 4,D .eql 4 1 5,M 5 6,MF 0 7 6,DF .eql 7 2 8 6,O 6 8 9,M 9 3]<|
 c 3 (r [V z0 2]<|
 .ret) (r [M 0 11,D .eql 11 3 12,M 12 10]<|
 c 10 (r [V (i6 1) 2]<|
 .ret) (r [M 0 14,D .eql 14 16 15,M 15 13]<|
 c 13 (r [V (i6 3) 2]<|
 .ret) (r [M 0 17,C 199 [t 17] 18,aU (.field false 2 1 (t 18)) 19,D .gtr 19 0 20,M 20 16]<|
 c 16 (r [V (i6 2) 2]<|
 .ret) k)))))<|
 r [V (i6 (-1)) 2]<|
 .ret):=bt Tryz.func195
def tM: Of aE 196 9 [.tmp 4] (r [gF 4]<|
 r [M 0 5,M 1 6,C 240 [t 5,t 6] 7,D .geq 7 0 8,M 8 4]<|
 .ret):=bt Tryz.func196
def Dh: Of aE 197 6 [.tmp 2] (r [X 0 1,gF 2]<|
 r [L 6 1 3,C 156 [t 3] 4,U 4 5,M 5 2]<|
 .ret):=bt Tryz.func197
def Gm: Of aE 198 16 [.tmp 2] (r [X 0 1,V z0 2]<|
 q (r [A 0 1 3,K 3 4]<|
 .block 0 (r [D .eql 4 16 6,M 6 5]<|
 c 5 (r [V z0 2]<|
 .ret) (r [D .eql 4 3 8,M 8 7]<|
 c 7 (r [V (i6 6) 2]<|
 .ret) (q (r [D .eql 4 1 10,M 10 9]<|
 c 9 k (R [D .eql 4 2 11,M 11 9]))<|
 c 9 (r [V (i6 7) 2]<|
 .ret) k))))<|
 r [A 0 1 12,K 12 13,C 199 [t 13] 14,aU (.field false 2 1 (t 14)) 15,M 15 2]<|
 .ret):=bt Tryz.func198
def IG: Of aE 199 18 [.cell 2 true 3] (r [J [z0,e0,z0] 2]<|
 q (r [C 241 [] 5,N 5 6,V z0 7]<|
 .block 0 (.loop (r [B .lss 7 6 8]<|
 q (c 8 k (.exit 0))<|
 q (.block 1 (r [I true 3 5 7 9,L 3 9 10,J [z0,e0,z0] 4,W 3 4 10]<|
 r [A 0 4 11,K 11 12,M 0 13,B .eql 12 13 14]<|
 c 14 (r [L 3 4 15,W 3 2 15]<|
 .ret) k))<|
 R [D .add 7 1 16,M 16 7])))<|
 r [gU [z0,e0,z0] [] 17,W 3 2 17]<|
 .ret):=bt Tryz.func199
def sI: Of aE 206 30 [.tmp 4,.tmp 5] (r [V z0 4,V .ja 5]<|
 r [M 0 7,C 46 [t 7] 8]<|
 r [M 0 9,Z 9 10,A 1 10 11,K 11 12,N 12 13,M 13 6]<|
 r [M 0 14,M 0 15,Z 15 16,A 1 16 17,K 17 18,M 1 19,C 244 [t 18,t 19] 20,Z 14 21,A 1 21 22,W 1 22 20]<|
 r [M 0 23,Z 23 24,A 1 24 25,K 25 26,N 26 27,M 6 28,B .sub 27 28 29,M 29 4,V .ja 5]<|
 .ret):=bt Tryz.func206
def EA: Of aE 208 28 [.tmp 4] (r [V z0 4]<|
 q (r [M 0 7,C 245 [t 7] 8,M 8 5]<|
 r [M 5 9,D .neq 9 0 10]<|
 c 10 (r [M 5 11,M 11 4]<|
 .ret) k)<|
 q (r [V z0 6]<|
 gL 0 [M 6 12,M 0 13,N 13 14,B .lss 12 14 15] 15 ((
 q (.block 1 (r [M 0 18,M 6 19,I true 3 18 19 20,L 3 20 21,M 1 22,C 246 [t 21,t 22] 23,U 23 24]<|
 c 24 (r [V (i6 17) 4]<|
 .ret) k))<|
 R [M 6 16,D .add 16 1 17,M 17 6])))<|
 gR [M 0 25,N 25 26,D .eql 26 0 27] 27 [V (i6 17) 4]<|
 r [V z0 4]<|
 .ret):=bt Tryz.func208
def Gn: Of aE 209 55 [.tmp 2] (r [X 0 1,gF 2]<|
 gR [A 3 1 4,K 4 5,D .lss 5 1 6,M 6 7,AF 3 1 8 7,KF 8 9 7,DF .gtr 9 6 10 7,O 7 10 11] 11 [gF 2]<|
 gR [A 4 1 12,K 12 13,D .eql 13 0 14] 14 [gT 2]<|
 gR [A 3 1 15,K 15 16,D .neq 16 5 17,M 17 18,AF 4 1 19 18,KF 19 20 18,DF .lss 20 1 21 18,O 18 21 22,M 22 23,AF 4 1 24 23,KF 24 25 23,DF .gtr 25 4 26 23,O 23 26 27,M 27 28,AF 2 1 29 28,KF 29 30 28,NF 30 31 28,DF .neq 31 1 32 28,O 28 32 33] 33 [gF 2]<|
 r [A 2 1 34,K 34 35,gI true 3 35 0 36,A 1 36 37,K 37 38,M 38 3]<|
 r [A 4 1 39,K 39 40,D .eql 40 4 41,M 41 42,MF 3 43 42,DF .eql 43 1 44 42,O 42 44 45,M 45 46,MF 3 47 46,DF .eql 47 2 48 46,MF 48 49 46,AT 4 1 50 49,KT 50 51 49,DT .neq 51 1 52 49,PF 49 52 53 46,O 46 53 54,M 54 2]<|
 .ret):=bt Tryz.func209
