/- Part of a proof: see Root. -/
import Derived.Test.YtmbgnaoilncbnaaGreatDoorZ12
import Derived.KernelRfl
set_option linter.unnecessarySimpa false
set_option linter.unusedSimpArgs false
set_option linter.unusedVariables false
namespace Go.Proofs.YtmbgnaoilncbnaaGreatDoor
open Go.AM Go.AM.W
set_option maxRecDepth 10000
def oI: aI:=r [X 0 1,V (.bool false) 2]<|
 q (r [L 6 1 7,C jL [t 7] 8,U 8 9]<|
 c 9 (r [C eY [] 10,M 10 2]<|
 .ret) k)<|
 r [L 6 1 12,C gg [t 12] 13,M 13 11,E 11 0 14,E 11 1 15,M 14 3,M 15 4]<|
 r [L 6 1 17,C si [t 17] 18,M 18 16,E 16 0 19,E 16 1 20,M 19 5,M 20 6]<|
 r [M 3 21,M 5 22,B .eql 21 22 23,M 23 24,MT 4 25 24,MT 6 26 24,BT .eql 25 26 27 24,P 24 27 28,M 28 29,CT eY [] 30 29,P 29 30 31,M 31 2]<|
 .ret
theorem ug: Of Tryz.prog uX 32 [.tmp 2] oI:=aU {} Tryz.func3
def nL: aI:=r [V (.bool false) 2]<|
 q (r [M 0 7,S 7 8,D .gtr 8 3000 9]<|
 c 9 (r [C eY [] 10,M 10 2]<|
 .ret) k)<|
 r [M 0 12,C kH [t 12] 13,M 13 11,E 11 0 14,E 11 1 15,J [e0,.ae,.ae,z0,z0,.ae] 3,W 6 3 14,M 15 4]<|
 r [M 0 17,C xB [t 17] 18,M 18 16,E 16 0 19,E 16 1 20,J [e0,.ae,.ae,z0,z0,.ae] 5,W 6 5 19,M 20 6]<|
 r [L 6 3 21,L 6 5 22,C gL [t 21,t 22] 23,M 23 24,MT 4 25 24,MT 6 26 24,BT .eql 25 26 27 24,P 24 27 28,M 28 29,CT eY [] 30 29,P 29 30 31,M 31 2]<|
 .ret
theorem sY: Of Tryz.prog tP 32 [.tmp 2] nL:=aU {} Tryz.func4
def lZ: aI:=r [X 0 2,V (.bool false) 4]<|
 q (r [L 6 2 21,C jL [t 21] 22,U 22 23,M 23 24,MF 1 25 24,SF 25 26 24,DF .gtr 26 3000 27 24,O 24 27 28]<|
 c 28 (r [C eY [] 29,M 29 4]<|
 .ret) k)<|
 r [L 6 2 31,C kI [t 31] 32,M 32 30,E 30 0 33,E 30 1 34,E 30 2 35,E 30 3 36,J [e0,.ae,.ae,z0,z0,.ae] 5,W 6 5 33,M 34 6,M 35 7,M 36 8]<|
 r [L 6 5 38,C gg [t 38] 39,M 39 37,E 37 0 40,E 37 1 41,M 40 9,M 41 10]<|
 q (r [M 8 42,D .eql 42 0 43,M 43 44,MT 10 45 44,DT .eql 45 0 46 44,P 44 46 47]<|
 c 47 (r [M 9 49,C kH [t 49] 50,M 50 48,E 48 0 51,E 48 1 52,J [e0,.ae,.ae,z0,z0,.ae] 11,W 6 11 51,M 52 12]<|
 r [L 6 11 53,L 6 5 54,C gL [t 53,t 54] 55,U 55 56,M 56 57,MF 12 58 57,DF .neq 58 0 59 57,O 57 59 60,M 60 61,MF 9 62 61,SF 62 63 61,DF .gtr 63 1400 64 61,O 61 64 65]<|
 c 65 (r [V (.bool false) 4]<|
 .ret) k) (r [M 8 66,D .eql 66 0 67,M 67 68,MT 10 69 68,DT .neq 69 5 70 68,P 68 70 71]<|
 c 71 (r [V (.bool false) 4]<|
 .ret) k))<|
 r [M 1 73,C kH [t 73] 74,M 74 72,E 72 0 75,E 72 1 76,J [e0,.ae,.ae,z0,z0,.ae] 13,W 6 13 75,M 76 14]<|
 q (r [M 14 77,D .neq 77 0 78]<|
 c 78 (r [L 6 13 79,⟨.build [e0,.ae,.ae,z0,z0,.ae] [],(some 80),none⟩,C gL [t 79,t 80] 81,M 81 82,MT 14 83 82,DT .eql 83 4 84 82,MT 84 85 82,MF 14 86 85,DF .eql 86 5 87 85,MF 87 88 85,MT 1 89 88,ST 89 90 88,DT .gtr 90 1400 91 88,PF 88 91 92 85,OT 85 92 93 82,P 82 93 94,M 94 95,CT eY [] 96 95,P 95 96 97,M 97 4]<|
 .ret) k)<|
 r [L 6 13 99,C kI [t 99] 100,M 100 98,E 98 0 101,E 98 1 102,E 98 2 103,E 98 3 104,J [e0,.ae,.ae,z0,z0,.ae] 15,W 6 15 101,M 102 16,M 103 17,M 104 18]<|
 r [L 6 13 106,C gg [t 106] 107,M 107 105,E 105 0 108,E 105 1 109,M 108 19,M 109 20]<|
 r [L 6 15 110,L 6 13 111,C gL [t 110,t 111] 112,M 112 113,MT 18 114 113,DT .eql 114 0 115 113,P 113 115 116,M 116 117,MT 19 118 117,MT 1 119 117,BT .eql 118 119 120 117,P 117 120 121,M 121 122,MT 20 123 122,DT .eql 123 0 124 122,P 122 124 125,M 125 126,CT eY [] 127 126,P 126 127 128,M 128 4]<|
 .ret
theorem oJ: Of Tryz.prog wU 129 [.tmp 4] lZ:=aU {} Tryz.func5
def oK: aI:=r [X 0 2,X 1 3,V (.bool false) 4]<|
 q (r [L 6 2 13,C jL [t 13] 14,U 14 15,M 15 16,LF 6 3 17 16,CF jL [t 17] 18 16,UF 18 19 16,O 16 19 20]<|
 c 20 (r [C eY [] 21,M 21 4]<|
 .ret) k)<|
 r [L 6 2 23,C gg [t 23] 24,M 24 22,E 22 0 25,E 22 1 26,M 25 5,M 26 6]<|
 r [L 6 3 28,C gg [t 28] 29,M 29 27,E 27 0 30,E 27 1 31,M 30 7,M 31 8]<|
 r [L 6 2 33,C kI [t 33] 34,M 34 32,E 32 0 35,E 32 1 36,E 32 2 37,E 32 3 38,J [e0,.ae,.ae,z0,z0,.ae] 9,W 6 9 35,M 36 10,M 37 11,M 38 12]<|
 q (r [M 12 39,D .eql 39 0 40,M 40 41,LT 6 9 42 41,LT 6 2 43 41,CT gL [t 42,t 43] 44 41,UT 44 45 41,P 41 45 46,M 46 47,MT 6 48 47,DT .neq 48 4 49 47,P 47 49 50]<|
 c 50 (r [V (.bool false) 4]<|
 .ret) k)<|
 q (r [M 6 51,D .neq 51 0 52,M 52 53,MF 8 54 53,DF .neq 54 0 55 53,O 53 55 56]<|
 c 56 (r [C eY [] 57,M 57 4]<|
 .ret) k)<|
 r [M 5 58,M 7 59,B .eql 58 59 60,L 6 2 61,L 6 3 62,C gL [t 61,t 62] 63,⟨.ni false false [.b] (t 60) (t 63),(some 64),none⟩,M 64 65,CT eY [] 66 65,P 65 66 67,M 67 4]<|
 .ret
theorem uh: Of Tryz.prog uY 68 [.tmp 4] oK:=aU {} Tryz.func6
def Bf: aI:=r [X 0 1,V (.bool false) 2]<|
 q (r [A 0 1 4,K 4 5,S 5 6,D .gtr 6 300 7,M 7 8,AF 5 1 9 8,KF 9 10 8,NF 10 11 8,DF .gtr 11 26 12 8,O 8 12 13,M 13 14,AF 1 1 15 14,KF 15 16 14,CF sj [t 16] 17 14,UF 17 18 14,O 14 18 19,M 19 20,AF 2 1 21 20,KF 21 22 20,CF sj [t 22] 23 20,UF 23 24 20,O 20 24 25]<|
 c 25 (r [V (.bool false) 2]<|
 .ret) k)<|
 q (r [V z0 3]<|
 .block 0 (.loop (q (r [M 3 26,A 5 1 27,K 27 28,N 28 29,B .lss 26 29 30]<|
 c 30 k (.exit 0))<|
 q (.block 1 (r [A 5 1 33,K 33 34,M 3 35,I true 2 34 35 36,A 0 36 37,K 37 38,C sk [t 38] 39,U 39 40,M 40 41,AF 5 1 42 41,KF 42 43 41,MF 3 44 41,IF true 2 43 44 45 41,AF 1 45 46 41,KF 46 47 41,CF sk [t 47] 48 41,UF 48 49 41,O 41 49 50]<|
 c 50 (r [V (.bool false) 2]<|
 .ret) k))<|
 R [M 3 31,D .add 31 1 32,M 32 3])))<|
 r [V (.bool true) 2]<|
 .ret
theorem J7: Of Tryz.prog jL 51 [.tmp 2] Bf:=aU {} Tryz.func11
def E5: aI:=r [V (.bool false) 0]<|
 r [⟨.build [e0,z0,.ae] [(0,1,(.c (.str [97]))),(1,1,(.c (i6 1)))],(some 6),none⟩,⟨.bD false ⟨true,3⟩ (.agg [e0,z0,.ae]) 1 [(0,(t 6))],(some 7),none⟩,⟨.build [e0,z0,.ae] [(0,1,(.c (.str [111]))),(1,1,(.c (i6 1)))],(some 8),none⟩,⟨.bD false ⟨true,3⟩ (.agg [e0,z0,.ae]) 1 [(0,(t 8))],(some 9),none⟩,⟨.build [e0,.ae,.ae,z0,z0,.ae] [(0,1,(.c (.str [116]))),(1,1,(t 7)),(2,1,(t 9)),(3,1,(.c (i6 2)))],(some 10),none⟩,J [e0,.ae,.ae,z0,z0,.ae] 1,W 6 1 10]<|
 r [L 6 1 12,C gg [t 12] 13,M 13 11,E 11 0 14,E 11 1 15,M 14 2,M 15 3]<|
 r [M 2 17,C kH [t 17] 18,M 18 16,E 16 0 19,E 16 1 20,J [e0,.ae,.ae,z0,z0,.ae] 4,W 6 4 19,M 20 5]<|
 r [M 2 21,⟨.bin .eql (t 21) (.c (.str [2,116,4,0,2,2,97,2,2,2,111,2,0,0])),(some 22),none⟩,M 22 23,MT 3 24 23,DT .eql 24 0 25 23,P 23 25 26,M 26 27,LT 6 1 28 27,LT 6 4 29 27,CT gL [t 28,t 29] 30 27,P 27 30 31,M 31 32,MT 5 33 32,DT .eql 33 0 34 32,P 32 34 35,M 35 0]<|
 .ret
theorem Nw: Of Tryz.prog eY 36 [.tmp 0] E5:=aU {} Tryz.func12
def qH: aI:=r [X 0 1,V e0 2,V z0 3]<|
 r [L 6 1 12,C kI [t 12] 13,M 13 11,E 11 0 14,E 11 1 15,E 11 2 16,E 11 3 17,J [e0,.ae,.ae,z0,z0,.ae] 4,W 6 4 14,M 15 5,M 16 6,M 17 7]<|
 q (.block 0 (r [M 7 19,D .neq 19 0 20,M 20 18]<|
 c 18 (r [M 7 21,V e0 2,M 21 3]<|
 .ret) (r [L 6 4 23,L 6 1 24,C xC [t 23,t 24] 25,U 25 26,M 26 22]<|
 c 22 (r [V e0 2,V (i6 4) 3]<|
 .ret) k)))<|
 q (.draw [A 0 1 27,K 27 28,Q mL [t 28] 29,A 3 1 30,K 30 31,Q gM [t 31] 32,B .add 29 32 33,A 4 1 34,K 34 35,Q gM [t 35] 36,B .add 33 36 37,M 37 8] [])<|
 q (.draw [M 8 38,A 1 1 39,K 39 40,⟨.call true (.c (.fn (.func nC) [] [])) [(t 40),(.c (.fn (.func nD) [] []))],(some 41),none⟩,A 2 1 42,K 42 43,⟨.call true (.c (.fn (.func nC) [] [])) [(t 43),(.c (.fn (.func qz) [] []))],(some 44),none⟩,B .add 41 44 45,A 5 1 46,K 46 47,N 47 48,Q gM [t 48] 49,B .add 45 49 50,B .add 38 50 51,M 51 8] [])<|
 q (r [A 5 1 52,K 52 53,N 53 54,V z0 55]<|
 .block 1 (.loop (r [B .lss 55 54 56]<|
 q (c 56 k (.exit 1))<|
 q (.block 2 (r [I true 2 53 55 57,L 2 57 58,J [.ae,.ae] 10,W 2 10 58]<|
 .draw [M 8 59,A 0 10 60,K 60 61,Q qA [t 61] 62,A 1 10 63,K 63 64,Q qA [t 64] 65,B .add 62 65 66,B .add 59 66 67,M 67 8] []))<|
 R [D .add 55 1 68,M 68 55])))<|
 q (r [M 8 69,S 69 70,D .gtr 70 1400 71]<|
 c 71 (r [V e0 2,V (i6 5) 3]<|
 .ret) k)<|
 r [M 8 72,M 72 2,V z0 3]<|
 .ret
theorem uj: Of Tryz.prog gg 73 [.tmp 2,.tmp 3] qH:=aU {} Tryz.func13
def nY: aI:=r [X 0 1,V e0 2,V z0 3]<|
 r [L 6 1 10,C xD [t 10] 11,M 11 9,E 9 0 12,E 9 1 13,E 9 2 14,E 9 3 15,J [e0,.ae,.ae,z0,z0,.ae] 4,W 6 4 12,M 13 5,M 14 6,M 15 7]<|
 q (.block 0 (r [M 7 17,D .neq 17 0 18,M 18 16]<|
 c 16 (r [M 7 19,V e0 2,M 19 3]<|
 .ret) (r [L 6 4 21,L 6 1 22,C gL [t 21,t 22] 23,U 23 24,M 24 20]<|
 c 20 (r [V e0 2,V (i6 4) 3]<|
 .ret) k)))<|
 r [L 6 1 25,C zD [t 25] 26,M 26 8]<|
 q (r [M 8 27,S 27 28,D .gtr 28 1400 29]<|
 c 29 (r [V e0 2,V (i6 5) 3]<|
 .ret) k)<|
 r [M 8 30,M 30 2,V z0 3]<|
 .ret
theorem qI: Of Tryz.prog si 31 [.tmp 2,.tmp 3] nY:=aU {} Tryz.func14
def vM: aI:=r [J [e0,.ae,.ae,z0,z0,.ae] 2,V z0 3]<|
 q (r [M 0 9,S 9 10,D .gtr 10 1400 11]<|
 c 11 (r [⟨.build [e0,.ae,.ae,z0,z0,.ae] [],(some 12),none⟩,W 6 2 12,V (i6 5) 3]<|
 .ret) k)<|
 r [M 0 13,⟨.build [e0,(.bool false)] [(0,1,(t 13))],(some 14),none⟩,X 14 15,M 15 4]<|
 r [M 4 16,C iD [t 16] 17,⟨.build [e0,.ae,.ae,z0,z0,.ae] [(0,1,(t 17))],(some 18),none⟩,J [e0,.ae,.ae,z0,z0,.ae] 5,W 6 5 18]<|
 r [M 4 19,C fN [t 19] 20,M 4 21,C fN [t 21] 22,A 3 5 23,W 1 23 20,A 4 5 24,W 1 24 22]<|
 r [M 4 25,M 4 26,⟨.vy (.func kj) [(t 26)] [],(some 27),none⟩,C iV [t 25,t 27] 28,A 1 5 29,W 1 29 28]<|
 r [M 4 30,M 4 31,⟨.vy (.func lg) [(t 31)] [],(some 32),none⟩,C iV [t 30,t 32] 33,A 2 5 34,W 1 34 33]<|
 q (r [M 4 35,C fN [t 35] 36,M 36 6]<|
 .block 0 (.loop (q (r [A 5 5 37,K 37 38,N 38 39,M 6 40,⟨.min (t 40) [(.c (i6 25))],(some 41),none⟩,B .lss 39 41 42,M 42 43,MT 4 44 43,ZT 44 45 43,AT 1 45 46 43,KT 46 47 43,UT 47 48 43,P 43 48 49]<|
 c 49 k (.exit 0))<|
 .block 1 (.draw [A 5 5 50,K 50 51,M 4 52,A 1 5 53,K 53 54,N 54 55,⟨.j9 (.c (.fn (.func jM) [] [])) [(t 52),(t 55)],(some 56),none⟩,M 4 57,A 2 5 58,K 58 59,N 59 60,⟨.j9 (.c (.fn (.func jM) [] [])) [(t 57),(t 60)],(some 61),none⟩,⟨.build [.ae,.ae] [(0,1,(t 56)),(1,1,(t 61))],(some 62),none⟩,⟨.bD false ⟨true,2⟩ (.agg [.ae,.ae]) 1 [(0,(t 62))],(some 63),none⟩,⟨.app none ⟨true,2⟩ (t 51) (t 63),(some 64),none⟩,A 5 5 65,W 1 65 64] [((t 50),(t 52)),((t 58),(t 52)),((t 50),(t 57))]))))<|
 q (r [L 6 5 67,C gg [t 67] 68,M 68 66,E 66 0 69,E 66 1 70,M 69 7,M 70 8]<|
 r [M 4 71,Z 71 72,A 1 72 73,K 73 74,M 74 75,MF 8 76 75,DF .neq 76 0 77 75,O 75 77 78,M 78 79,MF 7 80 79,MF 0 81 79,BF .neq 80 81 82 79,O 79 82 83]<|
 c 83 (r [⟨.build [e0,.ae,.ae,z0,z0,.ae] [],(some 84),none⟩,W 6 2 84,V (i6 4) 3]<|
 .ret) k)<|
 r [L 6 5 85,W 6 2 85,V z0 3]<|
 .ret
theorem Bg: Of Tryz.prog kH 86 [.cell 2 true 6,.tmp 3] vM:=aU ⟨[],[],[],[],[56,61],[]⟩ Tryz.func15
def xV: aI:=r [J [e0,.ae,.ae,z0,z0,.ae] 2,V z0 3]<|
 q (r [M 0 13,S 13 14,D .gtr 14 1400 15]<|
 c 15 (r [⟨.build [e0,.ae,.ae,z0,z0,.ae] [],(some 16),none⟩,W 6 2 16,V (i6 5) 3]<|
 .ret) k)<|
 r [M 0 17,⟨.build [e0,(.bool false)] [(0,1,(t 17))],(some 18),none⟩,X 18 19,M 19 4]<|
 r [M 4 20,C gE [t 20] 21,M 4 22,C fZ [t 22] 23,M 4 24,C fZ [t 24] 25,M 4 26,⟨.call false (.c (.fn (.func jr) [] [])) [(t 26),(.c (.bool false))],(some 27),none⟩,M 4 28,⟨.call false (.c (.fn (.func jr) [] [])) [(t 28),(.c (.bool true))],(some 29),none⟩,⟨.build [e0,.ae,.ae,z0,z0,.ae] [(0,1,(t 21)),(3,1,(t 23)),(4,1,(t 25)),(1,1,(t 27)),(2,1,(t 29))],(some 30),none⟩,J [e0,.ae,.ae,z0,z0,.ae] 5,W 6 5 30]<|
 r [M 4 31,C fZ [t 31] 32,M 32 6]<|
 q (r [V z0 7]<|
 .block 0 (.loop (q (r [M 7 33,M 6 34,B .lss 33 34 35,M 35 36,MT 4 37 36,ZT 37 38 36,AT 1 38 39 36,KT 39 40 36,UT 40 41 36,P 36 41 42]<|
 c 42 k (.exit 0))<|
 q (.block 1 (r [⟨.build [.ae,.ae] [],(some 45),none⟩,J [.ae,.ae] 8,W 2 8 45]<|
 q (r [V z0 9]<|
 .block 2 (.loop (q (r [M 9 46,A 1 5 47,K 47 48,N 48 49,B .lss 46 49 50]<|
 c 50 k (.exit 2))<|
 q (.block 3 (.draw [A 0 8 53,K 53 54,M 4 55,⟨.j9 (.c (.fn (.func gE) [] [])) [(t 55)],(some 56),none⟩,⟨.bD false ⟨false,1⟩ e0 1 [(0,(t 56))],(some 57),none⟩,⟨.app none ⟨false,1⟩ (t 54) (t 57),(some 58),none⟩,A 0 8 59,W 1 59 58] [((t 53),(t 55))]))<|
 R [M 9 51,D .add 51 1 52,M 52 9])))<|
 q (r [V z0 10]<|
 .block 4 (.loop (q (r [M 10 60,A 2 5 61,K 61 62,N 62 63,B .lss 60 63 64]<|
 c 64 k (.exit 4))<|
 q (.block 5 (.draw [A 1 8 67,K 67 68,M 4 69,⟨.j9 (.c (.fn (.func gE) [] [])) [(t 69)],(some 70),none⟩,⟨.bD false ⟨false,1⟩ e0 1 [(0,(t 70))],(some 71),none⟩,⟨.app none ⟨false,1⟩ (t 68) (t 71),(some 72),none⟩,A 1 8 73,W 1 73 72] [((t 67),(t 69))]))<|
 R [M 10 65,D .add 65 1 66,M 66 10])))<|
 q (r [A 0 8 74,K 74 75,N 75 76,A 1 8 77,K 77 78,N 78 79,B .add 76 79 80,D .eql 80 0 81]<|
 c 81 (R [M 4 82,Z 82 83,A 1 83 84,⟨.store 1 (t 84) (.c (.bool true)),none,none⟩]) k)<|
 R [A 5 5 85,K 85 86,L 2 8 87,⟨.bD false ⟨true,2⟩ (.agg [.ae,.ae]) 1 [(0,(t 87))],(some 88),none⟩,⟨.app none ⟨true,2⟩ (t 86) (t 88),(some 89),none⟩,A 5 5 90,W 1 90 89]))<|
 R [M 7 43,D .add 43 1 44,M 44 7])))<|
 q (r [M 4 91,Z 91 92,A 1 92 93,K 93 94,M 94 95,MF 4 96 95,ZF 96 97 95,AF 0 97 98 95,KF 98 99 95,⟨.bin .neq (t 99) (.c e0),(some 100),some (95,false)⟩,O 95 100 101]<|
 c 101 (r [⟨.build [e0,.ae,.ae,z0,z0,.ae] [],(some 102),none⟩,W 6 2 102,V (i6 4) 3]<|
 .ret) k)<|
 q (r [L 6 5 104,C si [t 104] 105,M 105 103,E 103 0 106,E 103 1 107,M 106 11,M 107 12]<|
 r [M 12 108,D .neq 108 0 109,M 109 110,MF 11 111 110,MF 0 112 110,BF .neq 111 112 113 110,O 110 113 114]<|
 c 114 (r [⟨.build [e0,.ae,.ae,z0,z0,.ae] [],(some 115),none⟩,W 6 2 115,V (i6 4) 3]<|
 .ret) k)<|
 r [L 6 5 116,W 6 2 116,V z0 3]<|
 .ret
theorem CE: Of Tryz.prog xB 117 [.cell 2 true 6,.tmp 3] xV:=aU ⟨[],[],[],[],[56,70],[]⟩ Tryz.func16
def zX: aI:=r [X 0 2,X 1 3,V (.bool false) 4]<|
 q (r [A 0 2 6,K 6 7,A 0 3 8,K 8 9,B .neq 7 9 10,M 10 11,AF 3 2 12 11,KF 12 13 11,AF 3 3 14 11,KF 14 15 11,BF .neq 13 15 16 11,O 11 16 17,M 17 18,AF 4 2 19 18,KF 19 20 18,AF 4 3 21 18,KF 21 22 18,BF .neq 20 22 23 18,O 18 23 24,M 24 25,AF 5 2 26 25,KF 26 27 25,NF 27 28 25,AF 5 3 29 25,KF 29 30 25,NF 30 31 25,BF .neq 28 31 32 25,O 25 32 33]<|
 c 33 (r [V (.bool false) 4]<|
 .ret) k)<|
 q (r [V z0 5]<|
 .block 0 (.loop (q (r [M 5 34,A 5 2 35,K 35 36,N 36 37,B .lss 34 37 38]<|
 c 38 k (.exit 0))<|
 q (.block 1 (q (.draw [A 5 2 41,K 41 42,M 5 43,I true 2 42 43 44,A 0 44 45,K 45 46,A 5 3 47,K 47 48,M 5 49,I true 2 48 49 50,A 0 50 51,K 51 52,Q mE [t 46,t 52] 53,U 53 54,M 54 55,AF 5 2 56 55,KF 56 57 55,MF 5 58 55,IF true 2 57 58 59 55,AF 1 59 60 55,KF 60 61 55,AF 5 3 62 55,KF 62 63 55,MF 5 64 55,IF true 2 63 64 65 55,AF 1 65 66 55,KF 66 67 55,QF mE [t 61,t 67] 68 55,UF 68 69 55,O 55 69 70] [])<|
 c 70 (r [V (.bool false) 4]<|
 .ret) k))<|
 R [M 5 39,D .add 39 1 40,M 40 5])))<|
 r [A 1 2 71,K 71 72,A 1 3 73,K 73 74,C lj [t 72,t 74] 75,M 75 76,AT 2 2 77 76,KT 77 78 76,AT 2 3 79 76,KT 79 80 76,CT lj [t 78,t 80] 81 76,P 76 81 82,M 82 4]<|
 .ret
theorem E6: Of Tryz.prog gL 83 [.tmp 4] zX:=aU {} Tryz.func17
def vN: aI:=r [X 0 1,J [e0,.ae,.ae,z0,z0,.ae] 2,V z0 3,V z0 4,V z0 5]<|
 .scope 0 (r [L 6 1 22,C xE [t 22] 23,M 23 21,E 21 0 24,E 21 1 25,E 21 2 26,E 21 3 27,J [e0,.ae,.ae,z0,z0,.ae,.ae] 6,W 7 6 24,M 25 7,M 26 8,M 27 9]<|
 q (r [M 9 28,D .neq 28 0 29]<|
 c 29 (r [⟨.build [e0,.ae,.ae,z0,z0,.ae] [],(some 30),none⟩,M 7 31,M 8 32,M 9 33,W 6 2 30,M 31 3,M 32 4,M 33 5]<|
 .ret) k)<|
 r [L 6 1 34,J [e0,.ae,.ae,z0,z0,.ae] 10,W 6 10 34]<|
 r [A 5 10 35,⟨.store 1 (t 35) (.c .ae),none,none⟩]<|
 r [J [.ae,.ae] 11]<|
 r [V (.fn (.func jd) [] []) 12]<|
 q (.label 0)<|
 q (r [A 6 6 36,K 36 37,N 37 38,V z0 39]<|
 .block 0 (.loop (r [B .lss 39 38 40]<|
 q (c 40 k (.exit 0))<|
 q (.block 1 (r [M 39 41,I true 2 37 39 42,L 2 42 43,J [.ae,.ae] 14,M 41 13,W 2 14 43]<|
 r [⟨.build [.ae,.ae] [],(some 44),none⟩,M 13 45,W 2 11 44,M 45 7]<|
 q (r [A 0 14 46,K 46 47,N 47 48,V z0 49]<|
 .block 2 (.loop (r [B .lss 49 48 50]<|
 q (c 50 k (.exit 2))<|
 q (.block 3 (r [M 49 51,I true 3 47 49 52,L 3 52 53,J [(.bool false),(.bool false),.ae] 16,M 51 15,W 3 16 53]<|
 r [V e0 17]<|
 r [L 3 16 55,C rG [t 55] 56,M 56 54,E 54 0 57,E 54 1 58,M 57 17,M 58 9]<|
 r [M 15 59,M 59 8]<|
 r [M 12 60,A 0 11 61,M 17 62,M 9 63,⟨.call false (t 60) [(t 61),(t 62),(t 63)],(some 64),none⟩,U 64 65]<|
 c 65 (.exit 0) k))<|
 R [D .add 49 1 66,M 66 49])))<|
 q (r [A 1 14 67,K 67 68,N 68 69,V z0 70]<|
 .block 4 (.loop (r [B .lss 70 69 71]<|
 q (c 71 k (.exit 4))<|
 q (.block 5 (r [M 70 72,I true 6 68 70 73,L 6 73 74,J [z0,z0,z0,e0,e0,.ae] 19,M 72 18,W 6 19 74]<|
 r [V e0 20]<|
 r [L 6 19 76,C lO [t 76] 77,M 77 75,E 75 0 78,E 75 1 79,M 78 20,M 79 9]<|
 r [A 1 1 80,K 80 81,N 81 82,M 18 83,B .add 82 83 84,M 84 8]<|
 r [M 12 85,A 1 11 86,M 20 87,M 9 88,⟨.call false (t 85) [(t 86),(t 87),(t 88)],(some 89),none⟩,U 89 90]<|
 c 90 (.exit 0) k))<|
 R [D .add 70 1 91,M 91 70])))<|
 R [A 5 10 92,K 92 93,L 2 11 94,⟨.bD false ⟨true,2⟩ (.agg [.ae,.ae]) 1 [(0,(t 94))],(some 95),none⟩,⟨.app none ⟨true,2⟩ (t 93) (t 95),(some 96),none⟩,A 5 10 97,W 1 97 96]))<|
 R [D .add 39 1 98,M 98 39])))<|
 q (r [M 9 99,D .neq 99 0 100]<|
 c 100 (r [⟨.build [e0,.ae,.ae,z0,z0,.ae] [],(some 101),none⟩,M 7 102,M 8 103,M 9 104,W 6 2 101,M 102 3,M 103 4,M 104 5]<|
 .ret) k)<|
 r [L 6 10 105,W 6 2 105,V z0 3,V z0 4,V z0 5]<|
 .ret) (.seq k <|
 q (r [A 6 6 36,K 36 37,N 37 38,V z0 39]<|
 .block 0 (.loop (r [B .lss 39 38 40]<|
 q (c 40 k (.exit 0))<|
 q (.block 1 (r [M 39 41,I true 2 37 39 42,L 2 42 43,J [.ae,.ae] 14,M 41 13,W 2 14 43]<|
 r [⟨.build [.ae,.ae] [],(some 44),none⟩,M 13 45,W 2 11 44,M 45 7]<|
 q (r [A 0 14 46,K 46 47,N 47 48,V z0 49]<|
 .block 2 (.loop (r [B .lss 49 48 50]<|
 q (c 50 k (.exit 2))<|
 q (.block 3 (r [M 49 51,I true 3 47 49 52,L 3 52 53,J [(.bool false),(.bool false),.ae] 16,M 51 15,W 3 16 53]<|
 r [V e0 17]<|
 r [L 3 16 55,C rG [t 55] 56,M 56 54,E 54 0 57,E 54 1 58,M 57 17,M 58 9]<|
 r [M 15 59,M 59 8]<|
 r [M 12 60,A 0 11 61,M 17 62,M 9 63,⟨.call false (t 60) [(t 61),(t 62),(t 63)],(some 64),none⟩,U 64 65]<|
 c 65 (.exit 0) k))<|
 R [D .add 49 1 66,M 66 49])))<|
 q (r [A 1 14 67,K 67 68,N 68 69,V z0 70]<|
 .block 4 (.loop (r [B .lss 70 69 71]<|
 q (c 71 k (.exit 4))<|
 q (.block 5 (r [M 70 72,I true 6 68 70 73,L 6 73 74,J [z0,z0,z0,e0,e0,.ae] 19,M 72 18,W 6 19 74]<|
 r [V e0 20]<|
 r [L 6 19 76,C lO [t 76] 77,M 77 75,E 75 0 78,E 75 1 79,M 78 20,M 79 9]<|
 r [A 1 1 80,K 80 81,N 81 82,M 18 83,B .add 82 83 84,M 84 8]<|
 r [M 12 85,A 1 11 86,M 20 87,M 9 88,⟨.call false (t 85) [(t 86),(t 87),(t 88)],(some 89),none⟩,U 89 90]<|
 c 90 (.exit 0) k))<|
 R [D .add 70 1 91,M 91 70])))<|
 R [A 5 10 92,K 92 93,L 2 11 94,⟨.bD false ⟨true,2⟩ (.agg [.ae,.ae]) 1 [(0,(t 94))],(some 95),none⟩,⟨.app none ⟨true,2⟩ (t 93) (t 95),(some 96),none⟩,A 5 10 97,W 1 97 96]))<|
 R [D .add 39 1 98,M 98 39])))<|
 q (r [M 9 99,D .neq 99 0 100]<|
 c 100 (r [⟨.build [e0,.ae,.ae,z0,z0,.ae] [],(some 101),none⟩,M 7 102,M 8 103,M 9 104,W 6 2 101,M 102 3,M 103 4,M 104 5]<|
 .ret) k)<|
 r [L 6 10 105,W 6 2 105,V z0 3,V z0 4,V z0 5]<|
 .ret)
theorem Bh: Of Tryz.prog kI 106 [.cell 2 true 6,.tmp 3,.tmp 4,.tmp 5] vN:=aU {} Tryz.func18
def E7: aI:=r [V (.bool false) 2]<|
 q (r [M 0 5,C sG [t 5] 6,U 6 7]<|
 c 7 (r [V (.bool false) 2]<|
 .ret) k)<|
 q (r [V z0 3]<|
 .block 0 (.loop (q (r [M 3 8,M 0 9,N 9 10,B .lss 8 10 11]<|
 c 11 k (.exit 0))<|
 q (.block 1 (q (r [M 0 14,M 3 15,I true 3 14 15 16,A 2 16 17,K 17 18,N 18 19,D .gtr 19 12 20]<|
 c 20 (r [V (.bool false) 2]<|
 .ret) k)<|
 r [V z0 4]<|
 .block 2 (.loop (q (r [M 4 21,M 0 22,M 3 23,I true 3 22 23 24,A 2 24 25,K 25 26,N 26 27,B .lss 21 27 28]<|
 c 28 k (.exit 2))<|
 q (.block 3 (r [M 0 31,M 3 32,I true 3 31 32 33,A 2 33 34,K 34 35,M 4 36,I true 3 35 36 37,A 2 37 38,K 38 39,S 39 40,D .gtr 40 300 41]<|
 c 41 (r [V (.bool false) 2]<|
 .ret) k))<|
 R [M 4 29,D .add 29 1 30,M 30 4]))))<|
 R [M 3 12,D .add 12 1 13,M 13 3])))<|
 r [V (.bool true) 2]<|
 .ret
theorem Nx: Of Tryz.prog sj 42 [.tmp 2] E7:=aU {} Tryz.func33
def E8: aI:=r [V (.bool false) 2]<|
 q (r [M 0 4,N 4 5,D .gtr 5 10 6]<|
 c 6 (r [V (.bool false) 2]<|
 .ret) k)<|
 q (r [V z0 3]<|
 .block 0 (.loop (q (r [M 3 7,M 0 8,N 8 9,B .lss 7 9 10]<|
 c 10 k (.exit 0))<|
 q (.block 1 (r [M 0 13,M 3 14,I false 1 13 14 15,K 15 16,S 16 17,D .gtr 17 300 18]<|
 c 18 (r [V (.bool false) 2]<|
 .ret) k))<|
 R [M 3 11,D .add 11 1 12,M 12 3])))<|
 r [V (.bool true) 2]<|
 .ret
theorem Ny: Of Tryz.prog sk 19 [.tmp 2] E8:=aU {} Tryz.func34
def E9: aI:=r [X 0 2,X 1 3,V (.bool false) 4]<|
 r [A 0 2 5,K 5 6,A 0 3 7,K 7 8,B .eql 6 8 9,M 9 10,AT 3 2 11 10,KT 11 12 10,AT 3 3 13 10,KT 13 14 10,BT .eql 12 14 15 10,P 10 15 16,M 16 17,AT 4 2 18 17,KT 18 19 17,AT 4 3 20 17,KT 20 21 17,BT .eql 19 21 22 17,P 17 22 23,M 23 24,AT 1 2 25 24,KT 25 26 24,AT 1 3 27 24,KT 27 28 24,⟨.call false (.c (.fn (.func iq) [] [])) [(t 26),(t 28),(.c (.fn (.func gF) [] []))],(some 29),some (24,true)⟩,P 24 29 30,M 30 31,AT 2 2 32 31,KT 32 33 31,AT 2 3 34 31,KT 34 35 31,⟨.call false (.c (.fn (.func iq) [] [])) [(t 33),(t 35),(.c (.fn (.func gF) [] []))],(some 36),some (31,true)⟩,P 31 36 37,M 37 38,AT 5 2 39 38,KT 39 40 38,AT 5 3 41 38,KT 41 42 38,⟨.call false (.c (.fn (.func lC) [] [])) [(t 40),(t 42),(.c (.fn (.func mF) [] []))],(some 43),some (38,true)⟩,P 38 43 44,M 44 4]<|
 .ret
theorem Nz: Of Tryz.prog xC 45 [.tmp 4] E9:=aU {} Tryz.func35
def GB: aI:=r [V e0 2]<|
 r [M 0 3,S 3 4,C gM [t 4] 5,M 0 6,B .add 5 6 7,M 7 2]<|
 .ret
theorem PU: Of Tryz.prog mL 8 [.tmp 2] GB:=aU {} Tryz.func36
def Jf: aI:=r [V e0 2]<|
 r [M 0 5,C zE [t 5] 6,M 6 3]<|
 r [⟨.oh ⟨false,1⟩ (.int .u8 0) (.c z0) (.c (i6 10)),(some 7),none⟩,M 7 4]<|
 q (.block 0 (.loop (q (r [M 3 8,⟨.bin .geq (t 8) (.c (.int .u64 128)),(some 9),none⟩]<|
 c 9 k (.exit 0))<|
 .block 1 (r [M 4 10,M 3 11,C lX [t 11] 12,⟨.bin .or (t 12) (.c (.int .u8 128)),(some 13),none⟩,⟨.bD false ⟨false,1⟩ (.int .u8 0) 1 [(0,(t 13))],(some 14),none⟩,⟨.app none ⟨false,1⟩ (t 10) (t 14),(some 15),none⟩,M 15 4]<|
 R [M 3 16,⟨.bin .shr (t 16) (.c (.int .u64 7)),(some 17),none⟩,M 17 3]))))<|
 r [M 4 18,M 3 19,C lX [t 19] 20,⟨.bD false ⟨false,1⟩ (.int .u8 0) 1 [(0,(t 20))],(some 21),none⟩,⟨.app none ⟨false,1⟩ (t 18) (t 21),(some 22),none⟩,⟨.uV (t 22),(some 23),none⟩,M 23 2]<|
 .ret
theorem Rq: Of Tryz.prog gM 24 [.tmp 2] Jf:=aU {} Tryz.func37
def zY: aI:=r [V e0 4]<|
 r [M 0 8,N 8 9,C gM [t 9] 10,M 10 5]<|
 q (r [M 0 11,N 11 12,V z0 13]<|
 .block 0 (.loop (r [B .lss 13 12 14]<|
 q (c 14 k (.exit 0))<|
 q (.block 1 (r [I true 3 11 13 15,L 3 15 16,J [e0,z0,.ae] 7,W 3 7 16]<|
 .draw [M 5 17,A 0 7 18,K 18 19,Q mL [t 19] 20,A 1 7 21,K 21 22,Q gM [t 22] 23,B .add 20 23 24,M 1 25,L 3 7 26,⟨.call true (t 25) [(t 26)],(some 27),none⟩,B .add 24 27 28,B .add 17 28 29,M 29 5] []))<|
 R [D .add 13 1 30,M 30 13])))<|
 r [M 5 31,M 31 4]<|
 .ret
theorem IX: Of Tryz.prog nC 32 [.tmp 4] zY:=aU {} Tryz.func38
def zZ: aI:=r [X 0 1,V e0 2]<|
 r [V e0 2]<|
 .ret
theorem IY: Of Tryz.prog nD 3 [.tmp 2] zZ:=aU {} Tryz.func39
def CH: aI:=r [X 0 1,V e0 2]<|
 r [A 2 1 6,K 6 7,C BR [t 7] 8,M 8 5,E 5 0 9,E 5 1 10,M 9 3,M 10 4]<|
 r [M 3 11,M 11 2]<|
 .ret
theorem Lw: Of Tryz.prog qz 12 [.tmp 2] CH:=aU {} Tryz.func40
def CI: aI:=r [V e0 2]<|
 r [V e0 3]<|
 q (r [M 0 6,N 6 7,V z0 8]<|
 .block 0 (.loop (r [B .lss 8 7 9]<|
 q (c 9 k (.exit 0))<|
 q (.block 1 (r [I false 1 6 8 10,K 10 11,M 11 5]<|
 R [M 3 12,M 5 13,C mL [t 13] 14,B .add 12 14 15,M 15 3]))<|
 R [D .add 8 1 16,M 16 8])))<|
 r [M 3 17,M 17 2]<|
 .ret
theorem Ly: Of Tryz.prog qA 18 [.tmp 2] CI:=aU {} Tryz.func41
def xW: aI:=r [X 0 1,J [e0,.ae,.ae,z0,z0,.ae] 2,V z0 3,V z0 4,V z0 5]<|
 r [L 6 1 20,C zF [t 20] 21,M 21 19,E 19 0 22,E 19 1 23,E 19 2 24,E 19 3 25,J [e0,.ae,.ae,z0,z0,.ae,.ae] 6,W 7 6 22,M 23 7,M 24 8,M 25 9]<|
 q (r [M 9 26,D .neq 26 0 27]<|
 c 27 (r [⟨.build [e0,.ae,.ae,z0,z0,.ae] [],(some 28),none⟩,M 7 29,M 8 30,M 9 31,W 6 2 28,M 29 3,M 30 4,M 31 5]<|
 .ret) k)<|
 r [L 6 1 32,J [e0,.ae,.ae,z0,z0,.ae] 10,W 6 10 32]<|
 r [A 5 10 33,⟨.store 1 (t 33) (.c .ae),none,none⟩]<|
 q (r [V z0 11]<|
 .block 0 (.loop (q (r [M 11 34,A 6 6 35,K 35 36,N 36 37,B .lss 34 37 38]<|
 c 38 k (.exit 0))<|
 q (.block 1 (r [⟨.build [.ae,.ae] [],(some 41),none⟩,J [.ae,.ae] 12,W 2 12 41]<|
 q (r [V z0 13]<|
 .block 2 (.loop (q (r [M 13 42,A 6 6 43,K 43 44,M 11 45,I true 2 44 45 46,A 0 46 47,K 47 48,N 48 49,B .lss 42 49 50]<|
 c 50 k (.exit 2))<|
 q (.block 3 (r [A 6 6 54,K 54 55,M 11 56,I true 2 55 56 57,A 0 57 58,K 58 59,M 13 60,I true 3 59 60 61,L 3 61 62,C tS [t 62] 63,M 63 53,E 53 0 64,E 53 1 65,M 64 14,M 65 15]<|
 q (r [M 15 66,D .neq 66 0 67]<|
 c 67 (r [⟨.build [e0,.ae,.ae,z0,z0,.ae] [],(some 68),none⟩,M 11 69,M 13 70,M 15 71,W 6 2 68,M 69 3,M 70 4,M 71 5]<|
 .ret) k)<|
 R [A 0 12 72,K 72 73,M 14 74,⟨.bD false ⟨false,1⟩ e0 1 [(0,(t 74))],(some 75),none⟩,⟨.app none ⟨false,1⟩ (t 73) (t 75),(some 76),none⟩,A 0 12 77,W 1 77 76]))<|
 R [M 13 51,D .add 51 1 52,M 52 13])))<|
 q (r [V z0 16]<|
 .block 4 (.loop (q (r [M 16 78,A 6 6 79,K 79 80,M 11 81,I true 2 80 81 82,A 1 82 83,K 83 84,N 84 85,B .lss 78 85 86]<|
 c 86 k (.exit 4))<|
 q (.block 5 (r [A 6 6 90,K 90 91,M 11 92,I true 2 91 92 93,A 1 93 94,K 94 95,M 16 96,I true 6 95 96 97,L 6 97 98,C mM [t 98] 99,M 99 89,E 89 0 100,E 89 1 101,M 100 17,M 101 18]<|
 q (r [M 18 102,D .neq 102 0 103]<|
 c 103 (q (.draw [⟨.build [e0,.ae,.ae,z0,z0,.ae] [],(some 104),none⟩,M 11 105,A 1 1 106,K 106 107,N 107 108,M 16 109,B .add 108 109 110,M 18 111,W 6 2 104,M 105 3,M 110 4,M 111 5] [((t 106),(t 2))])<|
 .ret) k)<|
 R [A 1 12 112,K 112 113,M 17 114,⟨.bD false ⟨false,1⟩ e0 1 [(0,(t 114))],(some 115),none⟩,⟨.app none ⟨false,1⟩ (t 113) (t 115),(some 116),none⟩,A 1 12 117,W 1 117 116]))<|
 R [M 16 87,D .add 87 1 88,M 88 16])))<|
 R [A 5 10 118,K 118 119,L 2 12 120,⟨.bD false ⟨true,2⟩ (.agg [.ae,.ae]) 1 [(0,(t 120))],(some 121),none⟩,⟨.app none ⟨true,2⟩ (t 119) (t 121),(some 122),none⟩,A 5 10 123,W 1 123 122]))<|
 R [M 11 39,D .add 39 1 40,M 40 11])))<|
 r [L 6 10 124,W 6 2 124,V z0 3,V z0 4,V z0 5]<|
 .ret
theorem CJ: Of Tryz.prog xD 125 [.cell 2 true 6,.tmp 3,.tmp 4,.tmp 5] xW:=aU {} Tryz.func42
def GC: aI:=r [X 0 1,V e0 2]<|
 q (.draw [A 0 1 7,K 7 8,Q kR [t 8] 9,A 3 1 10,K 10 11,Q gN [t 11] 12,B .add 9 12 13,A 4 1 14,K 14 15,Q gN [t 15] 16,B .add 13 16 17,A 1 1 18,K 18 19,⟨.call true (.c (.fn (.func oR) [] [])) [(t 19),(.c (.bool false))],(some 20),none⟩,B .add 17 20 21,A 2 1 22,K 22 23,⟨.call true (.c (.fn (.func oR) [] [])) [(t 23),(.c (.bool true))],(some 24),none⟩,B .add 21 24 25,A 5 1 26,K 26 27,N 27 28,Q gN [t 28] 29,B .add 25 29 30,M 30 3] [])<|
 q (r [V z0 4]<|
 .block 0 (.loop (q (r [M 4 31,A 5 1 32,K 32 33,N 33 34,B .lss 31 34 35]<|
 c 35 k (.exit 0))<|
 q (.block 1 (q (r [V z0 5]<|
 .block 2 (.loop (q (r [M 5 38,A 5 1 39,K 39 40,M 4 41,I true 2 40 41 42,A 0 42 43,K 43 44,N 44 45,B .lss 38 45 46]<|
 c 46 k (.exit 2))<|
 q (.block 3 (R [M 3 49,A 5 1 50,K 50 51,M 4 52,I true 2 51 52 53,A 0 53 54,K 54 55,M 5 56,I false 1 55 56 57,K 57 58,C kR [t 58] 59,B .add 49 59 60,M 60 3]))<|
 R [M 5 47,D .add 47 1 48,M 48 5])))<|
 r [V z0 6]<|
 .block 4 (.loop (q (r [M 6 61,A 5 1 62,K 62 63,M 4 64,I true 2 63 64 65,A 1 65 66,K 66 67,N 67 68,B .lss 61 68 69]<|
 c 69 k (.exit 4))<|
 q (.block 5 (R [M 3 72,A 5 1 73,K 73 74,M 4 75,I true 2 74 75 76,A 1 76 77,K 77 78,M 6 79,I false 1 78 79 80,K 80 81,C kR [t 81] 82,B .add 72 82 83,M 83 3]))<|
 R [M 6 70,D .add 70 1 71,M 71 6]))))<|
 R [M 4 36,D .add 36 1 37,M 37 4])))<|
 r [M 3 84,M 84 2]<|
 .ret
theorem PV: Of Tryz.prog zD 85 [.tmp 2] GC:=aU {} Tryz.func43
def uk: aI:=r [V e0 2]<|
 r [M 0 7,Z 7 8,A 0 8 9,K 9 10,⟨.call false (.c (.fn (.func nG) [] [])) [(t 10),(.c (i6 1400))],(some 11),none⟩,M 11 6,E 6 0 12,E 6 1 13,E 6 2 14,M 12 3,M 13 4,M 14 5]<|
 r [M 0 15,M 0 16,M 4 17,M 0 18,Z 18 19,A 1 19 20,K 20 21,M 21 22,MF 5 23 22,DF .neq 23 0 24 22,O 22 24 25,Z 15 26,A 0 26 27,W 1 27 17,Z 16 28,A 1 28 29,W 1 29 25]<|
 r [M 3 30,M 30 2]<|
 .ret
theorem CK: Of Tryz.prog iD 31 [.tmp 2] uk:=aU {} Tryz.func44
def uZ: aI:=r [V z0 2]<|
 r [M 0 7,Z 7 8,A 0 8 9,K 9 10,C iF [t 10] 11,M 11 6,E 6 0 12,E 6 1 13,E 6 2 14,M 12 3,M 13 4,M 14 5]<|
 r [M 0 15,M 0 16,M 4 17,M 0 18,Z 18 19,A 1 19 20,K 20 21,M 21 22,MF 5 23 22,DF .neq 23 0 24 22,O 22 24 25,Z 15 26,A 0 26 27,W 1 27 17,Z 16 28,A 1 28 29,W 1 29 25]<|
 r [M 3 30,M 30 2]<|
 .ret
theorem DX: Of Tryz.prog fN 31 [.tmp 2] uZ:=aU {} Tryz.func45
def qW: aI:=r [V .ae 4]<|
 r [⟨.iB ⟨true,3⟩,(some 5),none⟩]<|
 q (r [M 0 8,C fN [t 8] 9,M 9 6]<|
 .block 0 (.loop (q (r [M 5 10,N 10 11,M 6 12,B .lss 11 12 13,M 13 14,MT 0 15 14,ZT 15 16 14,AT 1 16 17 14,KT 17 18 14,UT 18 19 14,P 14 19 20]<|
 c 20 k (.exit 0))<|
 .block 1 (r [M 0 21,C iD [t 21] 22,⟨.build [e0,z0,.ae] [(0,1,(t 22))],(some 23),none⟩,J [e0,z0,.ae] 7,W 3 7 23]<|
 r [M 0 24,C fN [t 24] 25,A 1 7 26,W 1 26 25]<|
 r [M 1 27,⟨.call false (t 27) [],(some 28),none⟩,A 2 7 29,W 1 29 28]<|
 R [M 5 30,L 3 7 31,⟨.bD false ⟨true,3⟩ (.agg [e0,z0,.ae]) 1 [(0,(t 31))],(some 32),none⟩,⟨.app none ⟨true,3⟩ (t 30) (t 32),(some 33),none⟩,M 33 5]))))<|
 r [M 5 34,M 34 4]<|
 .ret
theorem z6: Of Tryz.prog iV 35 [.tmp 4] qW:=aU ⟨[],[],[(5,⟨true,3⟩)],[],[],[]⟩ Tryz.func46
def um: aI:=r [V .ae 2]<|
 r [V .ae 2]<|
 .ret
theorem CL: Of Tryz.prog kj 3 [.tmp 2] um:=aU {} Tryz.func47
def u0: aI:=r [V .ae 2]<|
 r [M 0 7,Z 7 8,A 0 8 9,K 9 10,⟨.call false (.c (.fn (.func tT) [] [])) [(t 10),(.c (i6 8))],(some 11),none⟩,M 11 6,E 6 0 12,E 6 1 13,E 6 2 14,M 12 3,M 13 4,M 14 5]<|
 r [M 0 15,M 0 16,M 4 17,M 0 18,Z 18 19,A 1 19 20,K 20 21,M 21 22,MF 5 23 22,DF .neq 23 0 24 22,O 22 24 25,Z 15 26,A 0 26 27,W 1 27 17,Z 16 28,A 1 28 29,W 1 29 25]<|
 r [M 3 30,M 30 2]<|
 .ret
theorem DY: Of Tryz.prog lg 31 [.tmp 2] u0:=aU {} Tryz.func48
def sZ: aI:=r [V .ae 4]<|
 r [⟨.iB ⟨false,1⟩,(some 5),none⟩]<|
 q (r [M 1 6,V z0 7]<|
 .block 0 (.loop (r [B .lss 7 6 8]<|
 q (c 8 k (.exit 0))<|
 q (.block 1 (R [M 5 9,M 0 10,C iD [t 10] 11,⟨.bD false ⟨false,1⟩ e0 1 [(0,(t 11))],(some 12),none⟩,⟨.app none ⟨false,1⟩ (t 9) (t 12),(some 13),none⟩,M 13 5]))<|
 R [D .add 7 1 14,M 14 7])))<|
 r [M 5 15,M 15 4]<|
 .ret
theorem BZ: Of Tryz.prog jM 16 [.tmp 4] sZ:=aU ⟨[],[],[(5,⟨false,1⟩)],[],[],[]⟩ Tryz.func49
def u7: aI:=r [V e0 2]<|
 r [M 0 7,Z 7 8,A 0 8 9,K 9 10,⟨.call false (.c (.fn (.func nE) [] [])) [(t 10),(.c (i6 1400))],(some 11),none⟩,M 11 6,E 6 0 12,E 6 1 13,E 6 2 14,M 12 3,M 13 4,M 14 5]<|
 r [M 0 15,M 4 16,Z 15 17,A 0 17 18,W 1 18 16]<|
 r [M 0 19,M 0 20,Z 20 21,A 1 21 22,K 22 23,M 23 24,MF 5 25 24,DF .neq 25 0 26 24,O 24 26 27,Z 19 28,A 1 28 29,W 1 29 27]<|
 r [M 3 30,M 30 2]<|
 .ret
theorem DZ: Of Tryz.prog gE 31 [.tmp 2] u7:=aU {} Tryz.func50
def wW: aI:=r [V z0 2]<|
 r [M 0 7,Z 7 8,A 0 8 9,K 9 10,C iE [t 10] 11,M 11 6,E 6 0 12,E 6 1 13,E 6 2 14,M 12 3,M 13 4,M 14 5]<|
 r [M 0 15,M 4 16,Z 15 17,A 0 17 18,W 1 18 16]<|
 r [M 0 19,M 0 20,Z 20 21,A 1 21 22,K 22 23,M 23 24,MF 5 25 24,DF .neq 25 0 26 24,O 24 26 27,Z 19 28,A 1 28 29,W 1 29 27]<|
 r [M 3 30,M 30 2]<|
 .ret
theorem FU: Of Tryz.prog fZ 31 [.tmp 2] wW:=aU {} Tryz.func51
def rK: aI:=r [V .ae 4]<|
 r [⟨.iB ⟨true,3⟩,(some 5),none⟩]<|
 r [M 0 12,C fZ [t 12] 13,M 13 6]<|
 q (r [V z0 7]<|
 .block 0 (.loop (q (r [M 7 14,M 6 15,B .lss 14 15 16,M 16 17,MT 0 18 17,ZT 18 19 17,AT 1 19 20 17,KT 20 21 17,UT 21 22 17,P 17 22 23]<|
 c 23 k (.exit 0))<|
 q (.block 1 (r [M 0 26,C gE [t 26] 27,M 0 28,C fZ [t 28] 29,⟨.build [e0,z0,.ae] [(0,1,(t 27)),(1,1,(t 29))],(some 30),none⟩,J [e0,z0,.ae] 8,W 3 8 30]<|
 q (r [M 1 31]<|
 c 31 (r [M 0 33,Z 33 34,A 0 34 35,K 35 36,⟨.call false (.c (.fn (.func tQ) [] [])) [(t 36),(.c (i6 1400))],(some 37),none⟩,M 37 32,E 32 0 38,E 32 1 39,E 32 2 40,M 38 9,M 39 10,M 40 11]<|
 r [M 9 41,A 2 8 42,W 1 42 41]<|
 r [M 0 43,M 10 44,Z 43 45,A 0 45 46,W 1 46 44]<|
 R [M 0 47,M 0 48,Z 48 49,A 1 49 50,K 50 51,M 51 52,MF 11 53 52,DF .neq 53 0 54 52,O 52 54 55,Z 47 56,A 1 56 57,W 1 57 55]) k)<|
 R [M 5 58,L 3 8 59,⟨.bD false ⟨true,3⟩ (.agg [e0,z0,.ae]) 1 [(0,(t 59))],(some 60),none⟩,⟨.app none ⟨true,3⟩ (t 58) (t 60),(some 61),none⟩,M 61 5]))<|
 R [M 7 24,D .add 24 1 25,M 25 7])))<|
 r [M 5 62,M 62 4]<|
 .ret
theorem AW: Of Tryz.prog jr 63 [.tmp 4] rK:=aU ⟨[],[],[(5,⟨true,3⟩)],[],[],[]⟩ Tryz.func52
def yj: aI:=r [V (.bool false) 4]<|
 q (r [M 0 6,N 6 7,M 1 8,N 8 9,B .neq 7 9 10]<|
 c 10 (r [V (.bool false) 4]<|
 .ret) k)<|
 q (r [V z0 5]<|
 .block 0 (.loop (q (r [M 5 11,M 0 12,N 12 13,B .lss 11 13 14]<|
 c 14 k (.exit 0))<|
 q (.block 1 (q (.draw [M 0 17,M 5 18,I false 1 17 18 19,K 19 20,M 1 21,M 5 22,I false 1 21 22 23,K 23 24,B .neq 20 24 25] [])<|
 c 25 (r [V (.bool false) 4]<|
 .ret) k))<|
 R [M 5 15,D .add 15 1 16,M 16 5])))<|
 r [V (.bool true) 4]<|
 .ret
theorem GD: Of Tryz.prog mE 26 [.tmp 4] yj:=aU {} Tryz.func53
def u_: aI:=r [V (.bool false) 4]<|
 q (r [M 0 6,N 6 7,M 1 8,N 8 9,B .neq 7 9 10]<|
 c 10 (r [V (.bool false) 4]<|
 .ret) k)<|
 q (r [V z0 5]<|
 .block 0 (.loop (q (r [M 5 11,M 0 12,N 12 13,B .lss 11 13 14]<|
 c 14 k (.exit 0))<|
 q (.block 1 (q (.draw [M 0 17,M 5 18,I true 3 17 18 19,A 0 19 20,K 20 21,M 1 22,M 5 23,I true 3 22 23 24,A 0 24 25,K 25 26,B .neq 21 26 27,M 27 28,MF 0 29 28,MF 5 30 28,IF true 3 29 30 31 28,AF 1 31 32 28,KF 32 33 28,MF 1 34 28,MF 5 35 28,IF true 3 34 35 36 28,AF 1 36 37 28,KF 37 38 28,BF .neq 33 38 39 28,O 28 39 40,M 40 41,MF 0 42 41,MF 5 43 41,IF true 3 42 43 44 41,AF 2 44 45 41,KF 45 46 41,MF 1 47 41,MF 5 48 41,IF true 3 47 48 49 41,AF 2 49 50 41,KF 50 51 41,QF tR [t 46,t 51] 52 41,UF 52 53 41,O 41 53 54] [])<|
 c 54 (r [V (.bool false) 4]<|
 .ret) k))<|
 R [M 5 15,D .add 15 1 16,M 16 5])))<|
 r [V (.bool true) 4]<|
 .ret
theorem D2: Of Tryz.prog lj 55 [.tmp 4] u_:=aU {} Tryz.func54
def xX: aI:=r [X 0 1,J [e0,.ae,.ae,z0,z0,.ae,.ae] 2,V z0 3,V z0 4,V z0 5]<|
 q (r [L 6 1 13,C vD [t 13] 14,M 14 6]<|
 r [M 6 15,D .neq 15 0 16]<|
 c 16 (r [⟨.build [e0,.ae,.ae,z0,z0,.ae,.ae] [],(some 17),none⟩,M 6 18,W 7 2 17,V (i6 (-1)) 3,V z0 4,M 18 5]<|
 .ret) k)<|
 r [L 6 1 19,⟨.build [e0,.ae,.ae,z0,z0,.ae,.ae] [(0,6,(t 19))],(some 20),none⟩,J [e0,.ae,.ae,z0,z0,.ae,.ae] 7,W 7 7 20]<|
 q (r [A 5 1 21,K 21 22,N 22 23,V z0 24]<|
 .block 0 (.loop (r [B .lss 24 23 25]<|
 q (c 25 k (.exit 0))<|
 q (.block 1 (r [M 24 26,I true 2 22 24 27,L 2 27 28,J [.ae,.ae] 9,M 26 8,W 2 9 28]<|
 r [L 6 1 30,L 2 9 31,C xF [t 30,t 31] 32,M 32 29,E 29 0 33,E 29 1 34,E 29 2 35,J [.ae,.ae] 10,W 2 10 33,M 34 11,M 35 12]<|
 q (r [M 12 36,D .neq 36 0 37]<|
 c 37 (r [⟨.build [e0,.ae,.ae,z0,z0,.ae,.ae] [],(some 38),none⟩,M 8 39,M 11 40,M 12 41,W 7 2 38,M 39 3,M 40 4,M 41 5]<|
 .ret) k)<|
 R [A 6 7 42,K 42 43,L 2 10 44,⟨.bD false ⟨true,2⟩ (.agg [.ae,.ae]) 1 [(0,(t 44))],(some 45),none⟩,⟨.app none ⟨true,2⟩ (t 43) (t 45),(some 46),none⟩,A 6 7 47,W 1 47 46]))<|
 R [D .add 24 1 48,M 48 24])))<|
 r [L 7 7 49,W 7 2 49,V z0 3,V z0 4,V z0 5]<|
 .ret
theorem CM: Of Tryz.prog xE 50 [.cell 2 true 7,.tmp 3,.tmp 4,.tmp 5] xX:=aU {} Tryz.func55
def kT: aI:=r [V (.bool false) 6]<|
 r [M 0 7,M 0 8,Z 8 9,K 9 10,M 1 11,⟨.bD false ⟨false,1⟩ e0 1 [(0,(t 11))],(some 12),none⟩,⟨.app none ⟨false,1⟩ (t 10) (t 12),(some 13),none⟩,Z 7 14,W 1 14 13]<|
 r [M 2 15,D .eql 15 0 16,M 16 6]<|
 .ret
theorem mH: Of Tryz.prog jd 17 [.tmp 6] kT:=aU {} Tryz.func56
def wE: aI:=r [X 0 1,V e0 2,V z0 3]<|
 q (r [L 3 1 11,C pG [t 11] 12,M 12 4]<|
 r [M 4 13,D .neq 13 0 14]<|
 c 14 (r [M 4 15,V e0 2,M 15 3]<|
 .ret) k)<|
 q (r [A 0 1 16,K 16 17]<|
 c 17 (r [V (.str [45]) 2,V z0 3]<|
 .ret) k)<|
 r [⟨.iB ⟨false,1⟩,(some 5),none⟩]<|
 q (r [A 2 1 18,K 18 19,N 19 20,V z0 21]<|
 .block 0 (.loop (r [B .lss 21 20 22]<|
 q (c 22 k (.exit 0))<|
 q (.block 1 (r [I true 15 19 21 23,L 15 23 24,J [z0,z0,z0,z0,e0,e0,.ae,z0,z0,z0,e0,e0,.ae,(.bool false),(.bool false)] 7,W 15 7 24]<|
 r [L 15 7 26,C BS [t 26] 27,M 27 25,E 25 0 28,E 25 1 29,M 28 8,M 29 9]<|
 q (r [M 9 30,D .neq 30 0 31]<|
 c 31 (r [M 9 32,V e0 2,M 32 3]<|
 .ret) k)<|
 R [M 5 33,M 8 34,⟨.bD false ⟨false,1⟩ e0 1 [(0,(t 34))],(some 35),none⟩,⟨.app none ⟨false,1⟩ (t 33) (t 35),(some 36),none⟩,M 36 5]))<|
 R [D .add 21 1 37,M 37 21])))<|
 r [M 5 38,⟨.call false (.c (.fn (.func CC) [] [])) [(t 38),(.c (.str [44,32]))],(some 39),none⟩,M 39 10]<|
 q (r [A 1 1 40,K 40 41]<|
 c 41 (R [M 10 42,⟨.bin .add (.c (.str [110,111,116,40])) (t 42),(some 43),none⟩,⟨.bin .add (t 43) (.c (.str [41])),(some 44),none⟩,M 44 10]) k)<|
 q (r [M 10 45,S 45 46,D .gtr 46 200 47]<|
 c 47 (r [V e0 2,V (i6 5) 3]<|
 .ret) k)<|
 r [M 10 48,M 48 2,V z0 3]<|
 .ret
theorem z7: Of Tryz.prog rG 49 [.tmp 2,.tmp 3] wE:=aU ⟨[],[],[(5,⟨false,1⟩)],[],[],[]⟩ Tryz.func57
def xY: aI:=r [X 0 1,V e0 2,V z0 3]<|
 q (.block 0 (r [L 6 1 6,C kJ [t 6] 7,U 7 8,M 8 5]<|
 c 5 (r [V e0 2,V (i6 2) 3]<|
 .ret) (r [L 6 1 10,C jW [t 10] 11,D .gtr 11 12 12,M 12 9]<|
 c 9 (r [V e0 2,V (i6 12) 3]<|
 .ret) k)))<|
 r [⟨.build [.fM,.ae] [],(some 13),none⟩,⟨.zi 185 (t 13),(some 14),none⟩,M 14 4]<|
 r [M 4 15,L 6 1 16,⟨.call false (.c (.fn (.func eg) [] [])) [(t 15),(t 16),(.c z0)],(some 17),none⟩]<|
 q (r [M 4 18,Z 18 19,A 0 19 20,C mN [t 20] 21,D .gtr 21 200 22]<|
 c 22 (r [V e0 2,V (i6 5) 3]<|
 .ret) k)<|
 r [M 4 23,Z 23 24,A 0 24 25,C iG [t 25] 26,M 26 2,V z0 3]<|
 .ret
theorem CN: Of Tryz.prog lO 27 [.tmp 2,.tmp 3] xY:=aU ⟨[],[],[],[14],[],[]⟩ Tryz.func58
def Jg: aI:=r [V e0 2,V z0 3]<|
 r [M 0 9,N 9 10,C gM [t 10] 11,M 11 4]<|
 q (r [M 0 12,N 12 13,V z0 14]<|
 .block 0 (.loop (r [B .lss 14 13 15]<|
 q (c 15 k (.exit 0))<|
 q (.block 1 (r [I true 3 12 14 16,L 3 16 17,J [z0,z0,e0] 6,W 3 6 17]<|
 r [L 3 6 19,C xG [t 19] 20,M 20 18,E 18 0 21,E 18 1 22,M 21 7,M 22 8]<|
 q (r [M 8 23,D .neq 23 0 24]<|
 c 24 (r [M 8 25,V e0 2,M 25 3]<|
 .ret) k)<|
 R [M 4 26,M 7 27,B .add 26 27 28,M 28 4]))<|
 R [D .add 14 1 29,M 29 14])))<|
 r [M 4 30,M 30 2,V z0 3]<|
 .ret
theorem Rr: Of Tryz.prog BR 31 [.tmp 2,.tmp 3] Jg:=aU {} Tryz.func61
end Go.Proofs.YtmbgnaoilncbnaaGreatDoor
