/- Part. -/
import Derived.Test.YtmbgnaoilncbnaaGreatDoorX14
import Derived.KernelRfl
set_option linter.all false
namespace Go.Proofs.YtmbgnaoilncbnaaGreatDoor
open Go.AM Go.AM.W
set_option maxRecDepth 10000
def vR: aI:=r [J [(.bool false),(.bool false),.ae] 2,V z0 3,V z0 4]<|
 r [M 0 11,C uZ [t 11] 12,M 12 10,E 10 0 13,E 10 1 14,E 10 2 15,M 13 5,M 14 6,M 15 7]<|
 q (r [M 7 16,D .neq 16 0 17]<|
 c 17 (r [aD (.build [(.bool false),(.bool false),.ae] []) 18,M 6 19,M 7 20,W 3 2 18,M 19 3,M 20 4]<|
 .ret) k)<|
 r [M 5 21,aD (.build [.ae,z0,(.bool false)] [(0,1,(t 21))]) 22,X 22 23,M 23 8]<|
 q (r [M 5 24,N 24 25,D .eql 25 1 26,M 26 27,MT 8 28 27,⟨.call false (.c (.fn (.func eC) [] [])) [(t 28),(.c (.str [45]))],(some 29),some (27,true)⟩,P 27 29 30]<|
 c 30 (r [aD (.build [(.bool false),(.bool false),.ae] [(0,1,(.c (.bool true)))]) 31,W 3 2 31,V z0 3,V z0 4]<|
 .ret) k)<|
 r [aD (.build [(.bool false),(.bool false),.ae] []) 32,J [(.bool false),(.bool false),.ae] 9,W 3 9 32]<|
 q (r [M 5 33,N 33 34,D .gtr 34 1 35,M 35 36,MT 5 37 36,⟨.cz ⟨true,4⟩ none (t 37) (.c z0),(some 38),some (36,true)⟩,AT 0 38 39 36,KT 39 40 36,DT .eql 40 1 41 36,P 36 41 42,M 42 43,MT 5 44 43,⟨.cz ⟨true,4⟩ none (t 44) (.c z0),(some 45),some (43,true)⟩,AT 1 45 46 43,KT 46 47 43,⟨.bin .eql (t 47) (.c (.str [110,111,116])),(some 48),some (43,true)⟩,P 43 48 49,M 49 50,MT 5 51 50,⟨.cz ⟨true,4⟩ none (t 51) (.c (i6 1)),(some 52),some (50,true)⟩,AT 0 52 53 50,KT 53 54 50,DT .eql 54 4 55 50,P 50 55 56,M 56 57,MT 5 58 57,⟨.cz ⟨true,4⟩ none (t 58) (.c (i6 1)),(some 59),some (57,true)⟩,AT 1 59 60 57,KT 60 61 57,⟨.bin .eql (t 61) (.c (.str [40])),(some 62),some (57,true)⟩,P 57 62 63]<|
 c 63 (r [A 1 9 64,⟨.store 1 (t 64) (.c (.bool true)),none,none⟩]<|
 R [M 8 65,Z 65 66,A 1 66 67,⟨.store 1 (t 67) (.c (i6 2)),none,none⟩]) k)<|
 q (.draw [A 2 9 68,K 68 69,M 8 70,aD (.mL (.c (.fn (.func jD) [] [])) [(t 70)]) 71,aD (.bK false ⟨true,15⟩ (.agg [z0,z0,z0,z0,e0,e0,.ae,z0,z0,z0,e0,e0,.ae,(.bool false),(.bool false)]) 1 [(0,(t 71))]) 72,aD (.app none ⟨true,15⟩ (t 69) (t 72)) 73,A 2 9 74,W 1 74 73] [((t 68),(t 70))])<|
 q (.block 0 (.loop (q (r [M 8 75,aD (.call false (.c (.fn (.func eC) [] [])) [(t 75),(.c (.str [44]))]) 76]<|
 c 76 k (.exit 0))<|
 .block 1 (r [M 8 77,Z 77 78,A 1 78 79,K 79 80,D .add 80 1 81,Z 77 82,A 1 82 83,W 1 83 81]<|
 .draw [A 2 9 84,K 84 85,M 8 86,aD (.mL (.c (.fn (.func jD) [] [])) [(t 86)]) 87,aD (.bK false ⟨true,15⟩ (.agg [z0,z0,z0,z0,e0,e0,.ae,z0,z0,z0,e0,e0,.ae,(.bool false),(.bool false)]) 1 [(0,(t 87))]) 88,aD (.app none ⟨true,15⟩ (t 85) (t 88)) 89,A 2 9 90,W 1 90 89] [((t 84),(t 86))]))))<|
 q (r [A 1 9 91,K 91 92,M 92 93,MT 8 94 93,ZT 94 95 93,AT 2 95 96 93,KT 96 97 93,UT 97 98 93,P 93 98 99]<|
 c 99 (R [M 8 100,aD (.call false (.c (.fn (.func jE) [] [])) [(t 100),(.c (.str [41]))]) 101]) k)<|
 q (.block 2 (r [M 8 103,Z 103 104,A 1 104 105,K 105 106,M 5 107,N 107 108,B .lss 106 108 109,M 109 102]<|
 c 102 (q (.draw [aD (.build [(.bool false),(.bool false),.ae] []) 110,M 5 111,M 8 112,Z 112 113,A 1 113 114,K 114 115,I true 4 111 115 116,A 3 116 117,K 117 118,W 3 2 110,M 118 3,V (i6 11) 4] [((t 114),(t 2)),((t 117),(t 2))])<|
 .ret) (r [M 8 120,Z 120 121,A 2 121 122,K 122 123,M 123 119]<|
 c 119 (r [aD (.build [(.bool false),(.bool false),.ae] []) 124,M 0 125,S 125 126,W 3 2 124,M 126 3,V (i6 11) 4]<|
 .ret) (r [A 2 9 128,K 128 129,N 129 130,D .gtr 130 12 131,M 131 127]<|
 c 127 (r [aD (.build [(.bool false),(.bool false),.ae] []) 132,W 3 2 132,V z0 3,V (i6 24) 4]<|
 .ret) (r [L 3 9 134,C oa [t 134] 135,U 135 136,M 136 133]<|
 c 133 (r [aD (.build [(.bool false),(.bool false),.ae] []) 137,W 3 2 137,V z0 3,V (i6 12) 4]<|
 .ret) k)))))<|
 r [L 3 9 138,W 3 2 138,V z0 3,V z0 4]<|
 .ret
def zb: Of Tryz.prog AR 139 [.cell 2 true 3,.tmp 3,.tmp 4] vR:=aZ ⟨[],[],[],[],[71,87],[]⟩ Tryz.func166
def Bf: aI:=r [X 0 3,V z0 6]<|
 q (r [L 3 3 12,C oa [t 12] 13,U 13 14]<|
 c 14 (r [V (i6 2) 6]<|
 .ret) k)<|
 q (r [V z0 7]<|
 .block 0 (.loop (q (r [M 7 15,A 2 3 16,K 16 17,N 17 18,B .lss 15 18 19]<|
 c 19 k (.exit 0))<|
 q (.block 1 (r [A 2 3 22,K 22 23,M 7 24,I true 15 23 24 25,L 15 25 26,J [z0,z0,z0,z0,e0,e0,.ae,z0,z0,z0,e0,e0,.ae,(.bool false),(.bool false)] 8,W 15 8 26]<|
 r [A 1 8 28,L 6 28 29,M 2 30,C pL [t 29,t 30] 31,M 31 27,E 27 0 32,E 27 1 33,M 32 9,M 33 10]<|
 r [M 9 34,M 34 11]<|
 q (r [M 10 35,D .eql 35 0 36,M 36 37,AT 0 8 38 37,KT 38 39 37,DT .eql 39 6 40 37,P 37 40 41]<|
 c 41 (R [A 7 8 43,L 6 43 44,M 2 45,C pL [t 44,t 45] 46,M 46 42,E 42 0 47,E 42 1 48,M 47 11,M 48 10]) k)<|
 q (r [M 10 49,D .neq 49 0 50]<|
 c 50 (r [M 10 51,M 51 6]<|
 .ret) k)<|
 r [L 15 8 52,M 1 53,M 9 54,C xB [t 52,t 53,t 54] 55,U 55 56,M 56 57,LF 15 8 58 57,MF 1 59 57,MF 11 60 57,CF xB [t 58,t 59,t 60] 61 57,UF 61 62 57,O 57 62 63]<|
 c 63 (r [V (i6 14) 6]<|
 .ret) k))<|
 R [M 7 20,D .add 20 1 21,M 21 7])))<|
 r [V z0 6]<|
 .ret
def Gx: Of Tryz.prog AU 64 [.tmp 6] Bf:=aZ {} Tryz.func167
def oh: aI:=r [J [z0,z0,z0,e0,e0,.ae] 2,V z0 3,V z0 4]<|
 r [M 0 12,C uZ [t 12] 13,M 13 11,E 11 0 14,E 11 1 15,E 11 2 16,M 14 5,M 15 6,M 16 7]<|
 q (r [M 7 17,D .neq 17 0 18]<|
 c 18 (r [aD (.build [z0,z0,z0,e0,e0,.ae] []) 19,M 6 20,M 7 21,W 6 2 19,M 20 3,M 21 4]<|
 .ret) k)<|
 r [M 5 23,aD (.call false (.c (.fn (.func xC) [] [])) [(t 23),(.c z0),(.c z0)]) 24,M 24 22,E 22 0 25,E 22 1 26,E 22 2 27,J [z0,z0,z0,e0,e0,.ae] 8,W 6 8 25,M 26 9,M 27 10]<|
 q (.block 0 (r [M 9 29,M 5 30,N 30 31,B .lss 29 31 32,M 32 28]<|
 c 28 (q (.draw [aD (.build [z0,z0,z0,e0,e0,.ae] []) 33,M 5 34,M 9 35,I true 4 34 35 36,A 3 36 37,K 37 38,W 6 2 33,M 38 3,V (i6 11) 4] [((t 37),(t 2))])<|
 .ret) (r [M 10 40,D .neq 40 0 41,M 41 39]<|
 c 39 (r [aD (.build [z0,z0,z0,e0,e0,.ae] []) 42,M 0 43,S 43 44,W 6 2 42,M 44 3,V (i6 11) 4]<|
 .ret) (r [L 6 8 46,C nx [t 46] 47,D .gtr 47 12 48,M 48 45]<|
 c 45 (r [aD (.build [z0,z0,z0,e0,e0,.ae] []) 49,W 6 2 49,V z0 3,V (i6 12) 4]<|
 .ret) k))))<|
 r [L 6 8 50,W 6 2 50,V z0 3,V z0 4]<|
 .ret
def pP: Of Tryz.prog AW 51 [.cell 2 true 6,.tmp 3,.tmp 4] oh:=aZ {} Tryz.func168
def Du: aI:=r [X 0 2,V z0 4,V z0 5]<|
 q (r [L 6 2 6,C oc [t 6] 7,U 7 8]<|
 c 8 (r [V z0 4,V (i6 2) 5]<|
 .ret) k)<|
 r [L 6 2 9,M 1 10,C xD [t 9,t 10] 11,E 11 0 12,E 11 1 13,M 12 4,M 13 5]<|
 .ret
def Jd: Of Tryz.prog pL 14 [.tmp 4,.tmp 5] Du:=aZ {} Tryz.func169
def KP: aI:=r [V (.bool false) 4]<|
 r [M 0 5,M 1 6,B .eql 5 6 7,M 7 8,MF 0 9 8,DF .eql 9 0 10 8,O 8 10 11,M 11 12,MF 1 13 12,DF .eql 13 0 14 12,O 12 14 15,M 15 4]<|
 .ret
def Us: Of Tryz.prog fT 16 [.tmp 4] KP:=aZ {} Tryz.func170
def KQ: aI:=r [X 0 1,V (.bool false) 2]<|
 q (r [A 0 1 3,K 3 4,D .eql 4 6 5]<|
 c 5 (r [A 1 1 6,L 6 6 7,C sQ [t 7] 8,M 8 9,AT 7 1 10 9,LT 6 10 11 9,CT sQ [t 11] 12 9,P 9 12 13,M 13 2]<|
 .ret) k)<|
 r [A 0 1 14,K 14 15,D .geq 15 1 16,M 16 17,AT 0 1 18 17,KT 18 19 17,DT .leq 19 5 20 17,P 17 20 21,M 21 22,AT 1 1 23 22,LT 6 23 24 22,CT sQ [t 24] 25 22,P 22 25 26,M 26 27,AT 7 1 28 27,LT 6 28 29 27,⟨.build [z0,z0,z0,e0,e0,.ae] [],(some 30),some (27,true)⟩,CT xE [t 29,t 30] 31 27,P 27 31 32,M 32 33,AT 13 1 34 33,KT 34 35 33,UT 35 36 33,P 33 36 37,M 37 38,AT 14 1 39 38,KT 39 40 38,UT 40 41 38,P 38 41 42,M 42 2]<|
 .ret
def Ut: Of Tryz.prog C3 43 [.tmp 2] KQ:=aZ {} Tryz.func171
def EO: aI:=r [X 0 2,V e0 4]<|
 r [L 6 2 5,M 1 6,C gB [t 5,t 6] 7,M 7 4]<|
 .ret
def Ox: Of Tryz.prog sw 8 [.tmp 4] EO:=aZ {} Tryz.func172
def KR: aI:=r [V e0 2]<|
 q (r [M 0 3]<|
 .block 0 (r [D .eql 3 2 5,M 5 4]<|
 c 4 (r [V (.str [60]) 2]<|
 .ret) (r [D .eql 3 3 7,M 7 6]<|
 c 6 (r [V (.str [60,61]) 2]<|
 .ret) (r [D .eql 3 4 9,M 9 8]<|
 c 8 (r [V (.str [62]) 2]<|
 .ret) (r [D .eql 3 5 11,M 11 10]<|
 c 10 (r [V (.str [62,61]) 2]<|
 .ret) k)))))<|
 r [V e0 2]<|
 .ret
def Uu: Of Tryz.prog xx 12 [.tmp 2] KR:=aZ {} Tryz.func173
def Je: aI:=r [V z0 2]<|
 q (.block 0 (r [M 0 4,D .eql 4 1 5,M 5 6,MF 0 7 6,DF .eql 7 2 8 6,O 6 8 9,M 9 3]<|
 c 3 (r [V z0 2]<|
 .ret) (r [M 0 11,D .eql 11 3 12,M 12 10]<|
 c 10 (r [V (i6 1) 2]<|
 .ret) (r [M 0 14,D .eql 14 16 15,M 15 13]<|
 c 13 (r [V (i6 3) 2]<|
 .ret) (r [M 0 17,C sP [t 17] 18,aD (.bin .neq (t 18) (.c e0)) 19,M 19 16]<|
 c 16 (r [V (i6 2) 2]<|
 .ret) k)))))<|
 r [V (i6 (-1)) 2]<|
 .ret
def R6: Of Tryz.prog AY 20 [.tmp 2] Je:=aZ {} Tryz.func174
def Jf: aI:=r [V z0 2]<|
 q (r [M 0 3]<|
 .block 0 (r [D .eql 3 15 5,M 5 4]<|
 c 4 (r [V (i6 1) 2]<|
 .ret) (r [D .eql 3 14 7,M 7 6]<|
 c 6 (r [V (i6 2) 2]<|
 .ret) (q (r [D .eql 3 8 9,M 9 8]<|
 c 8 k (r [D .eql 3 9 10,M 10 8]<|
 c 8 k (r [D .eql 3 10 11,M 11 8]<|
 c 8 k (r [D .eql 3 11 12,M 12 8]<|
 c 8 k (r [D .eql 3 12 13,M 13 8]<|
 c 8 k (R [D .eql 3 13 14,M 14 8]))))))<|
 c 8 (r [V (i6 3) 2]<|
 .ret) (q (r [D .eql 3 4 16,M 16 15]<|
 c 15 k (R [D .eql 3 5 17,M 17 15]))<|
 c 15 (r [V (i6 4) 2]<|
 .ret) (q (r [D .eql 3 6 19,M 19 18]<|
 c 18 k (R [D .eql 3 7 20,M 20 18]))<|
 c 18 (r [V (i6 5) 2]<|
 .ret) (r [D .eql 3 3 22,M 22 21]<|
 c 21 (r [V (i6 6) 2]<|
 .ret) (q (r [D .eql 3 1 24,M 24 23]<|
 c 23 k (R [D .eql 3 2 25,M 25 23]))<|
 c 23 (r [V (i6 7) 2]<|
 .ret) k))))))))<|
 r [V z0 2]<|
 .ret
def R7: Of Tryz.prog vM 26 [.tmp 2] Jf:=aZ {} Tryz.func175
def KS: aI:=r [X 0 1,V e0 2]<|
 q (r [A 0 1 3,K 3 4]<|
 .block 0 (r [D .eql 4 1 6,M 6 5]<|
 c 5 (r [A 1 1 7,K 7 8,C ni [t 8] 9,M 9 2]<|
 .ret) (r [D .eql 4 2 11,M 11 10]<|
 c 10 (r [A 2 1 12,K 12 13,C A3 [t 13] 14,M 14 2]<|
 .ret) (r [D .eql 4 3 16,M 16 15]<|
 c 15 (q (r [A 1 1 17,K 17 18,D .eql 18 1 19]<|
 c 19 (r [V (.str [116,114,117,101]) 2]<|
 .ret) k)<|
 r [V (.str [102,97,108,115,101]) 2]<|
 .ret) k))))<|
 r [V (.str [110,117,108,108]) 2]<|
 .ret
def Uv: Of Tryz.prog C4 20 [.tmp 2] KS:=aZ {} Tryz.func176
def KU: aI:=r [V e0 2]<|
 q (r [M 0 3]<|
 .block 0 (r [D .eql 3 4 5,M 5 4]<|
 c 4 (r [V (.str [43]) 2]<|
 .ret) (r [D .eql 3 5 7,M 7 6]<|
 c 6 (r [V (.str [45]) 2]<|
 .ret) (r [D .eql 3 6 9,M 9 8]<|
 c 8 (r [V (.str [42]) 2]<|
 .ret) (r [D .eql 3 7 11,M 11 10]<|
 c 10 (r [V (.str [47]) 2]<|
 .ret) (r [D .eql 3 8 13,M 13 12]<|
 c 12 (r [V (.str [61]) 2]<|
 .ret) (r [D .eql 3 9 15,M 15 14]<|
 c 14 (r [V (.str [33,61]) 2]<|
 .ret) (r [D .eql 3 10 17,M 17 16]<|
 c 16 (r [V (.str [60]) 2]<|
 .ret) (r [D .eql 3 11 19,M 19 18]<|
 c 18 (r [V (.str [60,61]) 2]<|
 .ret) (r [D .eql 3 12 21,M 21 20]<|
 c 20 (r [V (.str [62]) 2]<|
 .ret) (r [D .eql 3 13 23,M 23 22]<|
 c 22 (r [V (.str [62,61]) 2]<|
 .ret) (r [D .eql 3 14 25,M 25 24]<|
 c 24 (r [V (.str [97,110,100]) 2]<|
 .ret) (r [D .eql 3 15 27,M 27 26]<|
 c 26 (r [V (.str [111,114]) 2]<|
 .ret) k)))))))))))))<|
 r [V e0 2]<|
 .ret
def Uw: Of Tryz.prog sP 28 [.tmp 2] KU:=aZ {} Tryz.func177
def wh: aI:=r [V z0 2]<|
 q (r [M 0 5,N 5 6,D .gtr 6 6 7]<|
 c 7 (r [V (i6 24) 2]<|
 .ret) k)<|
 q (r [M 0 8,N 8 9,V z0 10]<|
 .block 0 (.loop (r [B .lss 10 9 11]<|
 q (c 11 k (.exit 0))<|
 q (.block 1 (r [M 10 12,I true 3 8 10 13,L 3 13 14,J [e0,z0,.ae] 4,M 12 3,W 3 4 14]<|
 q (r [A 0 4 15,K 15 16,C qB [t 16] 17,U 17 18,M 18 19,MF 0 20 19,AF 0 4 21 19,KF 21 22 19,CF zD [t 20,t 22] 23 19,MF 3 24 19,BF .neq 23 24 25 19,O 19 25 26]<|
 c 26 (r [V (i6 13) 2]<|
 .ret) k)<|
 r [A 1 4 27,K 27 28,D .neq 28 1 29,M 29 30,AT 1 4 31 30,KT 31 32 30,DT .neq 32 2 33 30,P 30 33 34,M 34 35,AT 1 4 36 35,KT 36 37 35,DT .neq 37 3 38 35,P 35 38 39]<|
 c 39 (r [V (i6 14) 2]<|
 .ret) k))<|
 R [D .add 10 1 40,M 40 10])))<|
 r [V z0 2]<|
 .ret
def Bx: Of Tryz.prog wg 41 [.tmp 2] wh:=aZ {} Tryz.func178
def pQ: aI:=r [V (.bool false) 4]<|
 r [M 0 5,M 1 6,C j5 [t 5,t 6] 7,D .geq 7 0 8,M 8 4]<|
 .ret
def yo: Of Tryz.prog lg 9 [.tmp 4] pQ:=aZ {} Tryz.func179
def zY: aI:=r [X 0 2,V (.bool false) 3]<|
 r [L 3 2 4,K 1 5,C y4 [t 4,t 5] 6,U 6 7,M 7 3]<|
 .ret
def JM: Of Tryz.prog oI 8 [.tmp 3] zY:=aZ {} Tryz.func180
def zc: aI:=r [X 0 2,V (.bool false) 4]<|
 q (r [M 1 7,U 7 8]<|
 c 8 (r [A 2 2 9,K 9 10,N 10 11,D .eql 11 0 12,M 12 4]<|
 .ret) k)<|
 q (r [A 2 2 13,K 13 14,N 14 15,V z0 16]<|
 .block 0 (.loop (r [B .lss 16 15 17]<|
 q (c 17 k (.exit 0))<|
 q (.block 1 (r [M 16 18,I true 3 14 16 19,L 3 19 20,J [z0,z0,e0] 6,M 18 5,W 3 6 20]<|
 r [L 3 6 21,C kL [t 21] 22,D .neq 22 0 23,M 23 24,AF 0 6 25 24,KF 25 26 24,AF 1 2 27 24,KF 27 28 24,BF .neq 26 28 29 24,O 24 29 30,M 30 31,AF 2 2 32 31,KF 32 33 31,LF 3 6 34 31,CF qE [t 33,t 34] 35 31,MF 5 36 31,BF .neq 35 36 37 31,O 31 37 38]<|
 c 38 (r [V (.bool false) 4]<|
 .ret) k))<|
 R [D .add 16 1 39,M 39 16])))<|
 r [A 2 2 40,K 40 41,N 41 42,D .geq 42 1 43,M 43 44,AT 2 2 45 44,KT 45 46 44,NT 46 47 44,DT .leq 47 8 48 44,P 44 48 49,M 49 4]<|
 .ret
def EP: Of Tryz.prog y4 50 [.tmp 4] zc:=aZ {} Tryz.func181
def lS: aI:=r [J [(.bool false),(.bool false),.ae] 2,V z0 3,V z0 4]<|
 r [M 0 11,C Er [t 11] 12,M 12 10,E 10 0 13,E 10 1 14,E 10 2 15,M 13 5,M 14 6,M 15 7]<|
 q (r [M 7 16,D .neq 16 0 17]<|
 c 17 (r [aD (.build [(.bool false),(.bool false),.ae] []) 18,M 6 19,M 7 20,W 3 2 18,M 19 3,M 20 4]<|
 .ret) k)<|
 r [M 5 21,aD (.build [.ae,z0] [(0,1,(t 21))]) 22,aD (.build [.ae,z0,(.bool false)] [(0,2,(t 22))]) 23,X 23 24,M 24 8]<|
 q (r [M 5 25,N 25 26,D .eql 26 1 27,M 27 28,MT 8 29 28,ZT 29 30 28,AT 0 30 31 28,CT lP [t 31] 32 28,⟨.bin .eql (t 32) (.c (.str [45])),(some 33),some (28,true)⟩,P 28 33 34]<|
 c 34 (r [aD (.build [(.bool false),(.bool false),.ae] [(0,1,(.c (.bool true)))]) 35,W 3 2 35,V z0 3,V z0 4]<|
 .ret) k)<|
 r [M 8 36,C sR [t 36] 37,J [(.bool false),(.bool false),.ae] 9,W 3 9 37]<|
 q (.block 0 (r [M 8 39,Z 39 40,A 0 40 41,A 1 41 42,K 42 43,M 5 44,N 44 45,B .lss 43 45 46,M 46 38]<|
 c 38 (q (.draw [aD (.build [(.bool false),(.bool false),.ae] []) 47,M 5 48,M 8 49,Z 49 50,A 0 50 51,A 1 51 52,K 52 53,I true 4 48 53 54,A 3 54 55,K 55 56,W 3 2 47,M 56 3,V (i6 11) 4] [((t 52),(t 2)),((t 55),(t 2))])<|
 .ret) (r [M 8 58,Z 58 59,A 2 59 60,K 60 61,M 61 57]<|
 c 57 (r [aD (.build [(.bool false),(.bool false),.ae] []) 62,M 0 63,S 63 64,W 3 2 62,M 64 3,V (i6 11) 4]<|
 .ret) (r [A 2 9 66,K 66 67,N 67 68,D .gtr 68 12 69,M 69 65]<|
 c 65 (r [aD (.build [(.bool false),(.bool false),.ae] []) 70,W 3 2 70,V z0 3,V (i6 24) 4]<|
 .ret) (r [L 3 9 72,C sN [t 72] 73,D .neq 73 0 74,M 74 71]<|
 c 71 (r [aD (.build [(.bool false),(.bool false),.ae] []) 75,W 3 2 75,V z0 3,V (i6 12) 4]<|
 .ret) k)))))<|
 r [L 3 9 76,W 3 2 76,V z0 3,V z0 4]<|
 .ret
def mE: Of Tryz.prog C5 77 [.cell 2 true 3,.tmp 3,.tmp 4] lS:=aZ {} Tryz.func182
def Dv: aI:=r [X 0 3,V z0 6]<|
 q (r [L 3 3 15,C sN [t 15] 16,M 16 7]<|
 r [M 7 17,D .neq 17 0 18]<|
 c 18 (r [M 7 19,M 19 6]<|
 .ret) k)<|
 q (r [A 2 3 20,K 20 21,N 21 22,V z0 23]<|
 .block 0 (.loop (r [B .lss 23 22 24]<|
 q (c 24 k (.exit 0))<|
 q (.block 1 (r [I true 15 21 23 25,L 15 25 26,J [z0,z0,z0,z0,e0,e0,.ae,z0,z0,z0,e0,e0,.ae,(.bool false),(.bool false)] 9,W 15 9 26]<|
 r [V (.bool true) 10]<|
 q (r [L 15 9 27,C C7 [t 27] 28,N 28 29,V z0 30]<|
 .block 2 (.loop (r [B .lss 30 29 31]<|
 q (c 31 k (.exit 2))<|
 q (.block 3 (r [I true 6 28 30 32,L 6 32 33,J [z0,z0,z0,e0,e0,.ae] 12,W 6 12 33]<|
 r [L 6 12 35,M 2 36,C qY [t 35,t 36] 37,M 37 34,E 34 0 38,E 34 1 39,M 38 13,M 39 14]<|
 q (r [M 14 40,D .neq 40 0 41]<|
 c 41 (r [M 14 42,M 42 6]<|
 .ret) k)<|
 R [M 10 43,M 43 44,LT 15 9 45 44,MT 1 46 44,MT 13 47 44,CT Fl [t 45,t 46,t 47] 48 44,P 44 48 49,M 49 10]))<|
 R [D .add 30 1 50,M 50 30])))<|
 r [M 10 51,U 51 52]<|
 c 52 (r [V (i6 14) 6]<|
 .ret) k))<|
 R [D .add 23 1 53,M 53 23])))<|
 r [V z0 6]<|
 .ret
def Jg: Of Tryz.prog C6 54 [.tmp 6] Dv:=aZ {} Tryz.func183
def nk: aI:=r [J [z0,z0,z0,e0,e0,.ae] 2,V z0 3,V z0 4]<|
 r [M 0 11,C Er [t 11] 12,M 12 10,E 10 0 13,E 10 1 14,E 10 2 15,M 13 5,M 14 6,M 15 7]<|
 q (r [M 7 16,D .neq 16 0 17]<|
 c 17 (r [aD (.build [z0,z0,z0,e0,e0,.ae] []) 18,M 6 19,M 7 20,W 6 2 18,M 19 3,M 20 4]<|
 .ret) k)<|
 r [M 5 22,aD (.call false (.c (.fn (.func vO) [] [])) [(t 22),(.c z0),(.c z0)]) 23,M 23 21,E 21 0 24,E 21 1 25,E 21 2 26,J [z0,z0,z0,e0,e0,.ae] 8,W 6 8 24,M 25 9,M 26 7]<|
 q (.block 0 (r [M 9 28,M 5 29,N 29 30,B .lss 28 30 31,M 31 27]<|
 c 27 (q (.draw [aD (.build [z0,z0,z0,e0,e0,.ae] []) 32,M 5 33,M 9 34,I true 4 33 34 35,A 3 35 36,K 36 37,W 6 2 32,M 37 3,V (i6 11) 4] [((t 36),(t 2))])<|
 .ret) (r [M 7 39,D .neq 39 0 40,M 40 38]<|
 c 38 (r [aD (.build [z0,z0,z0,e0,e0,.ae] []) 41,M 0 42,S 42 43,M 7 44,W 6 2 41,M 43 3,M 44 4]<|
 .ret) (r [L 6 8 46,C mA [t 46] 47,D .gtr 47 12 48,M 48 45]<|
 c 45 (r [aD (.build [z0,z0,z0,e0,e0,.ae] []) 49,W 6 2 49,V z0 3,V (i6 12) 4]<|
 .ret) k))))<|
 r [L 6 8 50,W 6 2 50,V z0 3,V z0 4]<|
 .ret
def oK: Of Tryz.prog y5 51 [.cell 2 true 6,.tmp 3,.tmp 4] nk:=aZ {} Tryz.func184
def Bg: aI:=r [X 0 2,V z0 4,V z0 5]<|
 q (r [L 6 2 7,C uc [t 7] 8,M 8 6]<|
 r [M 6 9,D .neq 9 0 10]<|
 c 10 (r [M 6 11,V z0 4,M 11 5]<|
 .ret) k)<|
 r [L 6 2 12,M 1 13,C vP [t 12,t 13] 14,E 14 0 15,E 14 1 16,M 15 4,M 16 5]<|
 .ret
def Gy: Of Tryz.prog qY 17 [.tmp 4,.tmp 5] Bg:=aZ {} Tryz.func185
def Jh: aI:=r [V (.bool false) 4]<|
 r [M 0 5,M 1 6,B .eql 5 6 7,M 7 8,MF 0 9 8,DF .eql 9 0 10 8,O 8 10 11,M 11 12,MF 1 13 12,DF .eql 13 0 14 12,O 12 14 15,M 15 4]<|
 .ret
def R8: Of Tryz.prog jL 16 [.tmp 4] Jh:=aZ {} Tryz.func186
def uE: aI:=r [V z0 4]<|
 q (r [M 0 6,N 6 7,V z0 8]<|
 .block 0 (.loop (r [B .lss 8 7 9]<|
 q (c 9 k (.exit 0))<|
 q (.block 1 (r [M 8 10,M 10 5]<|
 r [M 1 11,M 0 12,M 5 13,I true 15 12 13 14,L 15 14 15,aD (.call false (t 11) [(t 15)]) 16]<|
 c 16 (r [M 5 17,M 17 4]<|
 .ret) k))<|
 R [D .add 8 1 18,M 18 8])))<|
 r [V (i6 (-1)) 4]<|
 .ret
def Dw: Of Tryz.prog nW 19 [.tmp 4] uE:=aZ {} Tryz.func187
def Nc: aI:=r [X 0 1,V (.bool false) 2]<|
 r [L 6 1 3,C uc [t 3] 4,D .eql 4 0 5,M 5 6,LT 6 1 7 6,CT mA [t 7] 8 6,DT .leq 8 12 9 6,P 6 9 10,M 10 2]<|
 .ret
def VN: Of Tryz.prog uY 11 [.tmp 2] Nc:=aZ {} Tryz.func188
def Ji: aI:=r [X 0 2,X 1 3,V (.bool false) 4]<|
 r [A 0 2 5,K 5 6,A 0 3 7,K 7 8,B .eql 6 8 9,M 9 10,AT 1 2 11 10,LT 3 11 12 10,AT 1 3 13 10,LT 3 13 14 10,⟨.qd false true [.i,.i,.s] (t 12) (t 14),(some 15),some (10,true)⟩,P 10 15 16,M 16 17,AT 4 2 18 17,KT 18 19 17,AT 4 3 20 17,KT 20 21 17,BT .eql 19 21 22 17,P 17 22 23,M 23 24,AT 5 2 25 24,KT 25 26 24,AT 5 3 27 24,KT 27 28 24,⟨.call false (.c (.fn (.func nY) [] [])) [(t 26),(t 28),(.c (.fn (.func qZ) [] []))],(some 29),some (24,true)⟩,P 24 29 30,M 30 4]<|
 .ret
def R9: Of Tryz.prog qZ 31 [.tmp 4] Ji:=aZ {} Tryz.func189
def Tc: aI:=r [X 0 1,J [(.bool false),(.bool false)] 2]<|
 r [A 13 1 3,K 3 4,A 14 1 5,K 5 6,aD (.build [(.bool false),(.bool false)] [(0,1,(t 4)),(1,1,(t 6))]) 7,W 2 2 7]<|
 .ret
def Z5: Of Tryz.prog Kq 8 [.cell 2 true 2] Tc:=aZ {} Tryz.func190
def qi: aI:=r [M 0 2,Z 2 3,A 0 3 4,K 4 5,aD (.vE false .p (t 5) (.c .iN)) 6]<|
 c 6 (R [M 0 7,M 0 8,aD (.Pp (t 8)) 9,aD (.Mg 226 (t 9)) 10,aD (.Pq 183 (t 10)) 11,Z 7 12,A 0 12 13,W 1 13 11]) (r [M 0 14,Z 14 15,A 0 15 16,K 16 17,M 0 18,aD (.MX true (t 17) (t 18)) 19]<|
 c 19 (.stop) k)
def zd: Of Tryz.prog iq 20 [] qi:=aZ {} Tryz.func191
def uF: aI:=r [V z0 4]<|
 q (r [M 0 6,N 6 7,V z0 8]<|
 .block 0 (.loop (r [B .lss 8 7 9]<|
 q (c 9 k (.exit 0))<|
 q (.block 1 (r [M 8 10,M 10 5]<|
 r [M 1 11,M 0 12,M 5 13,I true 6 12 13 14,L 6 14 15,aD (.call false (t 11) [(t 15)]) 16]<|
 c 16 (r [M 5 17,M 17 4]<|
 .ret) k))<|
 R [D .add 8 1 18,M 18 8])))<|
 r [V (i6 (-1)) 4]<|
 .ret
def Dx: Of Tryz.prog nX 19 [.tmp 4] uF:=aZ {} Tryz.func193
def Jj: aI:=r [V e0 2]<|
 r [aD (.alloc (some 183) [.iN,.ae]) 3]<|
 r [aD (.call false (.c (.fn (.func ef) [] [])) [(t 3),(.c (.int .u8 34))]) 6]<|
 q (r [M 0 7,aD (.NY (t 7)) 8]<|
 .block 0 (.loop (r [aD (.NZ (t 8)) 9,E 9 0 10]<|
 q (c 10 k (.exit 0))<|
 .block 1 (r [E 9 2 11,M 11 5]<|
 q (r [M 5 12]<|
 .block 2 (q (.block 4 (.block 3 (q (q (r [aD (.bin .eql (t 12) (.c (.int .i32 34))) 14,M 14 13]<|
 c 13 (.exit 3) k)<|
 r [aD (.bin .eql (t 12) (.c (.int .i32 92))) 16,M 16 15]<|
 c 15 (.exit 4) k)<|
 .exit 2)))<|
 r [aD (.call false (.c (.fn (.func ef) [] [])) [(t 3),(.c (.int .u8 92))]) 17]<|
 .exit 2))<|
 R [M 5 18,C lQ [t 3,t 18] 19]))))<|
 r [aD (.call false (.c (.fn (.func ef) [] [])) [(t 3),(.c (.int .u8 34))]) 20]<|
 r [C kr [t 3] 21,M 21 2]<|
 .ret
def R_: Of Tryz.prog vN 22 [.tmp 2] Jj:=aZ ⟨[],[],[],[3],[],[]⟩ Tryz.func195
def By: aI:=r [V .ae 0]<|
 r [aD (.build [z0,e0,z0] [(0,1,(.c (i6 4))),(1,1,(.c (.str [43]))),(2,1,(.c (i6 4)))]) 1,aD (.build [z0,e0,z0] [(0,1,(.c (i6 5))),(1,1,(.c (.str [45]))),(2,1,(.c (i6 4)))]) 2,aD (.build [z0,e0,z0] [(0,1,(.c (i6 6))),(1,1,(.c (.str [42]))),(2,1,(.c (i6 5)))]) 3,aD (.build [z0,e0,z0] [(0,1,(.c (i6 7))),(1,1,(.c (.str [47]))),(2,1,(.c (i6 5)))]) 4,aD (.build [z0,e0,z0] [(0,1,(.c (i6 8))),(1,1,(.c (.str [61]))),(2,1,(.c (i6 3)))]) 5,aD (.build [z0,e0,z0] [(0,1,(.c (i6 9))),(1,1,(.c (.str [33,61]))),(2,1,(.c (i6 3)))]) 6,aD (.build [z0,e0,z0] [(0,1,(.c (i6 10))),(1,1,(.c (.str [60]))),(2,1,(.c (i6 3)))]) 7,aD (.build [z0,e0,z0] [(0,1,(.c (i6 11))),(1,1,(.c (.str [60,61]))),(2,1,(.c (i6 3)))]) 8,aD (.build [z0,e0,z0] [(0,1,(.c (i6 12))),(1,1,(.c (.str [62]))),(2,1,(.c (i6 3)))]) 9,aD (.build [z0,e0,z0] [(0,1,(.c (i6 13))),(1,1,(.c (.str [62,61]))),(2,1,(.c (i6 3)))]) 10,aD (.build [z0,e0,z0] [(0,1,(.c (i6 14))),(1,1,(.c (.str [97,110,100]))),(2,1,(.c (i6 2)))]) 11,aD (.build [z0,e0,z0] [(0,1,(.c (i6 15))),(1,1,(.c (.str [111,114]))),(2,1,(.c (i6 1)))]) 12,aD (.bK false ⟨true,3⟩ (.agg [z0,e0,z0]) 12 [(0,(t 1)),(1,(t 2)),(2,(t 3)),(3,(t 4)),(4,(t 5)),(5,(t 6)),(6,(t 7)),(7,(t 8)),(8,(t 9)),(9,(t 10)),(10,(t 11)),(11,(t 12))]) 13,M 13 0]<|
 .ret
def KV: Of Tryz.prog pB 14 [.tmp 0] By:=aZ {} Tryz.func197
def Gz: aI:=r [V (.bool false) 2]<|
 r [M 0 3,aD (.bin .geq (t 3) (.c (.int .u8 97))) 4,M 4 5,MT 0 6 5,⟨.bin .leq (t 6) (.c (.int .u8 122)),(some 7),some (5,true)⟩,P 5 7 8,M 8 9,MF 0 10 9,⟨.bin .geq (t 10) (.c (.int .u8 65)),(some 11),some (9,false)⟩,MF 11 12 9,MT 0 13 12,⟨.bin .leq (t 13) (.c (.int .u8 90)),(some 14),some (12,true)⟩,PF 12 14 15 9,O 9 15 16,M 16 17,MF 0 18 17,⟨.bin .eql (t 18) (.c (.int .u8 95)),(some 19),some (17,false)⟩,O 17 19 20,M 20 2]<|
 .ret
def P9: Of Tryz.prog ua 21 [.tmp 2] Gz:=aZ {} Tryz.func198
def Jk: aI:=r [V (.bool false) 2]<|
 r [M 0 3,aD (.bin .geq (t 3) (.c (.int .u8 48))) 4,M 4 5,MT 0 6 5,⟨.bin .leq (t 6) (.c (.int .u8 57)),(some 7),some (5,true)⟩,P 5 7 8,M 8 2]<|
 .ret
def Sb: Of Tryz.prog q8 9 [.tmp 2] Jk:=aZ {} Tryz.func199
def Jl: aI:=r [V (.bool false) 2]<|
 q (r [V z0 3]<|
 .block 0 (.loop (q (r [M 3 4,M 0 5,S 5 6,B .lss 4 6 7]<|
 c 7 k (.exit 0))<|
 q (.block 1 (r [M 0 10,M 3 11,aD (.gL (t 10) (t 11)) 12,aD (.bin .lss (t 12) (.c (.int .u8 32))) 13,M 13 14,MF 0 15 14,MF 3 16 14,⟨.gL (t 15) (t 16),(some 17),some (14,false)⟩,⟨.bin .gtr (t 17) (.c (.int .u8 126)),(some 18),some (14,false)⟩,O 14 18 19]<|
 c 19 (r [V (.bool false) 2]<|
 .ret) k))<|
 R [M 3 8,D .add 8 1 9,M 9 3])))<|
 r [M 0 20,S 20 21,D .leq 21 40 22,M 22 2]<|
 .ret
def Sc: Of Tryz.prog AZ 23 [.tmp 2] Jl:=aZ {} Tryz.func200
def xR: aI:=r [V z0 2]<|
 q (r [M 0 4,N 4 5,D .gtr 5 6 6]<|
 c 6 (r [V (i6 24) 2]<|
 .ret) k)<|
 q (r [V z0 3]<|
 .block 0 (.loop (q (r [M 3 7,M 0 8,N 8 9,B .lss 7 9 10]<|
 c 10 k (.exit 0))<|
 q (.block 1 (.block 2 (r [M 0 14,M 3 15,I true 3 14 15 16,A 0 16 17,K 17 18,C nw [t 18] 19,U 19 20,M 20 21,MF 0 22 21,MF 0 23 21,MF 3 24 21,IF true 3 23 24 25 21,AF 0 25 26 21,KF 26 27 21,CF BR [t 22,t 27] 28 21,MF 3 29 21,BF .lss 28 29 30 21,O 21 30 31,M 31 13]<|
 c 13 (r [V (i6 13) 2]<|
 .ret) (r [M 0 33,M 3 34,I true 3 33 34 35,A 1 35 36,K 36 37,D .lss 37 1 38,M 38 39,MF 0 40 39,MF 3 41 39,IF true 3 40 41 42 39,AF 1 42 43 39,KF 43 44 39,DF .gtr 44 3 45 39,O 39 45 46,M 46 32]<|
 c 32 (r [V (i6 14) 2]<|
 .ret) k))))<|
 R [M 3 11,D .add 11 1 12,M 12 3])))<|
 r [V z0 2]<|
 .ret
def Dy: Of Tryz.prog xA 47 [.tmp 2] xR:=aZ {} Tryz.func201
def Bh: aI:=r [X 0 2,V (.bool false) 4]<|
 q (r [M 1 7,U 7 8]<|
 c 8 (r [A 2 2 9,K 9 10,N 10 11,D .eql 11 0 12,M 12 4]<|
 .ret) k)<|
 q (r [V z0 5]<|
 .block 0 (.loop (q (r [M 5 13,A 2 2 14,K 14 15,N 15 16,B .lss 13 16 17]<|
 c 17 k (.exit 0))<|
 q (.block 1 (q (q (.draw [A 2 2 20,K 20 21,M 5 22,I true 3 21 22 23,L 3 23 24,Q oe [t 24] 25,U 25 26,M 26 27,AF 2 2 28 27,KF 28 29 27,MF 5 30 27,IF true 3 29 30 31 27,AF 0 31 32 27,KF 32 33 27,AF 1 2 34 27,KF 34 35 27,BF .neq 33 35 36 27,O 27 36 37] [])<|
 c 37 (r [V (.bool false) 4]<|
 .ret) k)<|
 r [V z0 6]<|
 .block 2 (.loop (q (r [M 6 38,M 5 39,B .lss 38 39 40]<|
 c 40 k (.exit 2))<|
 q (.block 3 (q (.draw [A 2 2 43,K 43 44,M 6 45,I true 3 44 45 46,L 3 46 47,A 2 2 48,K 48 49,M 5 50,I true 3 49 50 51,L 3 51 52,aD (.qd false true [.i,.i,.s] (t 47) (t 52)) 53] [])<|
 c 53 (r [V (.bool false) 4]<|
 .ret) k))<|
 R [M 6 41,D .add 41 1 42,M 42 6]))))<|
 R [M 5 18,D .add 18 1 19,M 19 5])))<|
 r [A 2 2 54,K 54 55,N 55 56,D .geq 56 1 57,M 57 58,AT 2 2 59 58,KT 59 60 58,NT 60 61 58,DT .leq 61 8 62 58,P 58 62 63,M 63 4]<|
 .ret
def GA: Of Tryz.prog A2 64 [.tmp 4] Bh:=aZ {} Tryz.func202
def Fu: aI:=r [V .ae 2,V z0 3,V z0 4]<|
 q (r [M 0 10,S 10 11,D .gtr 11 200 12]<|
 c 12 (r [V .ae 2,V z0 3,V (i6 5) 4]<|
 .ret) k)<|
 r [aD (.iZ ⟨true,4⟩) 5]<|
 q (r [V z0 6]<|
 .block 0 (.loop (q (r [M 6 13,M 0 14,S 14 15,B .lss 13 15 16]<|
 c 16 k (.exit 0))<|
 .block 1 (q (r [M 0 17,M 6 18,aD (.gL (t 17) (t 18)) 19,aD (.bin .eql (t 19) (.c (.int .u8 32))) 20]<|
 c 20 (r [M 6 21,D .add 21 1 22,M 22 6]<|
 .exit 1) k)<|
 r [M 0 24,M 6 25,aD (.pG (t 24) (some (t 25)) none) 26,C Fm [t 26] 27,M 27 23,E 23 0 28,E 23 1 29,E 23 2 30,J [z0,e0,z0,z0] 7,W 4 7 28,M 29 8,M 30 9]<|
 q (r [M 9 31,D .neq 31 0 32]<|
 c 32 (r [M 6 33,M 9 34,V .ae 2,M 33 3,M 34 4]<|
 .ret) k)<|
 r [M 6 35,A 3 7 36,W 1 36 35]<|
 r [M 5 37,L 4 7 38,aD (.bK false ⟨true,4⟩ (.agg [z0,e0,z0,z0]) 1 [(0,(t 38))]) 39,aD (.app none ⟨true,4⟩ (t 37) (t 39)) 40,M 40 5]<|
 R [M 6 41,M 8 42,B .add 41 42 43,M 43 6]))))<|
 r [M 5 44,M 44 2,V z0 3,V z0 4]<|
 .ret
def KW: Of Tryz.prog uZ 45 [.tmp 2,.tmp 3,.tmp 4] Fu:=aZ ⟨[],[],[(5,⟨true,4⟩)],[],[],[]⟩ Tryz.func203
def Bz: aI:=r [V (.bool false) 4]<|
 q (.draw [M 0 5,Z 5 6,A 2 6 7,K 7 8,U 8 9,M 9 10,MT 0 11 10,ZT 11 12 10,AT 1 12 13 10,KT 13 14 10,MT 0 15 10,ZT 15 16 10,AT 0 16 17 10,KT 17 18 10,NT 18 19 10,BT .lss 14 19 20 10,P 10 20 21,M 21 22,MT 0 23 22,ZT 23 24 22,AT 0 24 25 22,KT 25 26 22,MT 0 27 22,ZT 27 28 22,AT 1 28 29 22,KT 29 30 22,IT true 4 26 30 31 22,AT 0 31 32 22,KT 32 33 22,DT .eql 33 4 34 22,P 22 34 35,M 35 36,MT 0 37 36,ZT 37 38 36,AT 0 38 39 36,KT 39 40 36,MT 0 41 36,ZT 41 42 36,AT 1 42 43 36,KT 43 44 36,IT true 4 40 44 45 36,AT 1 45 46 36,KT 46 47 36,MT 1 48 36,BT .eql 47 48 49 36,P 36 49 50,M 50 4] [])<|
 .ret
def KX: Of Tryz.prog eC 51 [.tmp 4] Bz:=aZ {} Tryz.func204
def yD: aI:=r [J [z0,z0,z0,z0,e0,e0,.ae,z0,z0,z0,e0,e0,.ae,(.bool false),(.bool false)] 2]<|
 q (r [V (i6 2) 3]<|
 .block 0 (.loop (q (r [M 3 5,D .leq 5 5 6]<|
 c 6 k (.exit 0))<|
 q (.block 1 (r [M 0 9,M 3 10,C xx [t 10] 11,C eC [t 9,t 11] 12]<|
 c 12 (r [M 0 13,Z 13 14,A 1 14 15,K 15 16,D .add 16 1 17,Z 13 18,A 1 18 19,W 1 19 17]<|
 r [M 3 20,M 0 21,C jF [t 21] 22,aD (.build [z0,z0,z0,z0,e0,e0,.ae,z0,z0,z0,e0,e0,.ae,(.bool false),(.bool false)] [(0,1,(t 20)),(1,6,(t 22))]) 23,W 15 2 23]<|
 .ret) k))<|
 R [M 3 7,D .add 7 1 8,M 8 3])))<|
 q (r [M 0 24,aD (.call false (.c (.fn (.func eC) [] [])) [(t 24),(.c (.str [91]))]) 25,U 25 26,M 26 27,MT 0 28 27,⟨.call false (.c (.fn (.func eC) [] [])) [(t 28),(.c (.str [93]))],(some 29),some (27,true)⟩,UT 29 30 27,P 27 30 31]<|
 c 31 (r [M 0 32,C jF [t 32] 33,aD (.build [z0,z0,z0,z0,e0,e0,.ae,z0,z0,z0,e0,e0,.ae,(.bool false),(.bool false)] [(0,1,(.c (i6 1))),(1,6,(t 33))]) 34,W 15 2 34]<|
 .ret) k)<|
 r [M 0 35,aD (.call false (.c (.fn (.func eC) [] [])) [(t 35),(.c (.str [93]))]) 36,aD (.build [z0,z0,z0,z0,e0,e0,.ae,z0,z0,z0,e0,e0,.ae,(.bool false),(.bool false)] [(0,1,(.c (i6 6))),(13,1,(t 36))]) 37,J [z0,z0,z0,z0,e0,e0,.ae,z0,z0,z0,e0,e0,.ae,(.bool false),(.bool false)] 4,W 15 4 37]<|
 r [M 0 38,Z 38 39,A 1 39 40,K 40 41,D .add 41 1 42,Z 38 43,A 1 43 44,W 1 44 42]<|
 r [M 0 45,C jF [t 45] 46,A 1 4 47,W 6 47 46]<|
 q (r [M 0 48,Z 48 49,A 2 49 50,K 50 51,U 51 52]<|
 c 52 (R [M 0 53,aD (.call false (.c (.fn (.func jE) [] [])) [(t 53),(.c (.str [46,46]))]) 54]) k)<|
 r [M 0 55,C jF [t 55] 56,A 7 4 57,W 6 57 56]<|
 r [M 0 58,aD (.call false (.c (.fn (.func eC) [] [])) [(t 58),(.c (.str [91]))]) 59,A 14 4 60,W 1 60 59]<|
 q (r [A 14 4 61,K 61 62]<|
 c 62 (R [M 0 63,Z 63 64,A 1 64 65,K 65 66,D .add 66 1 67,Z 63 68,A 1 68 69,W 1 69 67]) (r [M 0 70,Z 70 71,A 2 71 72,K 72 73,U 73 74]<|
 c 74 (R [M 0 75,aD (.call false (.c (.fn (.func jE) [] [])) [(t 75),(.c (.str [93]))]) 76]) k))<|
 r [L 15 4 77,W 15 2 77]<|
 .ret
def HI: Of Tryz.prog jD 78 [.cell 2 true 15] yD:=aZ {} Tryz.func205
def yE: aI:=r [M 0 4,M 1 5,C eC [t 4,t 5] 6]<|
 c 6 (R [M 0 7,Z 7 8,A 1 8 9,K 9 10,D .add 10 1 11,Z 7 12,A 1 12 13,W 1 13 11]) (R [M 0 14,Z 14 15,A 2 15 16,⟨.store 1 (t 16) (.c (.bool true)),none,none⟩])
def HJ: Of Tryz.prog jE 17 [] yE:=aZ {} Tryz.func206
def KY: aI:=r [X 0 3,V (.bool false) 6]<|
 r [M 1 7,M 2 8,C fT [t 7,t 8] 9,M 9 10,AT 0 3 11 10,KT 11 12 10,DT .eql 12 1 13 10,MT 13 14 10,MF 1 15 14,DF .neq 15 3 16 14,MF 16 17 14,MT 2 18 17,DT .neq 18 3 19 17,PF 17 19 20 14,OT 14 20 21 10,P 10 21 22,M 22 6]<|
 .ret
def Ux: Of Tryz.prog xB 23 [.tmp 6] KY:=aZ {} Tryz.func207
def xS: aI:=r [J [z0,z0,z0,e0,e0,.ae] 6,V z0 7,V z0 8]<|
 q (r [M 1 11,D .lss 11 0 12,M 12 13,MF 1 14 13,MF 0 15 13,NF 15 16 13,BF .gtr 14 16 17 13,O 13 17 18,M 18 19,MF 2 20 19,DF .lss 20 0 21 19,O 19 21 22,M 22 23,MF 2 24 23,DF .gtr 24 7 25 23,O 23 25 26]<|
 c 26 (r [aD (.build [z0,z0,z0,e0,e0,.ae] []) 27,W 6 6 27,V z0 7,V (i6 2) 8]<|
 .ret) k)<|
 r [M 0 28,M 1 29,aD (.build [.ae,z0,(.bool false)] [(0,1,(t 28)),(1,1,(t 29))]) 30,X 30 31,M 31 9]<|
 r [M 9 32,M 2 33,C cq [t 32,t 33] 34,J [z0,z0,z0,e0,e0,.ae] 10,W 6 10 34]<|
 q (r [M 9 35,Z 35 36,A 2 36 37,K 37 38]<|
 c 38 (q (.draw [aD (.build [z0,z0,z0,e0,e0,.ae] []) 39,M 9 40,Z 40 41,A 1 41 42,K 42 43,W 6 6 39,M 43 7,V (i6 11) 8] [((t 42),(t 6))])<|
 .ret) k)<|
 q (.draw [L 6 10 44,M 9 45,Z 45 46,A 1 46 47,K 47 48,W 6 6 44,M 48 7,V z0 8] [((t 47),(t 6))])<|
 .ret
def Bi: Of Tryz.prog xC 49 [.cell 6 true 6,.tmp 7,.tmp 8] xS:=aZ {} Tryz.func208
def s_: aI:=r [X 0 2,V z0 4,V z0 5]<|
 q (r [A 0 2 11,K 11 12]<|
 .block 0 (r [D .eql 12 1 14,M 14 13]<|
 c 13 (r [A 1 2 15,A 0 15 16,K 16 17,M 17 4,V z0 5]<|
 .ret) (r [D .eql 12 2 19,M 19 18]<|
 c 18 (r [M 1 20,A 4 2 21,K 21 22,C BR [t 20,t 22] 23,M 23 6]<|
 q (r [M 6 24,D .lss 24 0 25]<|
 c 25 (r [V z0 4,V (i6 13) 5]<|
 .ret) k)<|
 r [M 1 26,M 6 27,I true 3 26 27 28,A 1 28 29,K 29 30,M 30 4,V z0 5]<|
 .ret) k)))<|
 r [aD (.iZ ⟨false,1⟩) 7]<|
 q (r [V z0 8]<|
 .block 1 (.loop (q (r [M 8 31,A 5 2 32,K 32 33,N 33 34,B .lss 31 34 35]<|
 c 35 k (.exit 1))<|
 q (.block 2 (r [A 5 2 39,K 39 40,M 8 41,I true 6 40 41 42,L 6 42 43,M 1 44,C xD [t 43,t 44] 45,M 45 38,E 38 0 46,E 38 1 47,M 46 9,M 47 10]<|
 q (r [M 10 48,D .neq 48 0 49]<|
 c 49 (r [M 10 50,V z0 4,M 50 5]<|
 .ret) k)<|
 R [M 7 51,M 9 52,aD (.bK false ⟨false,1⟩ z0 1 [(0,(t 52))]) 53,aD (.app none ⟨false,1⟩ (t 51) (t 53)) 54,M 54 7]))<|
 R [M 8 36,D .add 36 1 37,M 37 8])))<|
 r [A 0 2 55,K 55 56,M 7 57,C ud [t 56,t 57] 58,E 58 0 59,E 58 1 60,M 59 4,M 60 5]<|
 .ret
def vS: Of Tryz.prog xD 61 [.tmp 4,.tmp 5] s_:=aZ ⟨[],[],[(7,⟨false,1⟩)],[],[],[]⟩ Tryz.func209
def KZ: aI:=r [X 0 1,V (.bool false) 2]<|
 r [L 6 1 3,C oc [t 3] 4,M 4 5,LT 6 1 6 5,CT nx [t 6] 7 5,DT .leq 7 12 8 5,P 5 8 9,M 9 2]<|
 .ret
def Uy: Of Tryz.prog sQ 10 [.tmp 2] KZ:=aZ {} Tryz.func210
def K0: aI:=r [X 0 2,X 1 3,V (.bool false) 4]<|
 q (r [A 0 2 6,K 6 7,A 0 3 8,K 8 9,B .neq 7 9 10,M 10 11,AF 1 2 12 11,LF 3 12 13 11,AF 1 3 14 11,LF 3 14 15 11,⟨.qd true true [.i,.i,.s] (t 13) (t 15),(some 16),some (11,false)⟩,O 11 16 17,M 17 18,AF 4 2 19 18,KF 19 20 18,AF 4 3 21 18,KF 21 22 18,BF .neq 20 22 23 18,O 18 23 24,M 24 25,AF 5 2 26 25,KF 26 27 25,NF 27 28 25,AF 5 3 29 25,KF 29 30 25,NF 30 31 25,BF .neq 28 31 32 25,O 25 32 33]<|
 c 33 (r [V (.bool false) 4]<|
 .ret) k)<|
 q (r [V z0 5]<|
 .block 0 (.loop (q (r [M 5 34,A 5 2 35,K 35 36,N 36 37,B .lss 34 37 38]<|
 c 38 k (.exit 0))<|
 q (.block 1 (q (.draw [A 5 2 41,K 41 42,M 5 43,I true 6 42 43 44,L 6 44 45,A 5 3 46,K 46 47,M 5 48,I true 6 47 48 49,L 6 49 50,Q xE [t 45,t 50] 51,U 51 52] [])<|
 c 52 (r [V (.bool false) 4]<|
 .ret) k))<|
 R [M 5 39,D .add 39 1 40,M 40 5])))<|
 r [V (.bool true) 4]<|
 .ret
def Uz: Of Tryz.prog xE 53 [.tmp 4] K0:=aZ {} Tryz.func211
def nn: aI:=r [V e0 2]<|
 q (r [M 0 4,D .geq 4 (-9) 5,M 5 6,MT 0 7 6,DT .leq 7 9 8 6,P 6 8 9]<|
 c 9 (q (r [M 0 10,D .lss 10 0 11]<|
 c 11 (r [M 0 12,aD (.bin .sub (.c (i6 48)) (t 12)) 13,aD (.jP .u8 (t 13)) 14,aD (.bK false ⟨false,1⟩ (.int .u8 0) 1 [(0,(t 14))]) 15,aD (.wX (t 15)) 16,aD (.bin .add (.c (.str [45])) (t 16)) 17,M 17 2]<|
 .ret) k)<|
 r [M 0 18,aD (.bin .add (.c (i6 48)) (t 18)) 19,aD (.jP .u8 (t 19)) 20,aD (.bK false ⟨false,1⟩ (.int .u8 0) 1 [(0,(t 20))]) 21,aD (.wX (t 21)) 22,M 22 2]<|
 .ret) k)<|
 r [M 0 23,D .rem 23 10 24,M 24 3]<|
 q (r [M 3 25,D .lss 25 0 26]<|
 c 26 (R [M 3 27,aD (.un .neg (t 27)) 28,M 28 3]) k)<|
 q (.draw [M 0 29,D .quo 29 10 30,Q ni [t 30] 31,M 3 32,aD (.bin .add (.c (i6 48)) (t 32)) 33,aD (.jP .u8 (t 33)) 34,aD (.bK false ⟨false,1⟩ (.int .u8 0) 1 [(0,(t 34))]) 35,aD (.wX (t 35)) 36,B .add 31 36 37,M 37 2] [])<|
 .ret
def oL: Of Tryz.prog ni 38 [.tmp 2] nn:=aZ {} Tryz.func212
def Jm: aI:=r [V e0 2]<|
 r [V (.str [34]) 3]<|
 q (r [V z0 4]<|
 .block 0 (.loop (q (r [M 4 5,M 0 6,S 6 7,B .lss 5 7 8]<|
 c 8 k (.exit 0))<|
 q (.block 1 (q (r [M 0 11,M 4 12,aD (.gL (t 11) (t 12)) 13,aD (.bin .eql (t 13) (.c (.int .u8 34))) 14,M 14 15,MF 0 16 15,MF 4 17 15,⟨.gL (t 16) (t 17),(some 18),some (15,false)⟩,⟨.bin .eql (t 18) (.c (.int .u8 92)),(some 19),some (15,false)⟩,O 15 19 20]<|
 c 20 (R [M 3 21,aD (.bin .add (t 21) (.c (.str [92]))) 22,M 22 3]) k)<|
 R [M 3 23,M 0 24,M 4 25,M 4 26,D .add 26 1 27,aD (.pG (t 24) (some (t 25)) (some (t 27))) 28,B .add 23 28 29,M 29 3]))<|
 R [M 4 9,D .add 9 1 10,M 10 4])))<|
 r [M 3 30,aD (.bin .add (t 30) (.c (.str [34]))) 31,M 31 2]<|
 .ret
def Sd: Of Tryz.prog A3 32 [.tmp 2] Jm:=aZ {} Tryz.func213
def Nd: aI:=r [X 1 3,V z0 4]<|
 r [M 0 5,aD (.qu (.func vQ) [] [(t 3)]) 6,C j5 [t 5,t 6] 7,M 7 4]<|
 .ret
def VO: Of Tryz.prog zD 8 [.tmp 4] Nd:=aZ {} Tryz.func214
def sy: aI:=r [V z0 4]<|
 q (r [M 0 6,N 6 7,V z0 8]<|
 .block 0 (.loop (r [B .lss 8 7 9]<|
 q (c 9 k (.exit 0))<|
 q (.block 1 (r [M 8 10,M 10 5]<|
 r [M 1 11,M 0 12,M 5 13,I true 3 12 13 14,L 3 14 15,aD (.call false (t 11) [(t 15)]) 16]<|
 c 16 (r [M 5 17,M 17 4]<|
 .ret) k))<|
 R [D .add 8 1 18,M 18 8])))<|
 r [V (i6 (-1)) 4]<|
 .ret
def Bj: Of Tryz.prog j5 19 [.tmp 4] sy:=aZ {} Tryz.func215
def xU: aI:=r [X 1 3,V z0 4]<|
 q (r [M 0 6,N 6 7,V z0 8]<|
 .block 0 (.loop (r [B .lss 8 7 9]<|
 q (c 9 k (.exit 0))<|
 q (.block 1 (r [M 8 10,M 10 5]<|
 q (.draw [L 3 3 11,M 0 12,M 5 13,I true 3 12 13 14,L 3 14 15,aD (.qd false true [.i,.i,.s] (t 11) (t 15)) 16] [])<|
 c 16 (r [M 5 17,M 17 4]<|
 .ret) k))<|
 R [D .add 8 1 18,M 18 8])))<|
 r [V (i6 (-1)) 4]<|
 .ret
def GB: Of Tryz.prog qE 19 [.tmp 4] xU:=aZ {} Tryz.func216
def K1: aI:=r [V .ae 2,V z0 3,V z0 4]<|
 .scope 0 (q (r [M 0 9,S 9 10,D .gtr 10 200 11]<|
 c 11 (r [V .ae 2,V z0 3,V (i6 5) 4]<|
 .ret) k)<|
 r [aD (.iZ ⟨true,4⟩) 5]<|
 r [V z0 6]<|
 q (.label 0)<|
 q (.block 0 (.loop (.block 1 (q (.block 2 (.loop (q (r [M 6 12,M 0 13,S 13 14,B .lss 12 14 15,M 15 16,MT 0 17 16,MT 6 18 16,⟨.gL (t 17) (t 18),(some 19),some (16,true)⟩,⟨.bin .eql (t 19) (.c (.int .u8 32)),(some 20),some (16,true)⟩,P 16 20 21]<|
 c 21 k (.exit 2))<|
 .block 3 (R [M 6 22,D .add 22 1 23,M 23 6]))))<|
 q (r [M 6 24,M 0 25,S 25 26,B .eql 24 26 27]<|
 c 27 (.exit 0) k)<|
 r [M 0 29,M 6 30,aD (.pG (t 29) (some (t 30)) none) 31,C BS [t 31] 32,M 32 28,E 28 0 33,E 28 1 34,J [z0,e0,z0,z0,z0] 7,W 5 7 33,M 34 8]<|
 q (r [M 8 35,D .neq 35 0 36]<|
 c 36 (r [M 6 37,M 8 38,V .ae 2,M 37 3,M 38 4]<|
 .ret) k)<|
 r [M 6 39,A 0 7 40,A 3 40 41,W 1 41 39]<|
 r [M 5 42,A 0 7 43,L 4 43 44,aD (.bK false ⟨true,4⟩ (.agg [z0,e0,z0,z0]) 1 [(0,(t 44))]) 45,aD (.app none ⟨true,4⟩ (t 42) (t 45)) 46,M 46 5]<|
 R [M 6 47,A 4 7 48,K 48 49,B .add 47 49 50,M 50 6]))))<|
 r [M 5 51,M 51 2,V z0 3,V z0 4]<|
 .ret) (.seq k <|
 q (.block 0 (.loop (.block 1 (q (.block 2 (.loop (q (r [M 6 12,M 0 13,S 13 14,B .lss 12 14 15,M 15 16,MT 0 17 16,MT 6 18 16,⟨.gL (t 17) (t 18),(some 19),some (16,true)⟩,⟨.bin .eql (t 19) (.c (.int .u8 32)),(some 20),some (16,true)⟩,P 16 20 21]<|
 c 21 k (.exit 2))<|
 .block 3 (R [M 6 22,D .add 22 1 23,M 23 6]))))<|
 q (r [M 6 24,M 0 25,S 25 26,B .eql 24 26 27]<|
 c 27 (.exit 0) k)<|
 r [M 0 29,M 6 30,aD (.pG (t 29) (some (t 30)) none) 31,C BS [t 31] 32,M 32 28,E 28 0 33,E 28 1 34,J [z0,e0,z0,z0,z0] 7,W 5 7 33,M 34 8]<|
 q (r [M 8 35,D .neq 35 0 36]<|
 c 36 (r [M 6 37,M 8 38,V .ae 2,M 37 3,M 38 4]<|
 .ret) k)<|
 r [M 6 39,A 0 7 40,A 3 40 41,W 1 41 39]<|
 r [M 5 42,A 0 7 43,L 4 43 44,aD (.bK false ⟨true,4⟩ (.agg [z0,e0,z0,z0]) 1 [(0,(t 44))]) 45,aD (.app none ⟨true,4⟩ (t 42) (t 45)) 46,M 46 5]<|
 R [M 6 47,A 4 7 48,K 48 49,B .add 47 49 50,M 50 6]))))<|
 r [M 5 51,M 51 2,V z0 3,V z0 4]<|
 .ret)
def P_: Of Tryz.prog Er 52 [.tmp 2,.tmp 3,.tmp 4] K1:=aZ ⟨[],[],[(5,⟨true,4⟩)],[],[],[]⟩ Tryz.func217
def tc: aI:=r [V e0 2]<|
 q (q (.draw [M 0 3,Z 3 4,A 1 4 5,K 5 6,M 0 7,Z 7 8,A 0 8 9,K 9 10,N 10 11,B .lss 6 11 12,M 12 13,MT 0 14 13,ZT 14 15 13,AT 0 15 16 13,KT 16 17 13,MT 0 18 13,ZT 18 19 13,AT 1 19 20 13,KT 20 21 13,IT true 4 17 21 22 13,AT 0 22 23 13,KT 23 24 13,DT .eql 24 4 25 13,P 13 25 26] [])<|
 c 26 (q (.draw [M 0 27,Z 27 28,A 0 28 29,K 29 30,M 0 31,Z 31 32,A 1 32 33,K 33 34,I true 4 30 34 35,A 1 35 36,K 36 37,M 37 2] [])<|
 .ret) k)<|
 r [V e0 2]<|
 .ret
def yF: Of Tryz.prog lP 38 [.tmp 2] tc:=aZ {} Tryz.func218
def zZ: aI:=r [J [(.bool false),(.bool false),.ae] 2]<|
 r [J [(.bool false),(.bool false),.ae] 3]<|
 q (r [M 0 4,Z 4 5,A 0 5 6,A 0 6 7,K 7 8,C Hv [t 8] 9,A 1 3 10,W 1 10 9]<|
 r [A 1 3 11,K 11 12]<|
 c 12 (R [M 0 13,Z 13 14,A 0 14 15,A 1 15 16,⟨.store 1 (t 16) (.c (i6 2)),none,none⟩]) k)<|
 q (.block 0 (.loop (.block 1 (q (.draw [A 2 3 17,K 17 18,M 0 19,aD (.mL (.c (.fn (.func sS) [] [])) [(t 19)]) 20,aD (.bK false ⟨true,15⟩ (.agg [z0,z0,z0,z0,e0,e0,.ae,z0,z0,z0,e0,e0,.ae,(.bool false),(.bool false)]) 1 [(0,(t 20))]) 21,aD (.app none ⟨true,15⟩ (t 18) (t 21)) 22,A 2 3 23,W 1 23 22] [((t 17),(t 19))])<|
 r [M 0 24,aD (.call false (.c (.fn (.func iB) [] [])) [(t 24),(.c (.str [44]))]) 25,U 25 26]<|
 c 26 (.exit 0) k))))<|
 q (r [A 1 3 27,K 27 28]<|
 c 28 (R [M 0 29,aD (.call false (.c (.fn (.func lR) [] [])) [(t 29),(.c (.str [41]))]) 30]) k)<|
 r [L 3 3 31,W 3 2 31]<|
 .ret
def JN: Of Tryz.prog sR 32 [.cell 2 true 3] zZ:=aZ ⟨[],[],[],[],[20],[]⟩ Tryz.func219
def Dz: aI:=r [X 0 1,V .ae 2]<|
 q (r [A 0 1 3,K 3 4,D .eql 4 6 5]<|
 c 5 (r [A 1 1 6,L 6 6 7,A 7 1 8,L 6 8 9,aD (.bK false ⟨true,6⟩ (.agg [z0,z0,z0,e0,e0,.ae]) 2 [(0,(t 7)),(1,(t 9))]) 10,M 10 2]<|
 .ret) k)<|
 r [A 1 1 11,L 6 11 12,aD (.bK false ⟨true,6⟩ (.agg [z0,z0,z0,e0,e0,.ae]) 1 [(0,(t 12))]) 13,M 13 2]<|
 .ret
def Jn: Of Tryz.prog C7 14 [.tmp 2] Dz:=aZ {} Tryz.func220
def Nf: aI:=r [X 0 3,V (.bool false) 6]<|
 r [M 1 7,M 2 8,C jL [t 7,t 8] 9,M 9 10,AT 0 3 11 10,KT 11 12 10,DT .eql 12 1 13 10,MT 13 14 10,MF 1 15 14,DF .neq 15 3 16 14,MF 16 17 14,MT 2 18 17,DT .neq 18 3 19 17,PF 17 19 20 14,OT 14 20 21 10,P 10 21 22,M 22 6]<|
 .ret
def VP: Of Tryz.prog Fl 23 [.tmp 6] Nf:=aZ {} Tryz.func221
def vT: aI:=r [J [z0,z0,z0,e0,e0,.ae] 6,V z0 7,V z0 8]<|
 q (r [M 1 11,D .lss 11 0 12,M 12 13,MF 1 14 13,MF 0 15 13,NF 15 16 13,BF .gtr 14 16 17 13,O 13 17 18,M 18 19,MF 2 20 19,DF .lss 20 0 21 19,O 19 21 22,M 22 23,MF 2 24 23,DF .gtr 24 7 25 23,O 23 25 26]<|
 c 26 (r [aD (.build [z0,z0,z0,e0,e0,.ae] []) 27,W 6 6 27,V z0 7,V (i6 2) 8]<|
 .ret) k)<|
 r [M 0 28,M 1 29,aD (.build [.ae,z0,(.bool false)] [(0,1,(t 28)),(1,1,(t 29))]) 30,X 30 31,M 31 9]<|
 r [M 9 32,M 2 33,C cu [t 32,t 33] 34,J [z0,z0,z0,e0,e0,.ae] 10,W 6 10 34]<|
 q (r [M 9 35,Z 35 36,A 2 36 37,K 37 38]<|
 c 38 (q (.draw [aD (.build [z0,z0,z0,e0,e0,.ae] []) 39,M 9 40,Z 40 41,A 1 41 42,K 42 43,W 6 6 39,M 43 7,V (i6 11) 8] [((t 42),(t 6))])<|
 .ret) k)<|
 q (.draw [L 6 10 44,M 9 45,Z 45 46,A 1 46 47,K 47 48,W 6 6 44,M 48 7,V z0 8] [((t 47),(t 6))])<|
 .ret
def ze: Of Tryz.prog vO 49 [.cell 6 true 6,.tmp 7,.tmp 8] vT:=aZ {} Tryz.func222
def GC: aI:=r [X 0 1,V z0 2]<|
 q (r [L 6 1 3,C nh [t 3] 4,U 4 5]<|
 c 5 (r [V (i6 2) 2]<|
 .ret) k)<|
 r [V z0 2]<|
 .ret
def Qa: Of Tryz.prog uc 6 [.tmp 2] GC:=aZ {} Tryz.func223
def ri: aI:=r [X 0 2,V z0 4,V z0 5]<|
 q (r [A 0 2 14,K 14 15]<|
 .block 0 (r [D .eql 15 1 17,M 17 16]<|
 c 16 (r [A 1 2 18,A 0 18 19,K 19 20,M 20 4,V z0 5]<|
 .ret) (r [D .eql 15 2 22,M 22 21]<|
 c 21 (r [M 1 23,A 4 2 24,K 24 25,C zD [t 23,t 25] 26,M 26 6]<|
 q (r [M 6 27,D .lss 27 0 28]<|
 c 28 (r [V z0 4,V (i6 13) 5]<|
 .ret) k)<|
 r [M 1 29,M 6 30,I true 3 29 30 31,A 1 31 32,K 32 33,M 33 4,V z0 5]<|
 .ret) k)))<|
 r [aD (.iZ ⟨false,1⟩) 7]<|
 q (r [A 5 2 34,K 34 35,N 35 36,V z0 37]<|
 .block 1 (.loop (r [B .lss 37 36 38]<|
 q (c 38 k (.exit 1))<|
 q (.block 2 (r [I true 6 35 37 39,L 6 39 40,J [z0,z0,z0,e0,e0,.ae] 9,W 6 9 40]<|
 r [L 6 9 42,M 1 43,C vP [t 42,t 43] 44,M 44 41,E 41 0 45,E 41 1 46,M 45 10,M 46 11]<|
 q (r [M 11 47,D .neq 47 0 48]<|
 c 48 (r [M 11 49,V z0 4,M 49 5]<|
 .ret) k)<|
 R [M 7 50,M 10 51,aD (.bK false ⟨false,1⟩ z0 1 [(0,(t 51))]) 52,aD (.app none ⟨false,1⟩ (t 50) (t 52)) 53,M 53 7]))<|
 R [D .add 37 1 54,M 54 37])))<|
 r [A 0 2 56,K 56 57,M 7 58,C og [t 57,t 58] 59,M 59 55,E 55 0 60,E 55 1 61,M 60 12,M 61 13]<|
 q (r [M 13 62,U 62 63]<|
 c 63 (r [V z0 4,V (i6 14) 5]<|
 .ret) k)<|
 r [M 12 64,M 64 4,V z0 5]<|
 .ret
def ug: Of Tryz.prog vP 65 [.tmp 4,.tmp 5] ri:=aZ ⟨[],[],[(7,⟨false,1⟩)],[],[],[]⟩ Tryz.func224
def uG: aI:=r [V (.bool false) 6]<|
 q (r [M 0 10,N 10 11,M 1 12,N 12 13,B .neq 11 13 14]<|
 c 14 (r [V (.bool false) 6]<|
 .ret) k)<|
 q (r [M 0 15,N 15 16,V z0 17]<|
 .block 0 (.loop (r [B .lss 17 16 18]<|
 q (c 18 k (.exit 0))<|
 q (.block 1 (r [M 17 19,I true 6 15 17 20,L 6 20 21,J [z0,z0,z0,e0,e0,.ae] 8,M 19 7,W 6 8 21]<|
 r [M 1 22,M 7 23,I true 6 22 23 24,L 6 24 25,J [z0,z0,z0,e0,e0,.ae] 9,W 6 9 25]<|
 r [M 2 26,L 6 8 27,L 6 9 28,aD (.call false (t 26) [(t 27),(t 28)]) 29,U 29 30]<|
 c 30 (r [V (.bool false) 6]<|
 .ret) k))<|
 R [D .add 17 1 31,M 31 17])))<|
 r [V (.bool true) 6]<|
 .ret
def DA: Of Tryz.prog nY 32 [.tmp 6] uG:=aZ {} Tryz.func225
def qj: aI:=r [V z0 4,V .nS 5]<|
 r [M 0 7,C iq [t 7] 8]<|
 r [M 0 9,Z 9 10,A 1 10 11,K 11 12,N 12 13,M 13 6]<|
 r [M 0 14,M 0 15,Z 15 16,A 1 16 17,K 17 18,M 1 19,C mR [t 18,t 19] 20,Z 14 21,A 1 21 22,W 1 22 20]<|
 r [M 0 23,Z 23 24,A 1 24 25,K 25 26,N 26 27,M 6 28,B .sub 27 28 29,M 29 4,V .nS 5]<|
 .ret
def zf: Of Tryz.prog lQ 30 [.tmp 4,.tmp 5] qj:=aZ {} Tryz.func229
def Qb: aI:=r [V z0 4]<|
 q (r [V z0 5]<|
 .block 0 (.loop (q (r [M 5 6,M 0 7,N 7 8,B .lss 6 8 9]<|
 c 9 k (.exit 0))<|
 q (.block 1 (r [M 0 12,M 5 13,I true 3 12 13 14,A 0 14 15,K 15 16,M 1 17,B .eql 16 17 18]<|
 c 18 (r [M 5 19,M 19 4]<|
 .ret) k))<|
 R [M 5 10,D .add 10 1 11,M 11 5])))<|
 r [V (i6 (-1)) 4]<|
 .ret
def XC: Of Tryz.prog BR 20 [.tmp 4] Qb:=aZ {} Tryz.func231
def Ng: aI:=r [J [z0,e0,z0,z0] 2,V z0 3,V z0 4]<|
 q (.block 0 (r [M 0 8,aD (.gL (t 8) (.c z0)) 9,C ua [t 9] 10,M 10 7]<|
 c 7 (r [M 0 11,C C8 [t 11] 12,E 12 0 13,E 12 1 14,E 12 2 15,W 4 2 13,M 14 3,M 15 4]<|
 .ret) (r [M 0 17,aD (.gL (t 17) (.c z0)) 18,C q8 [t 18] 19,M 19 16]<|
 c 16 (r [M 0 20,C y6 [t 20] 21,E 21 0 22,E 21 1 23,E 21 2 24,W 4 2 22,M 23 3,M 24 4]<|
 .ret) (r [M 0 26,aD (.gL (t 26) (.c z0)) 27,aD (.bin .eql (t 27) (.c (.int .u8 34))) 28,M 28 25]<|
 c 25 (r [M 0 29,C C9 [t 29] 30,E 30 0 31,E 30 1 32,E 30 2 33,W 4 2 31,M 32 3,M 33 4]<|
 .ret) k))))<|
 r [C A4 [] 34,M 34 5]<|
 q (r [V z0 6]<|
 .block 1 (.loop (q (r [M 6 35,M 5 36,N 36 37,B .lss 35 37 38]<|
 c 38 k (.exit 1))<|
 q (.block 2 (q (.draw [M 5 41,M 6 42,I false 1 41 42 43,K 43 44,S 44 45,M 0 46,S 46 47,B .leq 45 47 48,M 48 49,MT 0 50 49,MT 5 51 49,MT 6 52 49,IT false 1 51 52 53 49,KT 53 54 49,ST 54 55 49,⟨.pG (t 50) none (some (t 55)),(some 56),some (49,true)⟩,MT 5 57 49,MT 6 58 49,IT false 1 57 58 59 49,KT 59 60 49,BT .eql 56 60 61 49,P 49 61 62] [])<|
 c 62 (q (.draw [M 5 63,M 6 64,I false 1 63 64 65,K 65 66,aD (.build [z0,e0,z0,z0] [(0,1,(.c (i6 4))),(1,1,(t 66))]) 67,M 5 68,M 6 69,I false 1 68 69 70,K 70 71,S 71 72,W 4 2 67,M 72 3,V z0 4] [((t 70),(t 2))])<|
 .ret) k))<|
 R [M 6 39,D .add 39 1 40,M 40 6])))<|
 r [aD (.build [z0,e0,z0,z0] []) 73,W 4 2 73,V z0 3,V (i6 11) 4]<|
 .ret
def VQ: Of Tryz.prog Fm 74 [.cell 2 true 4,.tmp 3,.tmp 4] Ng:=aZ {} Tryz.func232
def rZ: aI:=r [J [z0,z0,z0,e0,e0,.ae] 2]<|
 q (r [M 0 6,Z 6 7,A 2 7 8,K 8 9]<|
 c 9 (r [aD (.build [z0,z0,z0,e0,e0,.ae] []) 10,W 6 2 10]<|
 .ret) k)<|
 q (.draw [M 0 12,Z 12 13,A 0 13 14,K 14 15,M 0 16,Z 16 17,A 1 17 18,K 18 19,aD (.call true (.c (.fn (.func xC) [] [])) [(t 15),(t 19),(.c (i6 4))]) 20,M 20 11,E 11 0 21,E 11 1 22,E 11 2 23,J [z0,z0,z0,e0,e0,.ae] 3,W 6 3 21,M 22 4,M 23 5] [])<|
 r [M 0 24,M 4 25,Z 24 26,A 1 26 27,W 1 27 25]<|
 r [M 0 28,M 5 29,D .neq 29 0 30,Z 28 31,A 2 31 32,W 1 32 30]<|
 r [L 6 3 33,W 6 2 33]<|
 .ret
def xV: Of Tryz.prog jF 34 [.cell 2 true 6] rZ:=aZ {} Tryz.func233
def gQ: aI:=r [J [z0,z0,z0,e0,e0,.ae] 4]<|
 q (.block 0 (r [M 0 11,Z 11 12,A 2 12 13,K 13 14,M 14 15,MF 1 16 15,DF .eql 16 7 17 15,O 15 17 18,M 18 10]<|
 c 10 (r [M 0 19,C mS [t 19] 20,W 6 4 20]<|
 .ret) (r [M 1 22,D .eql 22 0 23,M 23 24,MT 0 25 24,⟨.call false (.c (.fn (.func fD) [] [])) [(t 25),(.c (i6 1)),(.c (.str [105,102]))],(some 26),some (24,true)⟩,P 24 26 27,M 27 21]<|
 c 21 (r [M 0 28,Z 28 29,A 1 29 30,K 30 31,D .add 31 1 32,Z 28 33,A 1 33 34,W 1 34 32]<|
 r [M 0 35,aD (.call false (.c (.fn (.func cq) [] [])) [(t 35),(.c z0)]) 36,J [z0,z0,z0,e0,e0,.ae] 5,W 6 5 36]<|
 r [M 0 37,aD (.call false (.c (.fn (.func kW) [] [])) [(t 37),(.c (i6 1)),(.c (.str [116,104,101,110]))]) 38]<|
 r [M 0 39,aD (.call false (.c (.fn (.func cq) [] [])) [(t 39),(.c z0)]) 40,J [z0,z0,z0,e0,e0,.ae] 6,W 6 6 40]<|
 r [M 0 41,aD (.call false (.c (.fn (.func kW) [] [])) [(t 41),(.c (i6 1)),(.c (.str [101,108,115,101]))]) 42]<|
 r [M 0 43,aD (.call false (.c (.fn (.func cq) [] [])) [(t 43),(.c z0)]) 44,J [z0,z0,z0,e0,e0,.ae] 7,W 6 7 44]<|
 r [L 6 5 45,L 6 6 46,L 6 7 47,aD (.bK false ⟨true,6⟩ (.agg [z0,z0,z0,e0,e0,.ae]) 3 [(0,(t 45)),(1,(t 46)),(2,(t 47))]) 48,aD (.build [z0,z0,z0,e0,e0,.ae] [(0,1,(.c (i6 16))),(5,1,(t 48))]) 49,W 6 4 49]<|
 .ret) (r [M 1 51,D .eql 51 6 52,M 52 53,MT 0 54 53,⟨.call false (.c (.fn (.func fD) [] [])) [(t 54),(.c (i6 4)),(.c (.str [45]))],(some 55),some (53,true)⟩,P 53 55 56,M 56 50]<|
 c 50 (r [M 0 57,Z 57 58,A 1 58 59,K 59 60,D .add 60 1 61,Z 57 62,A 1 62 63,W 1 63 61]<|
 r [M 0 64,aD (.call false (.c (.fn (.func cq) [] [])) [(t 64),(.c (i6 6))]) 65,aD (.bK false ⟨true,6⟩ (.agg [z0,z0,z0,e0,e0,.ae]) 1 [(0,(t 65))]) 66,aD (.build [z0,z0,z0,e0,e0,.ae] [(0,1,(.c (i6 3))),(5,1,(t 66))]) 67,W 6 4 67]<|
 .ret) (r [M 1 69,D .eql 69 0 70,M 70 71,MF 1 72 71,DF .eql 72 6 73 71,O 71 73 74,M 74 68]<|
 c 68 (r [M 0 75,M 1 76,D .add 76 1 77,C cq [t 75,t 77] 78,W 6 4 78]<|
 .ret) k)))))<|
 r [M 0 79,M 1 80,D .add 80 1 81,C cq [t 79,t 81] 82,J [z0,z0,z0,e0,e0,.ae] 8,W 6 8 82]<|
 q (.block 1 (.loop (q (r [M 0 83,Z 83 84,A 2 84 85,K 85 86,U 86 87]<|
 c 87 k (.exit 1))<|
 .block 2 (r [M 0 88,M 1 89,C uP [t 88,t 89] 90,M 90 9]<|
 q (r [M 9 91,D .eql 91 0 92]<|
 c 92 (r [L 6 8 93,W 6 4 93]<|
 .ret) k)<|
 r [M 0 94,Z 94 95,A 1 95 96,K 96 97,D .add 97 1 98,Z 94 99,A 1 99 100,W 1 100 98]<|
 q (.draw [M 9 101,L 6 8 102,M 0 103,M 1 104,D .add 104 1 105,aD (.mL (.c (.fn (.func cq) [] [])) [(t 103),(t 105)]) 106,aD (.bK false ⟨true,6⟩ (.agg [z0,z0,z0,e0,e0,.ae]) 2 [(0,(t 102)),(1,(t 106))]) 107,aD (.build [z0,z0,z0,e0,e0,.ae] [(0,1,(t 101)),(5,1,(t 107))]) 108,W 6 8 108] [((t 8),(t 103))])<|
 r [M 1 109,D .eql 109 3 110]<|
 c 110 (r [L 6 8 111,W 6 4 111]<|
 .ret) k))))<|
 r [L 6 8 112,W 6 4 112]<|
 .ret
def iD: Of Tryz.prog cq 113 [.cell 4 true 6] gQ:=aZ ⟨[],[],[],[],[106],[]⟩ Tryz.func234
def BX: aI:=r [V z0 4,V z0 5]<|
 r [V (.bool false) 6]<|
 r [V (i6 3) 7]<|
 q (r [M 0 8]<|
 .block 0 (r [D .eql 8 3 10,M 10 9]<|
 c 9 (r [M 1 11,aD (.cz ⟨false,1⟩ none (t 11) (.c z0)) 12,K 12 13,aD (.call false (.c (.fn (.func fT) [] [])) [(t 13),(.c (i6 1))]) 14,M 14 6]<|
 R [V (i6 1) 7]) (q (r [D .eql 8 5 16,M 16 15]<|
 c 15 k (r [D .eql 8 6 17,M 17 15]<|
 c 15 k (R [D .eql 8 7 18,M 18 15])))<|
 c 15 (r [M 1 19,aD (.cz ⟨false,1⟩ none (t 19) (.c z0)) 20,K 20 21,aD (.call false (.c (.fn (.func fT) [] [])) [(t 21),(.c (i6 1))]) 22,M 22 23,MT 1 24 23,⟨.cz ⟨false,1⟩ none (t 24) (.c (i6 1)),(some 25),some (23,true)⟩,KT 25 26 23,⟨.call false (.c (.fn (.func fT) [] [])) [(t 26),(.c (i6 1))],(some 27),some (23,true)⟩,P 23 27 28,M 28 6]<|
 R [V (i6 1) 7]) (r [D .eql 8 4 30,M 30 29]<|
 c 29 (r [V (i6 1) 7]<|
 q (q (.draw [M 1 31,aD (.cz ⟨false,1⟩ none (t 31) (.c z0)) 32,K 32 33,M 1 34,aD (.cz ⟨false,1⟩ none (t 34) (.c (i6 1))) 35,K 35 36,Q BU [t 33,t 36] 37,D .eql 37 2 38] [])<|
 c 38 (R [V (i6 2) 7]) k)<|
 R [M 1 39,aD (.cz ⟨false,1⟩ none (t 39) (.c z0)) 40,K 40 41,M 7 42,C fT [t 41,t 42] 43,M 43 44,MT 1 45 44,⟨.cz ⟨false,1⟩ none (t 45) (.c (i6 1)),(some 46),some (44,true)⟩,KT 46 47 44,MT 7 48 44,CT fT [t 47,t 48] 49 44,P 44 49 50,M 50 6]) (q (r [D .eql 8 8 52,M 52 51]<|
 c 51 k (R [D .eql 8 9 53,M 53 51]))<|
 c 51 (.draw [M 1 54,aD (.cz ⟨false,1⟩ none (t 54) (.c z0)) 55,K 55 56,M 1 57,aD (.cz ⟨false,1⟩ none (t 57) (.c (i6 1))) 58,K 58 59,Q fT [t 56,t 59] 60,M 60 6] []) (q (r [D .eql 8 10 62,M 62 61]<|
 c 61 k (r [D .eql 8 11 63,M 63 61]<|
 c 61 k (r [D .eql 8 12 64,M 64 61]<|
 c 61 k (R [D .eql 8 13 65,M 65 61]))))<|
 c 61 (.draw [M 1 66,aD (.cz ⟨false,1⟩ none (t 66) (.c z0)) 67,K 67 68,M 1 69,aD (.cz ⟨false,1⟩ none (t 69) (.c (i6 1))) 70,K 70 71,Q fT [t 68,t 71] 72,M 72 73,MT 1 74 73,⟨.cz ⟨false,1⟩ none (t 74) (.c z0),(some 75),some (73,true)⟩,KT 75 76 73,DT .neq 76 3 77 73,P 73 77 78,M 78 79,MT 1 80 79,⟨.cz ⟨false,1⟩ none (t 80) (.c (i6 1)),(some 81),some (79,true)⟩,KT 81 82 79,DT .neq 82 3 83 79,P 79 83 84,M 84 6] []) (q (r [D .eql 8 14 86,M 86 85]<|
 c 85 k (R [D .eql 8 15 87,M 87 85]))<|
 c 85 (R [M 1 88,aD (.cz ⟨false,1⟩ none (t 88) (.c z0)) 89,K 89 90,aD (.call false (.c (.fn (.func fT) [] [])) [(t 90),(.c (i6 3))]) 91,M 91 92,MT 1 93 92,⟨.cz ⟨false,1⟩ none (t 93) (.c (i6 1)),(some 94),some (92,true)⟩,KT 94 95 92,⟨.call false (.c (.fn (.func fT) [] [])) [(t 95),(.c (i6 3))],(some 96),some (92,true)⟩,P 92 96 97,M 97 6]) (r [D .eql 8 16 99,M 99 98]<|
 c 98 (q (.draw [M 1 100,aD (.cz ⟨false,1⟩ none (t 100) (.c z0)) 101,K 101 102,aD (.call true (.c (.fn (.func fT) [] [])) [(t 102),(.c (i6 3))]) 103,M 103 104,MT 1 105 104,⟨.cz ⟨false,1⟩ none (t 105) (.c (i6 1)),(some 106),some (104,true)⟩,KT 106 107 104,MT 1 108 104,⟨.cz ⟨false,1⟩ none (t 108) (.c (i6 2)),(some 109),some (104,true)⟩,KT 109 110 104,QT fT [t 107,t 110] 111 104,P 104 111 112,M 112 6] [])<|
 .draw [M 1 113,aD (.cz ⟨false,1⟩ none (t 113) (.c (i6 1))) 114,K 114 115,M 1 116,aD (.cz ⟨false,1⟩ none (t 116) (.c (i6 2))) 117,K 117 118,Q BU [t 115,t 118] 119,M 119 7] []) (R [V (.bool false) 6])))))))))<|
 q (r [M 6 120,U 120 121]<|
 c 121 (r [V z0 4,V (i6 14) 5]<|
 .ret) k)<|
 r [M 7 122,M 122 4,V z0 5]<|
 .ret
def Fv: Of Tryz.prog ud 123 [.tmp 4,.tmp 5] BX:=aZ {} Tryz.func235
def Jo: aI:=r [X 0 2,V (.bool false) 3]<|
 r [A 0 2 4,K 4 5,K 1 6,B .eql 5 6 7,M 7 3]<|
 .ret
def Se: Of Tryz.prog vQ 8 [.tmp 3] Jo:=aZ {} Tryz.func236
def Qc: aI:=r [J [z0,e0,z0,z0,z0] 2,V z0 3]<|
 q (r [M 0 5,aD (.gL (t 5) (.c z0)) 6,M 6 4]<|
 .block 0 (r [M 4 8,C sO [t 8] 9,M 9 7]<|
 c 7 (r [M 0 10,C Hw [t 10] 11,E 11 0 12,E 11 1 13,W 5 2 12,M 13 3]<|
 .ret) (r [M 4 15,C rL [t 15] 16,M 16 14]<|
 c 14 (r [M 0 17,C C_ [t 17] 18,E 18 0 19,E 18 1 20,W 5 2 19,M 20 3]<|
 .ret) (r [M 4 22,aD (.bin .eql (t 22) (.c (.int .u8 34))) 23,M 23 21]<|
 c 21 (r [M 0 24,C Hx [t 24] 25,E 25 0 26,E 25 1 27,W 5 2 26,M 27 3]<|
 .ret) k))))<|
 r [M 0 28,C Hy [t 28] 29,E 29 0 30,E 29 1 31,W 5 2 30,M 31 3]<|
 .ret
def XD: Of Tryz.prog BS 32 [.cell 2 true 5,.tmp 3] Qc:=aZ {} Tryz.func237
def Qd: aI:=r [V (.bool false) 2]<|
 r [M 0 3,N 3 4,D .gtr 4 1 5,M 5 6,MT 0 7 6,⟨.cz ⟨true,4⟩ none (t 7) (.c z0),(some 8),some (6,true)⟩,AT 0 8 9 6,KT 9 10 6,DT .eql 10 1 11 6,P 6 11 12,M 12 13,MT 0 14 13,⟨.cz ⟨true,4⟩ none (t 14) (.c z0),(some 15),some (13,true)⟩,AT 1 15 16 13,KT 16 17 13,⟨.bin .eql (t 17) (.c (.str [110,111,116])),(some 18),some (13,true)⟩,P 13 18 19,M 19 20,MT 0 21 20,⟨.cz ⟨true,4⟩ none (t 21) (.c (i6 1)),(some 22),some (20,true)⟩,AT 0 22 23 20,KT 23 24 20,DT .eql 24 4 25 20,P 20 25 26,M 26 27,MT 0 28 27,⟨.cz ⟨true,4⟩ none (t 28) (.c (i6 1)),(some 29),some (27,true)⟩,AT 1 29 30 27,KT 30 31 27,⟨.bin .eql (t 31) (.c (.str [40])),(some 32),some (27,true)⟩,P 27 32 33,M 33 2]<|
 .ret
def XE: Of Tryz.prog Hv 34 [.tmp 2] Qd:=aZ {} Tryz.func238
def z_: aI:=r [J [z0,z0,z0,z0,e0,e0,.ae,z0,z0,z0,e0,e0,.ae,(.bool false),(.bool false)] 2]<|
 q (r [V (i6 2) 3]<|
 .block 0 (.loop (q (r [M 3 5,D .leq 5 5 6]<|
 c 6 k (.exit 0))<|
 q (.block 1 (r [M 0 9,M 3 10,C zC [t 10] 11,C iB [t 9,t 11] 12]<|
 c 12 (r [M 3 13,M 0 14,C jY [t 14] 15,aD (.build [z0,z0,z0,z0,e0,e0,.ae,z0,z0,z0,e0,e0,.ae,(.bool false),(.bool false)] [(0,1,(t 13)),(1,6,(t 15))]) 16,W 15 2 16]<|
 .ret) k))<|
 R [M 3 7,D .add 7 1 8,M 8 3])))<|
 r [M 0 17,Z 17 18,A 0 18 19,C lP [t 19] 20,aD (.bin .eql (t 20) (.c (.str [93]))) 21,aD (.build [z0,z0,z0,z0,e0,e0,.ae,z0,z0,z0,e0,e0,.ae,(.bool false),(.bool false)] [(0,1,(.c (i6 6))),(13,1,(t 21))]) 22,J [z0,z0,z0,z0,e0,e0,.ae,z0,z0,z0,e0,e0,.ae,(.bool false),(.bool false)] 4,W 15 4 22]<|
 q (r [M 0 23,aD (.call false (.c (.fn (.func iB) [] [])) [(t 23),(.c (.str [91]))]) 24,U 24 25,M 25 26,MT 0 27 26,⟨.call false (.c (.fn (.func iB) [] [])) [(t 27),(.c (.str [93]))],(some 28),some (26,true)⟩,UT 28 29 26,P 26 29 30]<|
 c 30 (r [M 0 31,C jY [t 31] 32,aD (.build [z0,z0,z0,z0,e0,e0,.ae,z0,z0,z0,e0,e0,.ae,(.bool false),(.bool false)] [(0,1,(.c (i6 1))),(1,6,(t 32))]) 33,W 15 2 33]<|
 .ret) k)<|
 r [M 0 34,C jY [t 34] 35,A 1 4 36,W 6 36 35]<|
 r [M 0 37,aD (.call false (.c (.fn (.func lR) [] [])) [(t 37),(.c (.str [46,46]))]) 38]<|
 r [M 0 39,C jY [t 39] 40,A 7 4 41,W 6 41 40]<|
 q (r [M 0 42,aD (.call false (.c (.fn (.func iB) [] [])) [(t 42),(.c (.str [91]))]) 43,A 14 4 44,W 1 44 43]<|
 r [A 14 4 45,K 45 46,U 46 47]<|
 c 47 (R [M 0 48,aD (.call false (.c (.fn (.func lR) [] [])) [(t 48),(.c (.str [93]))]) 49]) k)<|
 r [L 15 4 50,W 15 2 50]<|
 .ret
def JO: Of Tryz.prog sS 51 [.cell 2 true 15] z_:=aZ {} Tryz.func239
def DB: aI:=r [V (.bool false) 4]<|
 q (r [M 0 5,Z 5 6,A 2 6 7,K 7 8,M 8 9,MF 0 10 9,ZF 10 11 9,AF 0 11 12 9,CF lP [t 12] 13 9,MF 1 14 9,BF .neq 13 14 15 9,O 9 15 16]<|
 c 16 (r [V (.bool false) 4]<|
 .ret) k)<|
 r [M 0 17,Z 17 18,A 0 18 19,A 1 19 20,K 20 21,D .add 21 1 22,Z 17 23,A 0 23 24,A 1 24 25,W 1 25 22]<|
 r [V (.bool true) 4]<|
 .ret
def MU: Of Tryz.prog iB 26 [.tmp 4] DB:=aZ {} Tryz.func240
def Aa: aI:=r [M 0 4,M 1 5,C iB [t 4,t 5] 6,U 6 7]<|
 c 7 (R [M 0 8,Z 8 9,A 2 9 10,⟨.store 1 (t 10) (.c (.bool true)),none,none⟩]) k
def JP: Of Tryz.prog lR 11 [] Aa:=aZ {} Tryz.func241
def eW: aI:=r [J [z0,z0,z0,e0,e0,.ae] 4]<|
 .scope 0 (q (.block 0 (r [M 0 8,Z 8 9,A 2 9 10,K 10 11,M 11 7]<|
 c 7 (r [aD (.build [z0,z0,z0,e0,e0,.ae] []) 12,W 6 4 12]<|
 .ret) (r [M 1 14,D .eql 14 0 15,M 15 16,MT 0 17 16,⟨.call false (.c (.fn (.func iu) [] [])) [(t 17),(.c (i6 1)),(.c (.str [105,102]))],(some 18),some (16,true)⟩,P 16 18 19,M 19 13]<|
 c 13 (r [M 0 20,C oW [t 20] 21,W 6 4 21]<|
 .ret) (r [M 1 23,D .eql 23 0 24,M 24 22]<|
 c 22 (r [M 0 25,aD (.call false (.c (.fn (.func cu) [] [])) [(t 25),(.c (i6 1))]) 26,W 6 4 26]<|
 .ret) (r [M 1 28,D .eql 28 6 29,M 29 30,MT 0 31 30,⟨.call false (.c (.fn (.func iu) [] [])) [(t 31),(.c (i6 4)),(.c (.str [45]))],(some 32),some (30,true)⟩,P 30 32 33,M 33 27]<|
 c 27 (r [M 0 34,aD (.call false (.c (.fn (.func cu) [] [])) [(t 34),(.c (i6 6))]) 35,aD (.bK false ⟨true,6⟩ (.agg [z0,z0,z0,e0,e0,.ae]) 1 [(0,(t 35))]) 36,aD (.build [z0,z0,z0,e0,e0,.ae] [(0,1,(.c (i6 3))),(5,1,(t 36))]) 37,W 6 4 37]<|
 .ret) (r [M 1 39,D .geq 39 6 40,M 40 38]<|
 c 38 (r [M 0 41,C qF [t 41] 42,W 6 4 42]<|
 .ret) k))))))<|
 r [M 0 43,M 1 44,D .add 44 1 45,C cu [t 43,t 45] 46,J [z0,z0,z0,e0,e0,.ae] 5,W 6 5 46]<|
 q (.label 0)<|
 r [M 0 47,M 1 48,C lH [t 47,t 48] 49,M 49 6]<|
 q (r [M 6 50,D .eql 50 0 51]<|
 c 51 (r [L 6 5 52,W 6 4 52]<|
 .ret) k)<|
 q (.draw [M 6 53,L 6 5 54,M 0 55,M 1 56,D .add 56 1 57,aD (.mL (.c (.fn (.func cu) [] [])) [(t 55),(t 57)]) 58,aD (.bK false ⟨true,6⟩ (.agg [z0,z0,z0,e0,e0,.ae]) 2 [(0,(t 54)),(1,(t 58))]) 59,aD (.build [z0,z0,z0,e0,e0,.ae] [(0,1,(t 53)),(5,1,(t 59))]) 60,W 6 5 60] [((t 5),(t 55))])<|
 q (r [M 1 61,D .neq 61 3 62,M 62 63,MT 0 64 63,ZT 64 65 63,AT 2 65 66 63,KT 66 67 63,UT 67 68 63,P 63 68 69]<|
 c 69 (.goto 0) k)<|
 r [L 6 5 70,W 6 4 70]<|
 .ret) (.seq k <|
 r [M 0 47,M 1 48,C lH [t 47,t 48] 49,M 49 6]<|
 q (r [M 6 50,D .eql 50 0 51]<|
 c 51 (r [L 6 5 52,W 6 4 52]<|
 .ret) k)<|
 q (.draw [M 6 53,L 6 5 54,M 0 55,M 1 56,D .add 56 1 57,aD (.mL (.c (.fn (.func cu) [] [])) [(t 55),(t 57)]) 58,aD (.bK false ⟨true,6⟩ (.agg [z0,z0,z0,e0,e0,.ae]) 2 [(0,(t 54)),(1,(t 58))]) 59,aD (.build [z0,z0,z0,e0,e0,.ae] [(0,1,(t 53)),(5,1,(t 59))]) 60,W 6 5 60] [((t 5),(t 55))])<|
 q (r [M 1 61,D .neq 61 3 62,M 62 63,MT 0 64 63,ZT 64 65 63,AT 2 65 66 63,KT 66 67 63,UT 67 68 63,P 63 68 69]<|
 c 69 (.goto 0) k)<|
 r [L 6 5 70,W 6 4 70]<|
 .ret)
def fm: Of Tryz.prog cu 71 [.cell 4 true 6] eW:=aZ ⟨[],[],[],[],[58],[]⟩ Tryz.func242
def vU: aI:=r [V z0 4,V (.bool false) 5]<|
 q (r [M 0 7]<|
 .block 0 (q (r [D .eql 7 3 9,M 9 8]<|
 c 8 k (r [D .eql 7 5 10,M 10 8]<|
 c 8 k (r [D .eql 7 6 11,M 11 8]<|
 c 8 k (R [D .eql 7 7 12,M 12 8]))))<|
 c 8 (r [M 1 13,aD (.call false (.c (.fn (.func sU) [] [])) [(.c (i6 1)),(t 13)]) 14,V (i6 1) 4,M 14 5]<|
 .ret) (r [D .eql 7 4 16,M 16 15]<|
 c 15 (q (.draw [M 1 17,aD (.cz ⟨false,1⟩ none (t 17) (.c z0)) 18,K 18 19,M 1 20,aD (.cz ⟨false,1⟩ none (t 20) (.c (i6 1))) 21,K 21 22,Q mT [t 19,t 22] 23,M 23 6] [])<|
 q (r [M 6 24,D .neq 24 2 25]<|
 c 25 (R [V (i6 1) 6]) k)<|
 r [M 6 26,M 6 27,M 1 28,C sU [t 27,t 28] 29,M 26 4,M 29 5]<|
 .ret) (q (r [D .eql 7 8 31,M 31 30]<|
 c 30 k (R [D .eql 7 9 32,M 32 30]))<|
 c 30 (q (.draw [M 1 33,aD (.cz ⟨false,1⟩ none (t 33) (.c z0)) 34,K 34 35,M 1 36,aD (.cz ⟨false,1⟩ none (t 36) (.c (i6 1))) 37,K 37 38,Q jL [t 35,t 38] 39,V (i6 3) 4,M 39 5] [])<|
 .ret) (q (r [D .eql 7 10 41,M 41 40]<|
 c 40 k (r [D .eql 7 11 42,M 42 40]<|
 c 40 k (r [D .eql 7 12 43,M 43 40]<|
 c 40 k (R [D .eql 7 13 44,M 44 40]))))<|
 c 40 (q (.draw [M 1 45,aD (.cz ⟨false,1⟩ none (t 45) (.c z0)) 46,K 46 47,M 1 48,aD (.cz ⟨false,1⟩ none (t 48) (.c (i6 1))) 49,K 49 50,Q jL [t 47,t 50] 51,M 51 52,MT 1 53 52,⟨.call true (.c (.fn (.func oX) [] [])) [(t 53),(.c (i6 3))],(some 54),some (52,true)⟩,UT 54 55 52,P 52 55 56,V (i6 3) 4,M 56 5] [])<|
 .ret) (q (r [D .eql 7 14 58,M 58 57]<|
 c 57 k (R [D .eql 7 15 59,M 59 57]))<|
 c 57 (r [M 1 60,aD (.call false (.c (.fn (.func sU) [] [])) [(.c (i6 3)),(t 60)]) 61,V (i6 3) 4,M 61 5]<|
 .ret) k))))))<|
 q (.draw [M 1 62,aD (.cz ⟨false,1⟩ none (t 62) (.c (i6 1))) 63,K 63 64,M 1 65,aD (.cz ⟨false,1⟩ none (t 65) (.c (i6 2))) 66,K 66 67,Q mT [t 64,t 67] 68,M 1 69,aD (.cz ⟨false,1⟩ none (t 69) (.c z0)) 70,K 70 71,aD (.call true (.c (.fn (.func jL) [] [])) [(t 71),(.c (i6 3))]) 72,M 72 73,MT 1 74 73,⟨.cz ⟨false,1⟩ none (t 74) (.c (i6 1)),(some 75),some (73,true)⟩,KT 75 76 73,MT 1 77 73,⟨.cz ⟨false,1⟩ none (t 77) (.c (i6 2)),(some 78),some (73,true)⟩,KT 78 79 73,QT jL [t 76,t 79] 80 73,P 73 80 81,M 68 4,M 81 5] [])<|
 .ret
def zg: Of Tryz.prog og 82 [.tmp 4,.tmp 5] vU:=aZ {} Tryz.func243
def sB: aI:=r [V .ae 4]<|
 q (r [M 1 5,aD (.jP .u32 (t 5)) 6,aD (.bin .leq (t 6) (.c (.int .u32 127))) 7]<|
 c 7 (r [M 0 8,M 1 9,aD (.jP .u8 (t 9)) 10,aD (.bK false ⟨false,1⟩ (.int .u8 0) 1 [(0,(t 10))]) 11,aD (.app (some 5) ⟨false,1⟩ (t 8) (t 11)) 12,M 12 4]<|
 .ret) k)<|
 r [M 0 13,M 1 14,C u0 [t 13,t 14] 15,M 15 4]<|
 .ret
def Bk: Of Tryz.prog mR 16 [.tmp 4] sB:=aZ ⟨[],[],[],[12],[],[]⟩ Tryz.func245
def K2: aI:=r [J [z0,e0,z0,z0] 2,V z0 3,V z0 4]<|
 r [M 0 6,C xw [t 6] 7,M 7 5]<|
 q (r [M 5 8,D .gtr 8 16 9]<|
 c 9 (r [aD (.build [z0,e0,z0,z0] []) 10,W 4 2 10,V z0 3,V (i6 5) 4]<|
 .ret) k)<|
 r [M 0 11,M 5 12,aD (.pG (t 11) none (some (t 12))) 13,aD (.build [z0,e0,z0,z0] [(0,1,(.c (i6 1))),(1,1,(t 13))]) 14,M 5 15,W 4 2 14,M 15 3,V z0 4]<|
 .ret
def UA: Of Tryz.prog C8 16 [.cell 2 true 4,.tmp 3,.tmp 4] K2:=aZ {} Tryz.func246
def GD: aI:=r [J [z0,e0,z0,z0] 2,V z0 3,V z0 4]<|
 r [V z0 5,V z0 6,V (.bool false) 7]<|
 q (.block 0 (.loop (q (r [M 5 9,M 0 10,S 10 11,B .lss 9 11 12,M 12 13,MT 0 14 13,MT 5 15 13,⟨.gL (t 14) (t 15),(some 16),some (13,true)⟩,CT q8 [t 16] 17 13,P 13 17 18]<|
 c 18 k (.exit 0))<|
 .block 1 (r [M 0 19,M 5 20,aD (.gL (t 19) (t 20)) 21,aD (.bin .sub (t 21) (.c (.int .u8 48))) 22,aD (.jP .i64 (t 22)) 23,M 23 8]<|
 r [M 7 24,M 24 25,MF 6 26 25,MF 8 27 25,⟨.bin .sub (.c (i6 9223372036854775807)) (t 27),(some 28),some (25,false)⟩,DF .quo 28 10 29 25,BF .gtr 26 29 30 25,O 25 30 31,M 31 7]<|
 q (r [M 7 32,U 32 33]<|
 c 33 (R [M 6 34,aD (.bin .mul (.c (i6 10)) (t 34)) 35,M 8 36,B .add 35 36 37,M 37 6]) k)<|
 R [M 5 38,D .add 38 1 39,M 39 5]))))<|
 q (.block 2 (r [M 5 41,D .gtr 41 1 42,M 42 43,MT 0 44 43,⟨.gL (t 44) (.c z0),(some 45),some (43,true)⟩,⟨.bin .eql (t 45) (.c (.int .u8 48)),(some 46),some (43,true)⟩,P 43 46 47,M 47 40]<|
 c 40 (r [aD (.build [z0,e0,z0,z0] []) 48,W 4 2 48,V z0 3,V (i6 11) 4]<|
 .ret) (r [M 7 50,M 50 49]<|
 c 49 (r [aD (.build [z0,e0,z0,z0] []) 51,W 4 2 51,V z0 3,V (i6 15) 4]<|
 .ret) k)))<|
 r [M 6 52,aD (.build [z0,e0,z0,z0] [(0,1,(.c (i6 2))),(2,1,(t 52))]) 53,M 5 54,W 4 2 53,M 54 3,V z0 4]<|
 .ret
def Qe: Of Tryz.prog y6 55 [.cell 2 true 4,.tmp 3,.tmp 4] GD:=aZ {} Tryz.func247
def K3: aI:=r [J [z0,e0,z0,z0] 2,V z0 3,V z0 4]<|
 r [V e0 5]<|
 q (r [V (i6 1) 6]<|
 .block 0 (.loop (q (r [M 6 8,M 0 9,S 9 10,B .lss 8 10 11]<|
 c 11 k (.exit 0))<|
 q (.block 1 (r [M 0 14,M 6 15,aD (.gL (t 14) (t 15)) 16,M 16 7]<|
 q (r [M 7 17,aD (.bin .eql (t 17) (.c (.int .u8 34))) 18]<|
 c 18 (q (r [M 5 19,S 19 20,D .gtr 20 40 21]<|
 c 21 (r [aD (.build [z0,e0,z0,z0] []) 22,W 4 2 22,V z0 3,V (i6 5) 4]<|
 .ret) k)<|
 r [M 5 23,aD (.build [z0,e0,z0,z0] [(0,1,(.c (i6 3))),(1,1,(t 23))]) 24,M 6 25,D .add 25 1 26,W 4 2 24,M 26 3,V z0 4]<|
 .ret) k)<|
 q (r [M 7 27,aD (.bin .eql (t 27) (.c (.int .u8 92))) 28]<|
 c 28 (r [M 6 29,D .add 29 1 30,M 30 6]<|
 r [M 6 31,M 0 32,S 32 33,B .eql 31 33 34,M 34 35,MF 0 36 35,MF 6 37 35,⟨.gL (t 36) (t 37),(some 38),some (35,false)⟩,⟨.bin .neq (t 38) (.c (.int .u8 34)),(some 39),some (35,false)⟩,MF 39 40 35,MT 0 41 40,MT 6 42 40,⟨.gL (t 41) (t 42),(some 43),some (40,true)⟩,⟨.bin .neq (t 43) (.c (.int .u8 92)),(some 44),some (40,true)⟩,PF 40 44 45 35,O 35 45 46]<|
 c 46 (r [aD (.build [z0,e0,z0,z0] []) 47,W 4 2 47,V z0 3,V (i6 11) 4]<|
 .ret) k) k)<|
 q (r [M 0 48,M 6 49,aD (.gL (t 48) (t 49)) 50,aD (.bin .lss (t 50) (.c (.int .u8 32))) 51,M 51 52,MF 0 53 52,MF 6 54 52,⟨.gL (t 53) (t 54),(some 55),some (52,false)⟩,⟨.bin .gtr (t 55) (.c (.int .u8 126)),(some 56),some (52,false)⟩,O 52 56 57]<|
 c 57 (r [aD (.build [z0,e0,z0,z0] []) 58,W 4 2 58,V z0 3,V (i6 11) 4]<|
 .ret) k)<|
 R [M 5 59,M 0 60,M 6 61,M 6 62,D .add 62 1 63,aD (.pG (t 60) (some (t 61)) (some (t 63))) 64,B .add 59 64 65,M 65 5]))<|
 R [M 6 12,D .add 12 1 13,M 13 6])))<|
 r [aD (.build [z0,e0,z0,z0] []) 66,W 4 2 66,V z0 3,V (i6 11) 4]<|
 .ret
def UB: Of Tryz.prog C9 67 [.cell 2 true 4,.tmp 3,.tmp 4] K3:=aZ {} Tryz.func248
def Jp: aI:=r [V .ae 0]<|
 r [aD (.bK false ⟨false,1⟩ e0 16 [(0,(.c (.str [46,46]))),(1,(.c (.str [33,61]))),(2,(.c (.str [60,61]))),(3,(.c (.str [62,61]))),(4,(.c (.str [40]))),(5,(.c (.str [41]))),(6,(.c (.str [91]))),(7,(.c (.str [93]))),(8,(.c (.str [44]))),(9,(.c (.str [43]))),(10,(.c (.str [45]))),(11,(.c (.str [42]))),(12,(.c (.str [47]))),(13,(.c (.str [61]))),(14,(.c (.str [60]))),(15,(.c (.str [62])))]) 1,M 1 0]<|
 .ret
def Sf: Of Tryz.prog A4 2 [.tmp 0] Jp:=aZ {} Tryz.func249
end Go.Proofs.YtmbgnaoilncbnaaGreatDoor
