/- Part. -/
import Derived.Test.YtcjcnfcedihckaaGreatDoorV13
import Derived.KernelRfl
set_option linter.all false
namespace Go.Proofs.YtcjcnfcedihckaaGreatDoor
open Go.AM Go.AM.W
set_option maxRecDepth 10000
def rj: Of aE 3 50 [.tmp 6] (r [gF 6]<|
 gR [M 0 11,C 7 [t 11] 12,U 12 13,M 13 14,MF 1 15 14,SF 15 16 14,DF .gtr 16 1000 17 14,O 14 17 18] 18 [C 8 [] 19,M 19 6]<|
 r [M 0 21,C 9 [t 21] 22,M 22 20,E 20 0 23,E 20 1 24,M 23 7,M 24 8]<|
 r [M 0 26,C 10 [t 26] 27,M 27 25,E 25 0 28,E 25 1 29,M 28 9,M 29 10]<|
 r [M 7 30,M 9 31,B .eql 30 31 32,M 32 33,MT 8 34 33,MT 10 35 33,BT .eql 34 35 36 33,P 33 36 37,M 37 38,MT 1 39 38,MT 2 40 38,CT 12 [t 39,t 40] 41 38,MT 1 42 38,MT 2 43 38,CT 13 [t 42,t 43] 44 38,CT 11 [t 41,t 44] 45 38,P 38 45 46,M 46 47,CT 8 [] 48 47,P 47 48 49,M 49 6]<|
 .ret):=bt Tryz.func3
def C9: Of aE 7 38 [.tmp 2] (r [gF 2]<|
 gR [M 0 4,N 4 5,D .gtr 5 70 6] 6 [gF 2]<|
 q (r [V z0 3]<|
 gL 0 [M 3 7,M 0 8,N 8 9,B .lss 7 9 10] 10 ((
 q (.block 1 (r [M 0 13,M 3 14,I true 12 13 14 15,A 1 15 16,L 6 16 17,C 17 [t 17] 18,U 18 19,M 19 20,MF 0 21 20,MF 3 22 20,IF true 12 21 22 23 20,AF 7 23 24 20,KF 24 25 20,SF 25 26 20,DF .gtr 26 300 27 20,O 20 27 28,M 28 29,MF 0 30 29,MF 3 31 29,IF true 12 30 31 32 29,AF 9 32 33 29,KF 33 34 29,CF 18 [t 34] 35 29,UF 35 36 29,O 29 36 37]<|
 c 37 (r [gF 2]<|
 .ret) k))<|
 R [M 3 11,D .add 11 1 12,M 12 3])))<|
 r [gT 2]<|
 .ret):=bt Tryz.func7
def Ic: Of aE 8 43 [.tmp 0] (r [gF 0]<|
 r [gU [z0,e0,.ai,.ai,z0,z0,.ai,e0,z0,.ai,z0,z0] [(0,1,gJ 5),(10,1,gJ 2),(11,1,gJ 5)] 7,gB true 12 (.agg [z0,e0,.ai,.ai,z0,z0,.ai,e0,z0,.ai,z0,z0]) 1 [(0,t 7)] 8,C 9 [t 8] 9,M 9 6,E 6 0 10,E 6 1 11,M 10 1,M 11 2]<|
 r [C 14 [gS [108,105,115,116,10,108,111,103,32,50,32,53,10]] 13,M 13 12,E 12 0 14,E 12 1 15,E 12 2 16,M 14 3,M 15 4,M 16 5]<|
 r [M 1 17,aU (.bin .eql (t 17) (gS [108,111,103,32,50,32,53,10])) 18,M 18 19,MT 2 20 19,DT .eql 20 0 21 19,P 19 21 22,M 22 23,MT 3 24 23,⟨.build [z0,e0,.ai,.ai,z0,z0,.ai,e0,z0,.ai,z0,z0] [(0,1,gJ 4)],(some 25),some (23,true)⟩,⟨.build [z0,e0,.ai,.ai,z0,z0,.ai,e0,z0,.ai,z0,z0] [(0,1,gJ 5),(10,1,gJ 2),(11,1,gJ 5)],(some 26),some (23,true)⟩,⟨.iG false ⟨true,12⟩ (.agg [z0,e0,.ai,.ai,z0,z0,.ai,e0,z0,.ai,z0,z0]) 2 [(0,t 25),(1,t 26)],(some 27),some (23,true)⟩,CT 15 [t 24,t 27] 28 23,P 23 28 29,M 29 30,MT 4 31 30,DT .eql 31 0 32 30,P 30 32 33,M 33 34,MT 5 35 34,DT .eql 35 0 36 34,P 34 36 37,M 37 38,CT 12 [gS [97,32,124,32,34,124,34],(.c (.int .u8 124))] 39 38,NT 39 40 38,DT .eql 40 2 41 38,P 38 41 42,M 42 0]<|
 .ret):=bt Tryz.func8
def Ie: Of aE 9 37 [.tmp 2,.tmp 3] (r [V e0 2,V z0 3]<|
 gR [M 0 10,N 10 11,D .gtr 11 64 12] 12 [V e0 2,V (i6 24) 3]<|
 r [aU (.alloc (some 56) [.iE,.ai]) 4]<|
 q (r [M 0 13,N 13 14,V z0 15]<|
 .block 0 (.loop (r [B .lss 15 14 16]<|
 q (c 16 k (.exit 0))<|
 q (.block 1 (r [I true 12 13 15 17,L 12 17 18,J [z0,e0,.ai,.ai,z0,z0,.ai,e0,z0,.ai,z0,z0] 6,W 12 6 18]<|
 q (r [L 12 6 19,C 19 [t 19] 20,M 20 7]<|
 r [M 7 21,D .neq 21 0 22]<|
 c 22 (r [M 7 23,V e0 2,M 23 3]<|
 .ret) k)<|
 r [L 12 6 24,C 20 [t 24] 25,N 25 26,V z0 27]<|
 .block 2 (.loop (r [B .lss 27 26 28]<|
 q (c 28 k (.exit 2))<|
 q (.block 3 (r [I false 1 25 27 29,K 29 30,M 30 9]<|
 r [M 9 31,C 21 [t 4,t 31] 32]<|
 R [C 22 [t 4,(.c (.int .u8 10))] 33]))<|
 R [D .add 27 1 34,M 34 27]))))<|
 R [D .add 15 1 35,M 35 15])))<|
 r [C 23 [t 4] 36,M 36 2,V z0 3]<|
 .ret):=mM ⟨[],[],[],[4],[],[]⟩ Tryz.func9
def KH: Of aE 10 45 [.tmp 2,.tmp 3] (r [V e0 2,V z0 3]<|
 gR [M 0 9,N 9 10,D .gtr 10 64 11] 11 [V e0 2,V (i6 24) 3]<|
 r [V e0 4]<|
 q (r [V z0 5]<|
 gL 0 [M 5 12,M 0 13,N 13 14,B .lss 12 14 15] 15 ((
 q (.block 1 (q (r [M 0 18,M 5 19,I true 12 18 19 20,L 12 20 21,C 24 [t 21] 22,M 22 6]<|
 r [M 6 23,D .neq 23 0 24]<|
 c 24 (r [M 6 25,V e0 2,M 25 3]<|
 .ret) k)<|
 r [M 0 26,M 5 27,I true 12 26 27 28,L 12 28 29,C 16 [t 29] 30,M 30 7]<|
 r [V z0 8]<|
 gL 2 [M 8 31,M 7 32,N 32 33,B .lss 31 33 34] 34 ((
 q (.block 3 (R [M 4 37,M 7 38,M 8 39,I false 1 38 39 40,K 40 41,B .add 37 41 42,aU (.bin .add (t 42) (gS [10])) 43,M 43 4]))<|
 R [M 8 35,D .add 35 1 36,M 36 8]))))<|
 R [M 5 16,D .add 16 1 17,M 17 5])))<|
 r [M 4 44,M 44 2,V z0 3]<|
 .ret):=bt Tryz.func10
def Bt: Of aE 11 26 [.tmp 4] (r [gF 4]<|
 gR [M 0 6,N 6 7,M 1 8,N 8 9,B .neq 7 9 10] 10 [gF 4]<|
 q (r [V z0 5]<|
 gL 0 [M 5 11,M 0 12,N 12 13,B .lss 11 13 14] 14 ((
 q (.block 1 (q (.draw [M 0 17,M 5 18,I false 1 17 18 19,K 19 20,M 1 21,M 5 22,I false 1 21 22 23,K 23 24,B .neq 20 24 25] [])<|
 c 25 (r [gF 4]<|
 .ret) k))<|
 R [M 5 15,D .add 15 1 16,M 16 5])))<|
 r [gT 4]<|
 .ret):=bt Tryz.func11
def F7: Of aE 12 55 [.tmp 4] (r [V .ai 4]<|
 r [aU (.jI ⟨false,1⟩) 5]<|
 r [V z0 6]<|
 r [gF 7]<|
 q (r [V z0 8]<|
 gL 0 [M 8 10,M 0 11,S 11 12,B .lss 10 12 13] 13 ((
 q (.block 1 (r [M 0 16,M 8 17,aU (.fU (t 16) (t 17)) 18,M 18 9]<|
 .block 2 (r [M 7 20,M 20 21,MT 9 22 21,⟨.bin .eql (t 22) (.c (.int .u8 92)),(some 23),some (21,true)⟩,P 21 23 24,M 24 19]<|
 c 19 (R [M 8 25,D .add 25 1 26,M 26 8]) (r [M 7 28,M 28 27]<|
 c 27 (R [M 9 29,aU (.bin .neq (t 29) (.c (.int .u8 34))) 30,M 30 7]) (r [M 9 32,M 1 33,B .eql 32 33 34,M 34 31]<|
 c 31 (r [M 5 35,M 0 36,M 6 37,M 8 38,aU (.lf (t 36) (some (t 37)) (some (t 38))) 39,C 25 [t 39,gS [32]] 40,gB false 1 e0 1 [(0,t 40)] 41,gA false 1 35 41 42,M 42 5]<|
 R [M 8 43,D .add 43 1 44,M 44 6]) (r [M 9 46,aU (.bin .eql (t 46) (.c (.int .u8 34))) 47,M 47 45]<|
 c 45 (R [gT 7]) k))))))<|
 R [M 8 14,D .add 14 1 15,M 15 8])))<|
 r [M 5 48,M 0 49,M 6 50,aU (.lf (t 49) (some (t 50)) none) 51,C 25 [t 51,gS [32]] 52,gB false 1 e0 1 [(0,t 52)] 53,gA false 1 48 53 54,M 54 4]<|
 .ret):=mM ⟨[],[],[(5,⟨false,1⟩)],[],[],[]⟩ Tryz.func12
def Ig: Of aE 13 66 [.tmp 4] (r [V .ai 4]<|
 r [aU (.jI ⟨false,1⟩) 5]<|
 r [V z0 6,gF 7]<|
 q (r [V z0 8]<|
 gL 0 [M 8 9,M 0 10,S 10 11,B .lss 9 11 12] 12 ((
 q (.block 1 (.block 2 (r [M 7 16,M 16 17,MT 0 18 17,MT 8 19 17,⟨.fU (t 18) (t 19),(some 20),some (17,true)⟩,⟨.bin .eql (t 20) (.c (.int .u8 92)),(some 21),some (17,true)⟩,P 17 21 22,M 22 15]<|
 c 15 (R [M 8 23,D .add 23 1 24,M 24 8]) (r [M 0 26,M 8 27,aU (.fU (t 26) (t 27)) 28,aU (.bin .eql (t 28) (.c (.int .u8 34))) 29,M 29 30,MT 7 31 30,MT 31 32 30,MF 1 33 32,⟨.bin .neq (t 33) (.c (.int .u8 34)),(some 34),some (32,false)⟩,OT 32 34 35 30,P 30 35 36,M 36 25]<|
 c 25 (R [M 7 37,U 37 38,M 38 7]) (r [M 0 40,M 8 41,aU (.fU (t 40) (t 41)) 42,M 1 43,B .eql 42 43 44,M 44 45,MT 7 46 45,UT 46 47 45,P 45 47 48,M 48 39]<|
 c 39 (r [M 5 49,M 0 50,M 6 51,M 8 52,aU (.lf (t 50) (some (t 51)) (some (t 52))) 53,C 26 [t 53] 54,gB false 1 e0 1 [(0,t 54)] 55,gA false 1 49 55 56,M 56 5]<|
 R [M 8 57,D .add 57 1 58,M 58 6]) k)))))<|
 R [M 8 13,D .add 13 1 14,M 14 8])))<|
 r [M 5 59,M 0 60,M 6 61,aU (.lf (t 60) (some (t 61)) none) 62,C 26 [t 62] 63,gB false 1 e0 1 [(0,t 63)] 64,gA false 1 59 64 65,M 65 4]<|
 .ret):=mM ⟨[],[],[(5,⟨false,1⟩)],[],[],[]⟩ Tryz.func13
def F8: Of aE 14 48 [.tmp 2,.tmp 3,.tmp 4] (r [V .ai 2,V z0 3,V z0 4]<|
 .scope 0 (gR [M 0 10,S 10 11,D .gtr 11 65536 12] 12 [V .ai 2,V z0 3,V (i6 5) 4]<|
 r [gU [.ai,z0,e0,.ai,.ai,z0,z0,.ai] [] 13,X 13 14,M 14 5]<|
 r [V (i6 1) 6]<|
 q (.label 0)<|
 q (gL 0 [M 0 15,aU (.bin .neq (t 15) (.c e0)) 16] 16 ((
 q (.block 1 (r [M 0 20,C 27 [t 20,gS [10]] 21,M 21 19,E 19 0 22,E 19 1 23,E 19 2 24,M 22 7,M 23 8,M 24 9]<|
 q (r [M 9 25,U 25 26,M 26 27,MF 5 28 27,MF 7 29 27,CF 28 [t 28,t 29] 30 27,UF 30 31 27,O 27 31 32]<|
 c 32 (.exit 0) k)<|
 R [M 8 33,M 33 0]))<|
 R [M 6 17,D .add 17 1 18,M 18 6])))<|
 gR [M 0 34,aU (.bin .neq (t 34) (.c e0)) 35,M 35 36,MF 5 37 36,ZF 37 38 36,AF 1 38 39 36,KF 39 40 36,DF .neq 40 0 41 36,O 36 41 42] 42 [M 6 43,V .ai 2,M 43 3,V (i6 4) 4]<|
 r [M 5 44,Z 44 45,A 0 45 46,K 46 47,M 47 2,V z0 3,V z0 4]<|
 .ret) (.seq k <|
 q (gL 0 [M 0 15,aU (.bin .neq (t 15) (.c e0)) 16] 16 ((
 q (.block 1 (r [M 0 20,C 27 [t 20,gS [10]] 21,M 21 19,E 19 0 22,E 19 1 23,E 19 2 24,M 22 7,M 23 8,M 24 9]<|
 q (r [M 9 25,U 25 26,M 26 27,MF 5 28 27,MF 7 29 27,CF 28 [t 28,t 29] 30 27,UF 30 31 27,O 27 31 32]<|
 c 32 (.exit 0) k)<|
 R [M 8 33,M 33 0]))<|
 R [M 6 17,D .add 17 1 18,M 18 6])))<|
 gR [M 0 34,aU (.bin .neq (t 34) (.c e0)) 35,M 35 36,MF 5 37 36,ZF 37 38 36,AF 1 38 39 36,KF 39 40 36,DF .neq 40 0 41 36,O 36 41 42] 42 [M 6 43,V .ai 2,M 43 3,V (i6 4) 4]<|
 r [M 5 44,Z 44 45,A 0 45 46,K 46 47,M 47 2,V z0 3,V z0 4]<|
 .ret)):=bt Tryz.func14
def Eo: Of aE 15 27 [.tmp 4] (r [gF 4]<|
 gR [M 0 6,N 6 7,M 1 8,N 8 9,B .neq 7 9 10] 10 [gF 4]<|
 q (r [V z0 5]<|
 gL 0 [M 5 11,M 0 12,N 12 13,B .lss 11 13 14] 14 ((
 q (.block 1 (q (.draw [M 0 17,M 5 18,I true 12 17 18 19,L 12 19 20,M 1 21,M 5 22,I true 12 21 22 23,L 12 23 24,Q 29 [t 20,t 24] 25,U 25 26] [])<|
 c 26 (r [gF 4]<|
 .ret) k))<|
 R [M 5 15,D .add 15 1 16,M 16 5])))<|
 r [gT 4]<|
 .ret):=bt Tryz.func15
def kY: Of aE 16 73 [.tmp 2] (r [X 0 1,V .ai 2]<|
 q (r [A 0 1 4,K 4 5]<|
 .block 0 (r [D .eql 5 1 7,M 7 6]<|
 c 6 (r [A 1 1 8,L 6 8 9,C 30 [t 9] 10,M 10 2]<|
 .ret) (r [D .eql 5 2 12,M 12 11]<|
 c 11 (q (.draw [A 7 1 13,K 13 14,aU (.bin .add (gS [100,101,99,105,100,101,32]) (t 14)) 15,aU (.bin .add (t 15) (gS [32])) 16,A 8 1 17,K 17 18,Q 31 [t 18] 19,B .add 16 19 20,M 20 3] [])<|
 q (r [A 9 1 21,K 21 22,N 22 23,D .gtr 23 0 24]<|
 c 24 (R [M 3 25,aU (.bin .add (t 25) (gS [32])) 26,A 9 1 27,K 27 28,C 32 [t 28] 29,B .add 26 29 30,M 30 3]) k)<|
 r [M 3 31,gB false 1 e0 1 [(0,t 31)] 32,M 32 2]<|
 .ret) (r [D .eql 5 3 34,M 34 33]<|
 c 33 (q (.draw [A 7 1 35,K 35 36,aU (.bin .add (gS [118,101,114,115,105,111,110,32]) (t 36)) 37,aU (.bin .add (t 37) (gS [32])) 38,A 8 1 39,K 39 40,Q 31 [t 40] 41,B .add 38 41 42,gB false 1 e0 1 [(0,t 42)] 43,M 43 2] [])<|
 .ret) (r [D .eql 5 4 45,M 45 44]<|
 c 44 (r [gB false 1 e0 1 [(0,gS [108,105,115,116])] 46,M 46 2]<|
 .ret) (r [D .eql 5 5 48,M 48 47]<|
 c 47 (q (.draw [A 10 1 49,K 49 50,Q 31 [t 50] 51,aU (.bin .add (gS [108,111,103,32]) (t 51)) 52,aU (.bin .add (t 52) (gS [32])) 53,A 11 1 54,K 54 55,Q 31 [t 55] 56,B .add 53 56 57,gB false 1 e0 1 [(0,t 57)] 58,M 58 2] [])<|
 .ret) (r [D .eql 5 6 60,M 60 59]<|
 c 59 (r [A 10 1 61,K 61 62,C 31 [t 62] 63,aU (.bin .add (gS [99,111,109,112,97,99,116,32]) (t 63)) 64,gB false 1 e0 1 [(0,t 64)] 65,M 65 2]<|
 .ret) (r [D .eql 5 7 67,M 67 66]<|
 c 66 (r [gB false 1 e0 1 [(0,gS [97,117,100,105,116])] 68,M 68 2]<|
 .ret) (r [D .eql 5 8 70,M 70 69]<|
 c 69 (r [gB false 1 e0 1 [(0,gS [109,97,114,107])] 71,M 71 2]<|
 .ret) k)))))))))<|
 r [gB false 1 e0 1 [(0,gS [115,121,110,99])] 72,M 72 2]<|
 .ret):=bt Tryz.func16
def Ep: Of aE 17 51 [.tmp 2] (r [X 0 1,gF 2]<|
 gR [A 0 1 4,K 4 5,S 5 6,D .gtr 6 300 7,M 7 8,AF 5 1 9 8,KF 9 10 8,NF 10 11 8,DF .gtr 11 26 12 8,O 8 12 13,M 13 14,AF 1 1 15 14,KF 15 16 14,CF 33 [t 16] 17 14,UF 17 18 14,O 14 18 19,M 19 20,AF 2 1 21 20,KF 21 22 20,CF 33 [t 22] 23 20,UF 23 24 20,O 20 24 25] 25 [gF 2]<|
 q (r [V z0 3]<|
 gL 0 [M 3 26,A 5 1 27,K 27 28,N 28 29,B .lss 26 29 30] 30 ((
 q (.block 1 (r [A 5 1 33,K 33 34,M 3 35,I true 2 34 35 36,A 0 36 37,K 37 38,C 34 [t 38] 39,U 39 40,M 40 41,AF 5 1 42 41,KF 42 43 41,MF 3 44 41,IF true 2 43 44 45 41,AF 1 45 46 41,KF 46 47 41,CF 34 [t 47] 48 41,UF 48 49 41,O 41 49 50]<|
 c 50 (r [gF 2]<|
 .ret) k))<|
 R [M 3 31,D .add 31 1 32,M 32 3])))<|
 r [gT 2]<|
 .ret):=bt Tryz.func17
def Er: Of aE 18 20 [.tmp 2] (r [gF 2]<|
 gR [M 0 4,N 4 5,D .gtr 5 12 6] 6 [gF 2]<|
 q (r [V z0 3]<|
 gL 0 [M 3 7,M 0 8,N 8 9,B .lss 7 9 10] 10 ((
 q (.block 1 (r [M 0 13,M 3 14,I true 3 13 14 15,A 2 15 16,K 16 17,S 17 18,D .gtr 18 300 19]<|
 c 19 (r [gF 2]<|
 .ret) k))<|
 R [M 3 11,D .add 11 1 12,M 12 3])))<|
 r [gT 2]<|
 .ret):=bt Tryz.func18
def Es: Of aE 19 71 [.tmp 2] (r [X 0 1,V z0 2]<|
 r [A 0 1 8,K 8 9,C 35 [t 9] 10,M 10 7,E 7 0 11,E 7 1 12,M 11 3,M 12 4]<|
 q (r [M 3 13,D .eql 13 1 14]<|
 c 14 (r [A 1 1 16,L 6 16 17,C 36 [t 17] 18,M 18 15,E 15 0 19,E 15 1 20,M 19 5,M 20 6]<|
 r [M 6 21,D .neq 21 0 22]<|
 c 22 (r [M 6 23,M 23 2]<|
 .ret) k) k)<|
 q (.block 0 (r [M 4 25,U 25 26,M 26 27,LF 12 1 28 27,CF 37 [t 28] 29 27,MF 3 30 27,BF .andNot 29 30 31 27,DF .neq 31 0 32 27,O 27 32 33,M 33 24]<|
 c 24 (r [V (i6 2) 2]<|
 .ret) (r [M 3 35,D .and 35 2 36,D .neq 36 0 37,M 37 38,AT 7 1 39 38,KT 39 40 38,CT 38 [t 40] 41 38,UT 41 42 38,MT 42 43 38,AF 8 1 44 43,KF 44 45 43,DF .lss 45 0 46 43,OT 43 46 47 38,MT 47 48 38,AF 8 1 49 48,KF 49 50 48,DF .gtr 50 2147483648 51 48,OT 48 51 52 38,P 38 52 53,M 53 34]<|
 c 34 (r [V (i6 2) 2]<|
 .ret) (r [A 10 1 55,K 55 56,C 39 [t 56] 57,U 57 58,M 58 59,AF 11 1 60 59,KF 60 61 59,CF 39 [t 61] 62 59,UF 62 63 59,O 59 63 64,M 64 65,AF 9 1 66 65,KF 66 67 65,CF 40 [t 67] 68 65,UF 68 69 65,O 65 69 70,M 70 54]<|
 c 54 (r [V (i6 2) 2]<|
 .ret) k))))<|
 r [V z0 2]<|
 .ret):=bt Tryz.func19
def kx: Of aE 20 62 [.tmp 2] (r [X 0 1,V .ai 2]<|
 r [V (.fn (.func 41) [] []) 3]<|
 q (r [A 0 1 4,K 4 5]<|
 .block 0 (r [D .eql 5 1 7,M 7 6]<|
 c 6 (r [A 1 1 8,L 6 8 9,C 42 [t 9] 10,M 10 2]<|
 .ret) (r [D .eql 5 2 12,M 12 11]<|
 c 11 (q (.draw [A 7 1 13,K 13 14,M 3 15,A 8 1 16,K 16 17,aU (.call true (t 15) [t 17]) 18,gB false 1 e0 3 [(0,gS [100,101,99,105,100,101]),(1,t 14),(2,t 18)] 19,Q 44 [t 19] 20,A 9 1 21,K 21 22,Q 43 [t 20,t 22] 23,gB false 1 e0 1 [(0,t 23)] 24,M 24 2] [])<|
 .ret) (r [D .eql 5 3 26,M 26 25]<|
 c 25 (q (.draw [A 7 1 27,K 27 28,M 3 29,A 8 1 30,K 30 31,aU (.call true (t 29) [t 31]) 32,gB false 1 e0 3 [(0,gS [118,101,114,115,105,111,110]),(1,t 28),(2,t 32)] 33,Q 44 [t 33] 34,gB false 1 e0 1 [(0,t 34)] 35,M 35 2] [])<|
 .ret) (r [D .eql 5 5 37,M 37 36]<|
 c 36 (q (.draw [M 3 38,A 10 1 39,K 39 40,aU (.call true (t 38) [t 40]) 41,M 3 42,A 11 1 43,K 43 44,aU (.call true (t 42) [t 44]) 45,gB false 1 e0 3 [(0,gS [108,111,103]),(1,t 41),(2,t 45)] 46,Q 44 [t 46] 47,gB false 1 e0 1 [(0,t 47)] 48,M 48 2] [])<|
 .ret) (r [D .eql 5 6 50,M 50 49]<|
 c 49 (r [M 3 51,A 10 1 52,K 52 53,aU (.call false (t 51) [t 53]) 54,gB false 1 e0 2 [(0,gS [99,111,109,112,97,99,116]),(1,t 54)] 55,C 44 [t 55] 56,gB false 1 e0 1 [(0,t 56)] 57,M 57 2]<|
 .ret) k))))))<|
 r [A 0 1 58,K 58 59,C 45 [t 59] 60,gB false 1 e0 1 [(0,t 60)] 61,M 61 2]<|
 .ret):=bt Tryz.func20
def rm: Of aE 21 19 [.tmp 4,.tmp 5] (r [V z0 4,V .ja 5]<|
 r [M 0 6,C 46 [t 6] 7]<|
 r [M 0 8,M 0 9,Z 9 10,A 1 10 11,K 11 12,M 1 13,aU (.app (some 5) ⟨false,1⟩ (t 12) (t 13)) 14,Z 8 15,A 1 15 16,W 1 16 14]<|
 r [M 1 17,S 17 18,M 18 4,V .ja 5]<|
 .ret):=mM ⟨[],[],[],[14],[],[]⟩ Tryz.func21
def sF: Of aE 22 17 [.tmp 4] (r [V .ja 4]<|
 r [M 0 5,C 46 [t 5] 6]<|
 r [M 0 7,M 0 8,Z 8 9,A 1 9 10,K 10 11,M 1 12,gB false 1 (.int .u8 0) 1 [(0,t 12)] 13,aU (.app (some 5) ⟨false,1⟩ (t 11) (t 13)) 14,Z 7 15,A 1 15 16,W 1 16 14]<|
 r [V .ja 4]<|
 .ret):=mM ⟨[],[],[],[14],[],[]⟩ Tryz.func22
def uC: Of aE 23 14 [.tmp 2] (r [V e0 2]<|
 q (.draw [M 0 3,Z 3 4,A 1 4 5,K 5 6,aU (.zZ ⟨false,1⟩ (t 6)) 7,M 0 8,Z 8 9,A 1 9 10,K 10 11,N 11 12,aU (.vq 5 (t 7) (t 12)) 13,M 13 2] [])<|
 .ret):=bt Tryz.func23
def Ih: Of aE 24 84 [.tmp 2] (r [X 0 1,V z0 2]<|
 q (r [A 0 1 6,K 6 7,D .eql 7 1 8]<|
 c 8 (r [A 1 1 10,L 6 10 11,C 47 [t 11] 12,M 12 9,E 9 0 13,E 9 1 14,M 13 3,M 14 4]<|
 r [M 4 15,D .neq 15 0 16]<|
 c 16 (r [M 4 17,M 17 2]<|
 .ret) k) k)<|
 r [A 0 1 18,K 18 19,D .eql 19 2 20,M 20 21,AF 0 1 22 21,KF 22 23 21,DF .eql 23 3 24 21,O 21 24 25,M 25 5]<|
 q (q (.draw [A 0 1 26,K 26 27,D .lss 27 1 28,M 28 29,AF 0 1 30 29,KF 30 31 29,DF .gtr 31 9 32 29,O 29 32 33,M 33 34,LF 12 1 35 34,LF 12 1 36 34,QF 48 [t 36] 37 34,QF 29 [t 35,t 37] 38 34,UF 38 39 34,O 34 39 40,M 40 41,AF 10 1 42 41,KF 42 43 41,QF 49 [t 43] 44 41,UF 44 45 41,O 41 45 46,M 46 47,AF 11 1 48 47,KF 48 49 47,QF 49 [t 49] 50 47,UF 50 51 47,O 47 51 52,M 52 53,MF 5 54 53,MF 54 55 53,AT 7 1 56 55,KT 56 57 55,QT 50 [t 57] 58 55,UT 58 59 55,MT 59 60 55,AF 8 1 61 60,KF 61 62 60,DF .lss 62 0 63 60,OT 60 63 64 55,MT 64 65 55,AF 8 1 66 65,KF 66 67 65,DF .gtr 67 2147483648 68 65,OT 65 68 69 55,PF 55 69 70 53,O 53 70 71,M 71 72,AF 9 1 73 72,KF 73 74 72,NF 74 75 72,DF .gtr 75 6 76 72,O 72 76 77,M 77 78,AF 9 1 79 78,KF 79 80 78,QF 51 [t 80] 81 78,UF 81 82 78,O 78 82 83] [])<|
 c 83 (r [V (i6 2) 2]<|
 .ret) k)<|
 r [V z0 2]<|
 .ret):=bt Tryz.func24
def KI: Of aE 26 30 [.tmp 2] (r [V e0 2]<|
 q (gL 0 [M 0 3,S 3 4,D .gtr 4 0 5,M 5 6,MT 0 7 6,⟨.fU (t 7) (.c z0),(some 8),some (6,true)⟩,⟨.bin .eql (t 8) (.c (.int .u8 32)),(some 9),some (6,true)⟩,P 6 9 10] 10 ((
 .block 1 (R [M 0 11,aU (.lf (t 11) (some (gJ 1)) none) 12,M 12 0]))))<|
 q (gL 2 [M 0 13,S 13 14,D .gtr 14 0 15,M 15 16,MT 0 17 16,MT 0 18 16,ST 18 19 16,DT .sub 19 1 20 16,⟨.fU (t 17) (t 20),(some 21),some (16,true)⟩,⟨.bin .eql (t 21) (.c (.int .u8 32)),(some 22),some (16,true)⟩,P 16 22 23] 23 ((
 .block 3 (R [M 0 24,M 0 25,S 25 26,D .sub 26 1 27,aU (.lf (t 24) none (some (t 27))) 28,M 28 0]))))<|
 r [M 0 29,M 29 2]<|
 .ret):=bt Tryz.func26
def Ii: Of aE 27 13 [.tmp 4,.tmp 5,.tmp 6] (r [V e0 4,V e0 5,gF 6]<|
 r [M 0 7,M 1 8,C 59 [t 7,t 8] 9,E 9 0 10,E 9 1 11,E 9 2 12,M 10 4,M 11 5,M 12 6]<|
 .ret):=bt Tryz.func27
def qI: Of aE 28 71 [.tmp 4] (r [gF 4]<|
 gR [M 0 7,Z 7 8,A 1 8 9,K 9 10,D .neq 10 0 11] 11 [M 0 12,M 1 13,C 60 [t 12,t 13] 14,M 14 4]<|
 gR [M 0 15,Z 15 16,A 0 16 17,K 17 18,N 18 19,D .eql 19 64 20] 20 [gF 4]<|
 gR [M 1 21,C 61 [t 21,gS [116,97,98,108,101,32]] 22] 22 [M 0 23,M 1 24,C 62 [t 23,t 24] 25,M 25 26,MT 0 27 26,CT 63 [t 27] 28 26,P 26 28 29,M 29 30,MT 0 31 30,ZT 31 32 30,AT 2 32 33 30,LT 6 33 34 30,CT 42 [t 34] 35 30,⟨.eH ⟨false,1⟩ none (t 35) (.c z0),(some 36),some (30,true)⟩,KT 36 37 30,MT 1 38 30,BT .eql 37 38 39 30,P 30 39 40,M 40 4]<|
 r [M 1 42,C 64 [t 42] 43,M 43 41,E 41 0 44,E 41 1 45,J [z0,e0,.ai,.ai,z0,z0,.ai,e0,z0,.ai,z0,z0] 5,W 12 5 44,M 45 6]<|
 gR [M 6 46,U 46 47,M 47 48,LF 12 5 49 48,CF 19 [t 49] 50 48,DF .neq 50 0 51 48,O 48 51 52,M 52 53,LF 12 5 54 53,CF 20 [t 54] 55 53,⟨.eH ⟨false,1⟩ none (t 55) (.c z0),(some 56),some (53,false)⟩,KF 56 57 53,MF 1 58 53,BF .neq 57 58 59 53,O 53 59 60] 60 [gF 4]<|
 q (.draw [M 0 61,M 0 62,Z 62 63,A 0 63 64,K 64 65,L 12 5 66,gB true 12 (.agg [z0,e0,.ai,.ai,z0,z0,.ai,e0,z0,.ai,z0,z0]) 1 [(0,t 66)] 67,gA true 12 65 67 68,Z 61 69,A 0 69 70,W 1 70 68] [])<|
 r [gT 4]<|
 .ret):=bt Tryz.func28
def KJ: Of aE 29 52 [.tmp 4] (r [X 0 2,X 1 3,gF 4]<|
 r [A 0 2 5,K 5 6,A 0 3 7,K 7 8,B .eql 6 8 9,M 9 10,AT 1 2 11 10,LT 6 11 12 10,AT 1 3 13 10,LT 6 13 14 10,CT 65 [t 12,t 14] 15 10,P 10 15 16,M 16 17,AT 7 2 18 17,KT 18 19 17,AT 7 3 20 17,KT 20 21 17,BT .eql 19 21 22 17,P 17 22 23,M 23 24,AT 8 2 25 24,KT 25 26 24,AT 8 3 27 24,KT 27 28 24,BT .eql 26 28 29 24,P 24 29 30,M 30 31,AT 9 2 32 31,KT 32 33 31,AT 9 3 34 31,KT 34 35 31,CT 66 [t 33,t 35] 36 31,P 31 36 37,M 37 38,AT 10 2 39 38,KT 39 40 38,AT 10 3 41 38,KT 41 42 38,BT .eql 40 42 43 38,P 38 43 44,M 44 45,AT 11 2 46 45,KT 46 47 45,AT 11 3 48 45,KT 48 49 45,BT .eql 47 49 50 45,P 45 50 51,M 51 4]<|
 .ret):=bt Tryz.func29
def lW: Of aE 31 38 [.tmp 2] (r [V e0 2]<|
 q (r [M 0 4,D .geq 4 (-9) 5,M 5 6,MT 0 7 6,DT .leq 7 9 8 6,P 6 8 9]<|
 c 9 (gR [M 0 10,D .lss 10 0 11] 11 [M 0 12,aU (.bin .sub (gJ 48) (t 12)) 13,aU (.ld .u8 (t 13)) 14,gB false 1 (.int .u8 0) 1 [(0,t 14)] 15,aU (.sj (t 15)) 16,aU (.bin .add (gS [45]) (t 16)) 17,M 17 2]<|
 r [M 0 18,aU (.bin .add (gJ 48) (t 18)) 19,aU (.ld .u8 (t 19)) 20,gB false 1 (.int .u8 0) 1 [(0,t 20)] 21,aU (.sj (t 21)) 22,M 22 2]<|
 .ret) k)<|
 r [M 0 23,D .rem 23 10 24,M 24 3]<|
 q (r [M 3 25,D .lss 25 0 26]<|
 c 26 (R [M 3 27,aU (.un .neg (t 27)) 28,M 28 3]) k)<|
 q (.draw [M 0 29,D .quo 29 10 30,Q 31 [t 30] 31,M 3 32,aU (.bin .add (gJ 48) (t 32)) 33,aU (.ld .u8 (t 33)) 34,gB false 1 (.int .u8 0) 1 [(0,t 34)] 35,aU (.sj (t 35)) 36,B .add 31 36 37,M 37 2] [])<|
 .ret):=bt Tryz.func31
def F9: Of aE 32 21 [.tmp 2] (r [V e0 2]<|
 r [aU (.jI ⟨false,1⟩) 3]<|
 q (r [V z0 4]<|
 gL 0 [M 4 5,M 0 6,N 6 7,B .lss 5 7 8] 8 ((
 q (.block 1 (R [M 3 11,M 0 12,M 4 13,I true 3 12 13 14,L 3 14 15,C 71 [t 15] 16,gB false 1 e0 1 [(0,t 16)] 17,gA false 1 11 17 18,M 18 3]))<|
 R [M 4 9,D .add 9 1 10,M 10 4])))<|
 r [M 3 19,C 70 [t 19,gS [44,32]] 20,M 20 2]<|
 .ret):=mM ⟨[],[],[(3,⟨false,1⟩)],[],[],[]⟩ Tryz.func32
def Ij: Of aE 33 42 [.tmp 2] (r [gF 2]<|
 gR [M 0 5,C 72 [t 5] 6,U 6 7] 7 [gF 2]<|
 q (r [V z0 3]<|
 gL 0 [M 3 8,M 0 9,N 9 10,B .lss 8 10 11] 11 ((
 q (.block 1 (gR [M 0 14,M 3 15,I true 3 14 15 16,A 2 16 17,K 17 18,N 18 19,D .gtr 19 12 20] 20 [gF 2]<|
 r [V z0 4]<|
 gL 2 [M 4 21,M 0 22,M 3 23,I true 3 22 23 24,A 2 24 25,K 25 26,N 26 27,B .lss 21 27 28] 28 ((
 q (.block 3 (r [M 0 31,M 3 32,I true 3 31 32 33,A 2 33 34,K 34 35,M 4 36,I true 3 35 36 37,A 2 37 38,K 38 39,S 39 40,D .gtr 40 300 41]<|
 c 41 (r [gF 2]<|
 .ret) k))<|
 R [M 4 29,D .add 29 1 30,M 30 4]))))<|
 R [M 3 12,D .add 12 1 13,M 13 3])))<|
 r [gT 2]<|
 .ret):=bt Tryz.func33
def Ik: Of aE 34 19 [.tmp 2] (r [gF 2]<|
 gR [M 0 4,N 4 5,D .gtr 5 10 6] 6 [gF 2]<|
 q (r [V z0 3]<|
 gL 0 [M 3 7,M 0 8,N 8 9,B .lss 7 9 10] 10 ((
 q (.block 1 (r [M 0 13,M 3 14,I false 1 13 14 15,K 15 16,S 16 17,D .gtr 17 300 18]<|
 c 18 (r [gF 2]<|
 .ret) k))<|
 R [M 3 11,D .add 11 1 12,M 12 3])))<|
 r [gT 2]<|
 .ret):=bt Tryz.func34
def Ga: Of aE 35 21 [.tmp 2,.tmp 3] (r [V z0 2,gF 3]<|
 q (r [M 0 4]<|
 .block 0 (r [D .eql 4 1 6,M 6 5]<|
 c 5 (r [V (i6 1) 2,gT 3]<|
 .ret) (r [D .eql 4 2 8,M 8 7]<|
 c 7 (r [V (i6 6) 2,gT 3]<|
 .ret) (r [D .eql 4 3 10,M 10 9]<|
 c 9 (r [V (i6 2) 2,gT 3]<|
 .ret) (r [D .eql 4 5 12,M 12 11]<|
 c 11 (r [V (i6 24) 2,gT 3]<|
 .ret) (r [D .eql 4 6 14,M 14 13]<|
 c 13 (r [V (i6 8) 2,gT 3]<|
 .ret) k))))))<|
 r [M 0 15,D .geq 15 1 16,M 16 17,MT 0 18 17,DT .leq 18 9 19 17,P 17 19 20,V z0 2,M 20 3]<|
 .ret):=bt Tryz.func35
def rq: Of aE 36 73 [.tmp 2,.tmp 3] (r [X 0 1,V e0 2,V z0 3]<|
 r [L 6 1 12,C 73 [t 12] 13,M 13 11,E 11 0 14,E 11 1 15,E 11 2 16,E 11 3 17,J [e0,.ai,.ai,z0,z0,.ai] 4,W 6 4 14,M 15 5,M 16 6,M 17 7]<|
 q (.block 0 (r [M 7 19,D .neq 19 0 20,M 20 18]<|
 c 18 (r [M 7 21,V e0 2,M 21 3]<|
 .ret) (r [L 6 4 23,L 6 1 24,C 74 [t 23,t 24] 25,U 25 26,M 26 22]<|
 c 22 (r [V e0 2,V (i6 4) 3]<|
 .ret) k)))<|
 q (.draw [A 0 1 27,K 27 28,Q 75 [t 28] 29,A 3 1 30,K 30 31,Q 76 [t 31] 32,B .add 29 32 33,A 4 1 34,K 34 35,Q 76 [t 35] 36,B .add 33 36 37,M 37 8] [])<|
 q (.draw [M 8 38,A 1 1 39,K 39 40,Q 77 [t 40,(.c (.fn (.func 78) [] []))] 41,A 2 1 42,K 42 43,Q 77 [t 43,(.c (.fn (.func 79) [] []))] 44,B .add 41 44 45,A 5 1 46,K 46 47,N 47 48,Q 76 [t 48] 49,B .add 45 49 50,B .add 38 50 51,M 51 8] [])<|
 q (r [A 5 1 52,K 52 53,N 53 54,V z0 55]<|
 .block 1 (.loop (r [B .lss 55 54 56]<|
 q (c 56 k (.exit 1))<|
 q (.block 2 (r [I true 2 53 55 57,L 2 57 58,J [.ai,.ai] 10,W 2 10 58]<|
 .draw [M 8 59,A 0 10 60,K 60 61,Q 80 [t 61] 62,A 1 10 63,K 63 64,Q 80 [t 64] 65,B .add 62 65 66,B .add 59 66 67,M 67 8] []))<|
 R [D .add 55 1 68,M 68 55])))<|
 gR [M 8 69,S 69 70,D .gtr 70 1400 71] 71 [V e0 2,V (i6 5) 3]<|
 r [M 8 72,M 72 2,V z0 3]<|
 .ret):=bt Tryz.func36
def Il: Of aE 37 38 [.tmp 2] (r [X 0 1,V z0 2]<|
 r [V z0 3]<|
 q (r [A 1 1 4,L 6 4 5,gU [e0,.ai,.ai,z0,z0,.ai] [] 6,C 74 [t 5,t 6] 7,U 7 8]<|
 c 8 (R [M 3 9,D .or 9 1 10,M 10 3]) k)<|
 q (r [A 7 1 11,K 11 12,aU (.bin .neq (t 12) (.c e0)) 13,M 13 14,AF 8 1 15 14,KF 15 16 14,DF .neq 16 0 17 14,O 14 17 18]<|
 c 18 (R [M 3 19,D .or 19 2 20,M 20 3]) k)<|
 q (r [A 9 1 21,K 21 22,N 22 23,D .gtr 23 0 24]<|
 c 24 (R [M 3 25,D .or 25 4 26,M 26 3]) k)<|
 q (r [A 10 1 27,K 27 28,D .neq 28 0 29]<|
 c 29 (R [M 3 30,D .or 30 8 31,M 31 3]) k)<|
 q (r [A 11 1 32,K 32 33,D .neq 33 0 34]<|
 c 34 (R [M 3 35,D .or 35 16 36,M 36 3]) k)<|
 r [M 3 37,M 37 2]<|
 .ret):=bt Tryz.func37
def Oq: Of aE 38 22 [.tmp 2] (r [gF 2]<|
 r [M 0 3,aU (.bin .neq (t 3) (.c e0)) 4,M 4 5,MT 0 6 5,CT 81 [t 6] 7 5,MT 0 8 5,ST 8 9 5,BT .eql 7 9 10 5,P 5 10 11,M 11 12,MT 0 13 12,ST 13 14 12,DT .leq 14 16 15 12,P 12 15 16,M 16 17,MT 0 18 17,CT 82 [t 18] 19 17,UT 19 20 17,P 17 20 21,M 21 2]<|
 .ret):=bt Tryz.func38
def Et: Of aE 39 9 [.tmp 2] (r [gF 2]<|
 r [M 0 3,D .geq 3 0 4,M 4 5,MT 0 6 5,DT .leq 6 1125899906842624 7 5,P 5 7 8,M 8 2]<|
 .ret):=bt Tryz.func39
def Eu: Of aE 40 11 [.tmp 2] (r [gF 2]<|
 r [M 0 3,N 3 4,D .leq 4 6 5,M 5 6,MT 0 7 6,CT 83 [t 7,(.c (.fn (.func 84) [] []))] 8 6,UT 8 9 6,P 6 9 10,M 10 2]<|
 .ret):=bt Tryz.func40
def vC: Of aE 43 14 [.tmp 4] (r [V e0 4]<|
 gR [M 1 5,N 5 6,D .eql 6 0 7] 7 [M 0 8,M 8 4]<|
 r [M 0 9,aU (.bin .add (t 9) (gS [32])) 10,M 1 11,C 91 [t 11] 12,B .add 10 12 13,M 13 4]<|
 .ret):=bt Tryz.func43
def Gb: Of aE 44 5 [.tmp 2] (r [V e0 2]<|
 r [M 0 3,C 90 [t 3,gS [32]] 4,M 4 2]<|
 .ret):=bt Tryz.func44
def Gc: Of aE 45 12 [.tmp 2] (r [V e0 2]<|
 q (r [M 0 3]<|
 .block 0 (r [D .eql 3 4 5,M 5 4]<|
 c 4 (r [V (.str [108,105,115,116]) 2]<|
 .ret) (r [D .eql 3 7 7,M 7 6]<|
 c 6 (r [V (.str [97,117,100,105,116]) 2]<|
 .ret) (r [D .eql 3 8 9,M 9 8]<|
 c 8 (r [V (.str [109,97,114,107]) 2]<|
 .ret) (r [D .eql 3 9 11,M 11 10]<|
 c 10 (r [V (.str [115,121,110,99]) 2]<|
 .ret) k)))))<|
 r [V e0 2]<|
 .ret):=bt Tryz.func45
def sG: Of aE 46 20 [] (r [M 0 2,Z 2 3,A 0 3 4,K 4 5,aU (.oT false .p (t 5) (.c .iE)) 6]<|
 c 6 (R [M 0 7,M 0 8,aU (.FE (t 8)) 9,aU (.CN 92 (t 9)) 10,aU (.FF 56 (t 10)) 11,Z 7 12,A 0 12 13,W 1 13 11]) (r [M 0 14,Z 14 15,A 0 15 16,K 16 17,M 0 18,aU (.Dl true (t 17) (t 18)) 19]<|
 c 19 (.stop) k)):=bt Tryz.func46
def oY: Of aE 47 31 [.tmp 2,.tmp 3] (r [X 0 1,V e0 2,V z0 3]<|
 r [L 6 1 10,C 93 [t 10] 11,M 11 9,E 9 0 12,E 9 1 13,E 9 2 14,E 9 3 15,J [e0,.ai,.ai,z0,z0,.ai] 4,W 6 4 12,M 13 5,M 14 6,M 15 7]<|
 q (.block 0 (r [M 7 17,D .neq 17 0 18,M 18 16]<|
 c 16 (r [M 7 19,V e0 2,M 19 3]<|
 .ret) (r [L 6 4 21,L 6 1 22,C 65 [t 21,t 22] 23,U 23 24,M 24 20]<|
 c 20 (r [V e0 2,V (i6 4) 3]<|
 .ret) k)))<|
 r [L 6 1 25,C 94 [t 25] 26,M 26 8]<|
 gR [M 8 27,S 27 28,D .gtr 28 1400 29] 29 [V e0 2,V (i6 5) 3]<|
 r [M 8 30,M 30 2,V z0 3]<|
 .ret):=bt Tryz.func47
def Im: Of aE 48 47 [.cell 2 true 12] (r [X 0 1,J [z0,e0,.ai,.ai,z0,z0,.ai,e0,z0,.ai,z0,z0] 2]<|
 r [A 0 1 4,K 4 5,gU [z0,e0,.ai,.ai,z0,z0,.ai,e0,z0,.ai,z0,z0] [(0,1,t 5)] 6,J [z0,e0,.ai,.ai,z0,z0,.ai,e0,z0,.ai,z0,z0] 3,W 12 3 6]<|
 q (r [A 0 1 7,K 7 8]<|
 .block 0 (r [D .eql 8 1 10,M 10 9]<|
 c 9 (R [A 1 1 11,L 6 11 12,A 1 3 13,W 6 13 12]) (r [D .eql 8 2 15,M 15 14]<|
 c 14 (.draw [A 7 1 16,K 16 17,A 8 1 18,K 18 19,A 9 1 20,K 20 21,A 7 3 22,W 1 22 17,A 8 3 23,W 1 23 19,A 9 3 24,W 1 24 21] [(t 18,t 22),(t 20,t 22),(t 20,t 23)]) (r [D .eql 8 3 26,M 26 25]<|
 c 25 (.draw [A 7 1 27,K 27 28,A 8 1 29,K 29 30,A 7 3 31,W 1 31 28,A 8 3 32,W 1 32 30] [(t 29,t 31)]) (r [D .eql 8 5 34,M 34 33]<|
 c 33 (.draw [A 10 1 35,K 35 36,A 11 1 37,K 37 38,A 10 3 39,W 1 39 36,A 11 3 40,W 1 40 38] [(t 37,t 39)]) (r [D .eql 8 6 42,M 42 41]<|
 c 41 (R [A 10 1 43,K 43 44,A 10 3 45,W 1 45 44]) k))))))<|
 r [L 12 3 46,W 12 2 46]<|
 .ret):=bt Tryz.func48
def Gd: Of aE 49 9 [.tmp 2] (r [gF 2]<|
 r [M 0 3,D .geq 3 0 4,M 4 5,MT 0 6 5,DT .leq 6 1125899906842624 7 5,P 5 7 8,M 8 2]<|
 .ret):=bt Tryz.func49
def KL: Of aE 50 22 [.tmp 2] (r [gF 2]<|
 r [M 0 3,aU (.bin .neq (t 3) (.c e0)) 4,M 4 5,MT 0 6 5,CT 95 [t 6] 7 5,MT 0 8 5,ST 8 9 5,BT .eql 7 9 10 5,P 5 10 11,M 11 12,MT 0 13 12,ST 13 14 12,DT .leq 14 16 15 12,P 12 15 16,M 16 17,MT 0 18 17,CT 96 [t 18] 19 17,UT 19 20 17,P 17 20 21,M 21 2]<|
 .ret):=bt Tryz.func50
def C_: Of aE 51 16 [.tmp 2] (r [gF 2]<|
 q (r [V z0 3]<|
 gL 0 [M 3 4,M 0 5,N 5 6,B .lss 4 6 7] 7 ((
 q (.block 1 (r [M 0 10,M 3 11,I true 3 10 11 12,L 3 12 13,C 97 [t 13] 14,U 14 15]<|
 c 15 (r [gF 2]<|
 .ret) k))<|
 R [M 3 8,D .add 8 1 9,M 9 3])))<|
 r [gT 2]<|
 .ret):=bt Tryz.func51
def mY: Of aE 59 23 [.tmp 4,.tmp 5,.tmp 6] (r [V e0 4,V e0 5,gF 6]<|
 q (r [M 0 8,M 1 9,C 102 [t 8,t 9] 10,M 10 7]<|
 r [M 7 11,D .geq 11 0 12]<|
 c 12 (q (.draw [M 0 13,M 7 14,aU (.lf (t 13) none (some (t 14))) 15,M 0 16,M 7 17,M 1 18,S 18 19,B .add 17 19 20,aU (.lf (t 16) (some (t 20)) none) 21,M 15 4,M 21 5,gT 6] [])<|
 .ret) k)<|
 r [M 0 22,M 22 4,V e0 5,gF 6]<|
 .ret):=bt Tryz.func59
def zb: Of aE 61 8 [.tmp 4] (r [gF 4]<|
 r [M 0 5,M 1 6,C 106 [t 5,t 6] 7,M 7 4]<|
 .ret):=bt Tryz.func61
def Ad: Of aE 64 54 [.cell 2 true 12,.tmp 3] (r [J [z0,e0,.ai,.ai,z0,z0,.ai,e0,z0,.ai,z0,z0] 2,gF 3]<|
 r [M 0 9,C 27 [t 9,gS [32]] 10,M 10 8,E 8 0 11,E 8 1 12,E 8 2 13,M 11 4,M 12 5,M 13 6]<|
 q (r [M 4 14]<|
 .block 0 (r [aU (.bin .eql (t 14) (gS [100,101,99,105,100,101])) 16,M 16 15]<|
 c 15 (r [M 0 17,C 109 [gJ 2,t 17] 18,E 18 0 19,E 18 1 20,W 12 2 19,M 20 3]<|
 .ret) (r [aU (.bin .eql (t 14) (gS [118,101,114,115,105,111,110])) 22,M 22 21]<|
 c 21 (r [M 0 23,C 109 [gJ 3,t 23] 24,E 24 0 25,E 24 1 26,W 12 2 25,M 26 3]<|
 .ret) (r [aU (.bin .eql (t 14) (gS [108,111,103])) 28,M 28 27]<|
 c 27 (r [M 0 29,C 110 [gJ 5,t 29,gJ 2] 30,E 30 0 31,E 30 1 32,W 12 2 31,M 32 3]<|
 .ret) (r [aU (.bin .eql (t 14) (gS [99,111,109,112,97,99,116])) 34,M 34 33]<|
 c 33 (r [M 0 35,C 110 [gJ 6,t 35,gJ 1] 36,E 36 0 37,E 36 1 38,W 12 2 37,M 38 3]<|
 .ret) k)))))<|
 q (r [V (i6 1) 7]<|
 gL 1 [M 7 39,D .leq 39 9 40] 40 ((
 q (.block 2 (r [M 0 43,aU (.bin .neq (t 43) (.c e0)) 44,M 44 45,MT 7 46 45,CT 45 [t 46] 47 45,MT 0 48 45,BT .eql 47 48 49 45,P 45 49 50]<|
 c 50 (r [M 7 51,gU [z0,e0,.ai,.ai,z0,z0,.ai,e0,z0,.ai,z0,z0] [(0,1,t 51)] 52,W 12 2 52,gT 3]<|
 .ret) k))<|
 R [M 7 41,D .add 41 1 42,M 42 7])))<|
 r [gU [z0,e0,.ai,.ai,z0,z0,.ai,e0,z0,.ai,z0,z0] [] 53,W 12 2 53,gF 3]<|
 .ret):=bt Tryz.func64
def Ae: Of aE 65 83 [.tmp 4] (r [X 0 2,X 1 3,gF 4]<|
 gR [A 0 2 6,K 6 7,A 0 3 8,K 8 9,B .neq 7 9 10,M 10 11,AF 3 2 12 11,KF 12 13 11,AF 3 3 14 11,KF 14 15 11,BF .neq 13 15 16 11,O 11 16 17,M 17 18,AF 4 2 19 18,KF 19 20 18,AF 4 3 21 18,KF 21 22 18,BF .neq 20 22 23 18,O 18 23 24,M 24 25,AF 5 2 26 25,KF 26 27 25,NF 27 28 25,AF 5 3 29 25,KF 29 30 25,NF 30 31 25,BF .neq 28 31 32 25,O 25 32 33] 33 [gF 4]<|
 q (r [V z0 5]<|
 gL 0 [M 5 34,A 5 2 35,K 35 36,N 36 37,B .lss 34 37 38] 38 ((
 q (.block 1 (q (.draw [A 5 2 41,K 41 42,M 5 43,I true 2 42 43 44,A 0 44 45,K 45 46,A 5 3 47,K 47 48,M 5 49,I true 2 48 49 50,A 0 50 51,K 51 52,Q 11 [t 46,t 52] 53,U 53 54,M 54 55,AF 5 2 56 55,KF 56 57 55,MF 5 58 55,IF true 2 57 58 59 55,AF 1 59 60 55,KF 60 61 55,AF 5 3 62 55,KF 62 63 55,MF 5 64 55,IF true 2 63 64 65 55,AF 1 65 66 55,KF 66 67 55,QF 11 [t 61,t 67] 68 55,UF 68 69 55,O 55 69 70] [])<|
 c 70 (r [gF 4]<|
 .ret) k))<|
 R [M 5 39,D .add 39 1 40,M 40 5])))<|
 r [A 1 2 71,K 71 72,A 1 3 73,K 73 74,C 111 [t 72,t 74] 75,M 75 76,AT 2 2 77 76,KT 77 78 76,AT 2 3 79 76,KT 79 80 76,CT 111 [t 78,t 80] 81 76,P 76 81 82,M 82 4]<|
 .ret):=bt Tryz.func65
def Ev: Of aE 66 26 [.tmp 4] (r [gF 4]<|
 gR [M 0 6,N 6 7,M 1 8,N 8 9,B .neq 7 9 10] 10 [gF 4]<|
 q (r [V z0 5]<|
 gL 0 [M 5 11,M 0 12,N 12 13,B .lss 11 13 14] 14 ((
 q (.block 1 (q (.draw [M 0 17,M 5 18,I true 3 17 18 19,L 3 19 20,M 1 21,M 5 22,I true 3 21 22 23,L 3 23 24,aU (.oa true true [.i,.i,.s] (t 20) (t 24)) 25] [])<|
 c 25 (r [gF 4]<|
 .ret) k))<|
 R [M 5 15,D .add 15 1 16,M 16 5])))<|
 r [gT 4]<|
 .ret):=bt Tryz.func66
def Da: Of aE 67 2 [.tmp 0] (r [V .ai 0]<|
 r [gB false 1 e0 6 [(0,gS [117,110,105,113,117,101]),(1,gS [102,105,114,115,116]),(2,gS [112,114,105,111,114,105,116,121]),(3,gS [97,110,121]),(4,gS [99,111,108,108,101,99,116]),(5,gS [114,117,108,101])] 1,M 1 0]<|
 .ret):=bt Tryz.func67
def KM: Of aE 68 2 [.tmp 0] (r [V .ai 0]<|
 r [gB false 1 e0 5 [(0,gS [108,105,115,116]),(1,gS [115,117,109]),(2,gS [108,101,97,115,116]),(3,gS [109,111,115,116]),(4,gS [99,111,117,110,116])] 1,M 1 0]<|
 .ret):=bt Tryz.func68
def Io: Of aE 69 2 [.tmp 0] (r [V .ai 0]<|
 r [gB false 1 e0 3 [(0,gS [105,110,116]),(1,gS [116,101,120,116]),(2,gS [98,111,111,108])] 1,M 1 0]<|
 .ret):=bt Tryz.func69
def KN: Of aE 70 25 [.tmp 4] (r [V e0 4]<|
 r [V e0 5]<|
 q (r [V z0 6]<|
 gL 0 [M 6 7,M 0 8,N 8 9,B .lss 7 9 10] 10 ((
 q (.block 1 (q (r [M 6 13,D .gtr 13 0 14]<|
 c 14 (R [M 5 15,M 1 16,B .add 15 16 17,M 17 5]) k)<|
 R [M 5 18,M 0 19,M 6 20,I false 1 19 20 21,K 21 22,B .add 18 22 23,M 23 5]))<|
 R [M 6 11,D .add 11 1 12,M 12 6])))<|
 r [M 5 24,M 24 4]<|
 .ret):=bt Tryz.func70
def KO: Of aE 71 20 [.tmp 2] (r [X 0 1,V e0 2]<|
 q (r [A 0 1 3,K 3 4]<|
 .block 0 (r [D .eql 4 1 6,M 6 5]<|
 c 5 (r [A 1 1 7,K 7 8,C 31 [t 8] 9,M 9 2]<|
 .ret) (r [D .eql 4 2 11,M 11 10]<|
 c 10 (r [A 2 1 12,K 12 13,C 112 [t 13] 14,M 14 2]<|
 .ret) (r [D .eql 4 3 16,M 16 15]<|
 c 15 (gR [A 1 1 17,K 17 18,D .eql 18 1 19] 19 [V (.str [116,114,117,101]) 2]<|
 r [V (.str [102,97,108,115,101]) 2]<|
 .ret) k))))<|
 r [V (.str [110,117,108,108]) 2]<|
 .ret):=bt Tryz.func71
def Db: Of aE 72 20 [.tmp 2] (r [gF 2]<|
 gR [M 0 4,N 4 5,D .gtr 5 12 6] 6 [gF 2]<|
 q (r [V z0 3]<|
 gL 0 [M 3 7,M 0 8,N 8 9,B .lss 7 9 10] 10 ((
 q (.block 1 (r [M 0 13,M 3 14,I true 3 13 14 15,A 0 15 16,K 16 17,S 17 18,D .gtr 18 300 19]<|
 c 19 (r [gF 2]<|
 .ret) k))<|
 R [M 3 11,D .add 11 1 12,M 12 3])))<|
 r [gT 2]<|
 .ret):=bt Tryz.func72
def wK: Of aE 73 106 [.cell 2 true 6,.tmp 3,.tmp 4,.tmp 5] (r [X 0 1,J [e0,.ai,.ai,z0,z0,.ai] 2,V z0 3,V z0 4,V z0 5]<|
 .scope 0 (r [L 6 1 22,C 113 [t 22] 23,M 23 21,E 21 0 24,E 21 1 25,E 21 2 26,E 21 3 27,J [e0,.ai,.ai,z0,z0,.ai,.ai] 6,W 7 6 24,M 25 7,M 26 8,M 27 9]<|
 gR [M 9 28,D .neq 28 0 29] 29 [gU [e0,.ai,.ai,z0,z0,.ai] [] 30,M 7 31,M 8 32,M 9 33,W 6 2 30,M 31 3,M 32 4,M 33 5]<|
 r [L 6 1 34,J [e0,.ai,.ai,z0,z0,.ai] 10,W 6 10 34]<|
 r [A 5 10 35,⟨.store 1 (t 35) (.c .ai),none,none⟩]<|
 r [J [.ai,.ai] 11]<|
 r [V (.fn (.func 114) [] []) 12]<|
 q (.label 0)<|
 q (r [A 6 6 36,K 36 37,N 37 38,V z0 39]<|
 .block 0 (.loop (r [B .lss 39 38 40]<|
 q (c 40 k (.exit 0))<|
 q (.block 1 (r [M 39 41,I true 2 37 39 42,L 2 42 43,J [.ai,.ai] 14,M 41 13,W 2 14 43]<|
 r [gU [.ai,.ai] [] 44,M 13 45,W 2 11 44,M 45 7]<|
 q (r [A 0 14 46,K 46 47,N 47 48,V z0 49]<|
 .block 2 (.loop (r [B .lss 49 48 50]<|
 q (c 50 k (.exit 2))<|
 q (.block 3 (r [M 49 51,I true 3 47 49 52,L 3 52 53,J [.bool false,.bool false,.ai] 16,M 51 15,W 3 16 53]<|
 r [V e0 17]<|
 r [L 3 16 55,C 115 [t 55] 56,M 56 54,E 54 0 57,E 54 1 58,M 57 17,M 58 9]<|
 r [M 15 59,M 59 8]<|
 r [M 12 60,A 0 11 61,M 17 62,M 9 63,aU (.call false (t 60) [t 61,t 62,t 63]) 64,U 64 65]<|
 c 65 (.exit 0) k))<|
 R [D .add 49 1 66,M 66 49])))<|
 q (r [A 1 14 67,K 67 68,N 68 69,V z0 70]<|
 .block 4 (.loop (r [B .lss 70 69 71]<|
 q (c 71 k (.exit 4))<|
 q (.block 5 (r [M 70 72,I true 6 68 70 73,L 6 73 74,J [z0,z0,z0,e0,e0,.ai] 19,M 72 18,W 6 19 74]<|
 r [V e0 20]<|
 r [L 6 19 76,C 116 [t 76] 77,M 77 75,E 75 0 78,E 75 1 79,M 78 20,M 79 9]<|
 r [A 1 1 80,K 80 81,N 81 82,M 18 83,B .add 82 83 84,M 84 8]<|
 r [M 12 85,A 1 11 86,M 20 87,M 9 88,aU (.call false (t 85) [t 86,t 87,t 88]) 89,U 89 90]<|
 c 90 (.exit 0) k))<|
 R [D .add 70 1 91,M 91 70])))<|
 R [A 5 10 92,K 92 93,L 2 11 94,gB true 2 (.agg [.ai,.ai]) 1 [(0,t 94)] 95,gA true 2 93 95 96,A 5 10 97,W 1 97 96]))<|
 R [D .add 39 1 98,M 98 39])))<|
 gR [M 9 99,D .neq 99 0 100] 100 [gU [e0,.ai,.ai,z0,z0,.ai] [] 101,M 7 102,M 8 103,M 9 104,W 6 2 101,M 102 3,M 103 4,M 104 5]<|
 r [L 6 10 105,W 6 2 105,V z0 3,V z0 4,V z0 5]<|
 .ret) (.seq k <|
 q (r [A 6 6 36,K 36 37,N 37 38,V z0 39]<|
 .block 0 (.loop (r [B .lss 39 38 40]<|
 q (c 40 k (.exit 0))<|
 q (.block 1 (r [M 39 41,I true 2 37 39 42,L 2 42 43,J [.ai,.ai] 14,M 41 13,W 2 14 43]<|
 r [gU [.ai,.ai] [] 44,M 13 45,W 2 11 44,M 45 7]<|
 q (r [A 0 14 46,K 46 47,N 47 48,V z0 49]<|
 .block 2 (.loop (r [B .lss 49 48 50]<|
 q (c 50 k (.exit 2))<|
 q (.block 3 (r [M 49 51,I true 3 47 49 52,L 3 52 53,J [.bool false,.bool false,.ai] 16,M 51 15,W 3 16 53]<|
 r [V e0 17]<|
 r [L 3 16 55,C 115 [t 55] 56,M 56 54,E 54 0 57,E 54 1 58,M 57 17,M 58 9]<|
 r [M 15 59,M 59 8]<|
 r [M 12 60,A 0 11 61,M 17 62,M 9 63,aU (.call false (t 60) [t 61,t 62,t 63]) 64,U 64 65]<|
 c 65 (.exit 0) k))<|
 R [D .add 49 1 66,M 66 49])))<|
 q (r [A 1 14 67,K 67 68,N 68 69,V z0 70]<|
 .block 4 (.loop (r [B .lss 70 69 71]<|
 q (c 71 k (.exit 4))<|
 q (.block 5 (r [M 70 72,I true 6 68 70 73,L 6 73 74,J [z0,z0,z0,e0,e0,.ai] 19,M 72 18,W 6 19 74]<|
 r [V e0 20]<|
 r [L 6 19 76,C 116 [t 76] 77,M 77 75,E 75 0 78,E 75 1 79,M 78 20,M 79 9]<|
 r [A 1 1 80,K 80 81,N 81 82,M 18 83,B .add 82 83 84,M 84 8]<|
 r [M 12 85,A 1 11 86,M 20 87,M 9 88,aU (.call false (t 85) [t 86,t 87,t 88]) 89,U 89 90]<|
 c 90 (.exit 0) k))<|
 R [D .add 70 1 91,M 91 70])))<|
 R [A 5 10 92,K 92 93,L 2 11 94,gB true 2 (.agg [.ai,.ai]) 1 [(0,t 94)] 95,gA true 2 93 95 96,A 5 10 97,W 1 97 96]))<|
 R [D .add 39 1 98,M 98 39])))<|
 gR [M 9 99,D .neq 99 0 100] 100 [gU [e0,.ai,.ai,z0,z0,.ai] [] 101,M 7 102,M 8 103,M 9 104,W 6 2 101,M 102 3,M 103 4,M 104 5]<|
 r [L 6 10 105,W 6 2 105,V z0 3,V z0 4,V z0 5]<|
 .ret)):=bt Tryz.func73
def Ip: Of aE 74 45 [.tmp 4] (r [X 0 2,X 1 3,gF 4]<|
 r [A 0 2 5,K 5 6,A 0 3 7,K 7 8,B .eql 6 8 9,M 9 10,AT 3 2 11 10,KT 11 12 10,AT 3 3 13 10,KT 13 14 10,BT .eql 12 14 15 10,P 10 15 16,M 16 17,AT 4 2 18 17,KT 18 19 17,AT 4 3 20 17,KT 20 21 17,BT .eql 19 21 22 17,P 17 22 23,M 23 24,AT 1 2 25 24,KT 25 26 24,AT 1 3 27 24,KT 27 28 24,CT 117 [t 26,t 28,(.c (.fn (.func 118) [] []))] 29 24,P 24 29 30,M 30 31,AT 2 2 32 31,KT 32 33 31,AT 2 3 34 31,KT 34 35 31,CT 117 [t 33,t 35,(.c (.fn (.func 118) [] []))] 36 31,P 31 36 37,M 37 38,AT 5 2 39 38,KT 39 40 38,AT 5 3 41 38,KT 41 42 38,CT 119 [t 40,t 42,(.c (.fn (.func 120) [] []))] 43 38,P 38 43 44,M 44 4]<|
 .ret):=bt Tryz.func74
def KP: Of aE 75 8 [.tmp 2] (r [V e0 2]<|
 r [M 0 3,S 3 4,C 76 [t 4] 5,M 0 6,B .add 5 6 7,M 7 2]<|
 .ret):=bt Tryz.func75
def Mk: Of aE 76 24 [.tmp 2] (r [V e0 2]<|
 r [M 0 5,C 121 [t 5] 6,M 6 3]<|
 r [aU (.mK ⟨false,1⟩ (.int .u8 0) (.c z0) (gJ 10)) 7,M 7 4]<|
 q (gL 0 [M 3 8,aU (.bin .geq (t 8) (.c (.int .u64 128))) 9] 9 ((
 .block 1 (r [M 4 10,M 3 11,C 122 [t 11] 12,aU (.bin .or (t 12) (.c (.int .u8 128))) 13,gB false 1 (.int .u8 0) 1 [(0,t 13)] 14,gA false 1 10 14 15,M 15 4]<|
 R [M 3 16,aU (.bin .shr (t 16) (.c (.int .u64 7))) 17,M 17 3]))))<|
 r [M 4 18,M 3 19,C 122 [t 19] 20,gB false 1 (.int .u8 0) 1 [(0,t 20)] 21,gA false 1 18 21 22,aU (.sj (t 22)) 23,M 23 2]<|
 .ret):=bt Tryz.func76
def Dc: Of aE 77 32 [.tmp 4] (r [V e0 4]<|
 r [M 0 8,N 8 9,C 76 [t 9] 10,M 10 5]<|
 q (r [M 0 11,N 11 12,V z0 13]<|
 .block 0 (.loop (r [B .lss 13 12 14]<|
 q (c 14 k (.exit 0))<|
 q (.block 1 (r [I true 3 11 13 15,L 3 15 16,J [e0,z0,.ai] 7,W 3 7 16]<|
 .draw [M 5 17,A 0 7 18,K 18 19,Q 75 [t 19] 20,A 1 7 21,K 21 22,Q 76 [t 22] 23,B .add 20 23 24,M 1 25,L 3 7 26,aU (.call true (t 25) [t 26]) 27,B .add 24 27 28,B .add 17 28 29,M 29 5] []))<|
 R [D .add 13 1 30,M 30 13])))<|
 r [M 5 31,M 31 4]<|
 .ret):=bt Tryz.func77
def Dd: Of aE 78 3 [.tmp 2] (r [X 0 1,V e0 2]<|
 r [V e0 2]<|
 .ret):=bt Tryz.func78
def Ge: Of aE 79 12 [.tmp 2] (r [X 0 1,V e0 2]<|
 r [A 2 1 6,K 6 7,C 123 [t 7] 8,M 8 5,E 5 0 9,E 5 1 10,M 9 3,M 10 4]<|
 r [M 3 11,M 11 2]<|
 .ret):=bt Tryz.func79
def Gf: Of aE 80 18 [.tmp 2] (r [V e0 2]<|
 r [V e0 3]<|
 q (r [M 0 6,N 6 7,V z0 8]<|
 .block 0 (.loop (r [B .lss 8 7 9]<|
 q (c 9 k (.exit 0))<|
 q (.block 1 (r [I false 1 6 8 10,K 10 11,M 11 5]<|
 R [M 3 12,M 5 13,C 75 [t 13] 14,B .add 12 14 15,M 15 3]))<|
 R [D .add 8 1 16,M 16 8])))<|
 r [M 3 17,M 17 2]<|
 .ret):=bt Tryz.func80
def Ot: Of aE 81 13 [.tmp 2] (r [V z0 2]<|
 gR [M 0 3,aU (.bin .eql (t 3) (.c e0)) 4,M 4 5,MF 0 6 5,⟨.fU (t 6) (.c z0),(some 7),some (5,false)⟩,CF 124 [t 7] 8 5,UF 8 9 5,O 5 9 10] 10 [V z0 2]<|
 r [M 0 11,C 125 [t 11,(.c (.fn (.func 126) [] []))] 12,M 12 2]<|
 .ret):=bt Tryz.func81
def Gg: Of aE 82 14 [.tmp 2] (r [gF 2]<|
 q (r [M 0 3]<|
 .block 0 (q (r [aU (.bin .eql (t 3) (gS [97,110,100])) 5,M 5 4]<|
 c 4 k (r [aU (.bin .eql (t 3) (gS [111,114])) 6,M 6 4]<|
 c 4 k (r [aU (.bin .eql (t 3) (gS [110,111,116])) 7,M 7 4]<|
 c 4 k (r [aU (.bin .eql (t 3) (gS [105,102])) 8,M 8 4]<|
 c 4 k (r [aU (.bin .eql (t 3) (gS [116,104,101,110])) 9,M 9 4]<|
 c 4 k (r [aU (.bin .eql (t 3) (gS [101,108,115,101])) 10,M 10 4]<|
 c 4 k (r [aU (.bin .eql (t 3) (gS [116,114,117,101])) 11,M 11 4]<|
 c 4 k (r [aU (.bin .eql (t 3) (gS [102,97,108,115,101])) 12,M 12 4]<|
 c 4 k (R [aU (.bin .eql (t 3) (gS [110,117,108,108])) 13,M 13 4])))))))))<|
 c 4 (r [gT 2]<|
 .ret) k))<|
 r [gF 2]<|
 .ret):=bt Tryz.func82
def sH: Of aE 83 9 [.tmp 4] (r [gF 4]<|
 r [M 0 5,M 1 6,C 128 [t 5,t 6] 7,D .geq 7 0 8,M 8 4]<|
 .ret):=bt Tryz.func83
def Bu: Of aE 84 6 [.tmp 2] (r [X 0 1,gF 2]<|
 r [L 3 1 3,C 85 [t 3] 4,D .neq 4 0 5,M 5 2]<|
 .ret):=bt Tryz.func84
def Iq: Of aE 85 39 [.tmp 2] (r [X 0 1,V z0 2]<|
 r [gF 3]<|
 q (r [A 0 1 4,K 4 5]<|
 .block 0 (r [D .eql 5 0 7,M 7 6]<|
 c 6 (R [L 3 1 8,gU [z0,z0,e0] [] 9,aU (.oa false true [.i,.i,.s] (t 8) (t 9)) 10,M 10 3]) (r [D .eql 5 1 12,M 12 11]<|
 c 11 (R [A 2 1 13,K 13 14,aU (.bin .eql (t 14) (.c e0)) 15,M 15 3]) (r [D .eql 5 2 17,M 17 16]<|
 c 16 (R [A 1 1 18,K 18 19,D .eql 19 0 20,M 20 21,AT 2 1 22 21,KT 22 23 21,CT 129 [t 23] 24 21,P 21 24 25,M 25 3]) (r [D .eql 5 3 27,M 27 26]<|
 c 26 (R [A 2 1 28,K 28 29,aU (.bin .eql (t 29) (.c e0)) 30,M 30 31,AT 1 1 32 31,KT 32 33 31,DT .andNot 33 1 34 31,DT .eql 34 0 35 31,P 31 35 36,M 36 3]) k)))))<|
 gR [M 3 37,U 37 38] 38 [V (i6 2) 2]<|
 r [V z0 2]<|
 .ret):=bt Tryz.func85
def Bv: Of aE 87 2 [.tmp 0] (r [V .ai 0]<|
 r [gB false 1 e0 7 [(0,.c e0),(1,gS [117,110,105,113,117,101]),(2,gS [102,105,114,115,116]),(3,gS [112,114,105,111,114,105,116,121]),(4,gS [97,110,121]),(5,gS [99,111,108,108,101,99,116]),(6,gS [114,117,108,101])] 1,M 1 0]<|
 .ret):=bt Tryz.func87
def Ir: Of aE 88 2 [.tmp 0] (r [V .ai 0]<|
 r [gB false 1 e0 5 [(0,gS [108,105,115,116]),(1,gS [115,117,109]),(2,gS [108,101,97,115,116]),(3,gS [109,111,115,116]),(4,gS [99,111,117,110,116])] 1,M 1 0]<|
 .ret):=bt Tryz.func88
def Gh: Of aE 89 2 [.tmp 0] (r [V .ai 0]<|
 r [gB false 1 e0 4 [(0,.c e0),(1,gS [105,110,116]),(2,gS [116,101,120,116]),(3,gS [98,111,111,108])] 1,M 1 0]<|
 .ret):=bt Tryz.func89
def KQ: Of aE 91 26 [.tmp 2] (r [V e0 2]<|
 r [aU (.jI ⟨false,1⟩) 3]<|
 q (r [M 0 8,N 8 9,V z0 10]<|
 .block 0 (.loop (r [B .lss 10 9 11]<|
 q (c 11 k (.exit 0))<|
 q (.block 1 (r [I true 3 8 10 12,L 3 12 13,J [z0,z0,e0] 5,W 3 5 13]<|
 r [L 3 5 15,C 132 [t 15] 16,M 16 14,E 14 0 17,E 14 1 18,M 17 6,M 18 7]<|
 R [M 3 19,M 6 20,gB false 1 e0 1 [(0,t 20)] 21,gA false 1 19 21 22,M 22 3]))<|
 R [D .add 10 1 23,M 23 10])))<|
 r [M 3 24,C 90 [t 24,gS [44,32]] 25,M 25 2]<|
 .ret):=mM ⟨[],[],[(3,⟨false,1⟩)],[],[],[]⟩ Tryz.func91
