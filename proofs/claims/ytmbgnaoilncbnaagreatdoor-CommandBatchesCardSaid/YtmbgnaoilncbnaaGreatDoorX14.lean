/- Part. -/
import Derived.Test.YtmbgnaoilncbnaaGreatDoorX13
import Derived.KernelRfl
set_option linter.all false
namespace Go.Proofs.YtmbgnaoilncbnaaGreatDoor
open Go.AM Go.AM.W
set_option maxRecDepth 10000
def sW: aI:=r [V z0 6]<|
 r [V z0 7]<|
 q (r [M 0 8,M 1 9,B .and 8 9 10,D .eql 10 0 11]<|
 c 11 (r [M 7 12,M 12 6]<|
 .ret) k)<|
 r [M 2 13,aD (.call false (t 13) []) 14,M 14 6]<|
 .ret
def yB: Of Tryz.prog jX 15 [.tmp 6] sW:=aZ {} Tryz.func69
def pN: aI:=r [V .ae 6]<|
 r [V .ae 7]<|
 q (r [M 0 8,M 1 9,B .and 8 9 10,D .eql 10 0 11]<|
 c 11 (r [M 7 12,M 12 6]<|
 .ret) k)<|
 r [M 2 13,aD (.call false (t 13) []) 14,M 14 6]<|
 .ret
def vg: Of Tryz.prog l_ 15 [.tmp 6] pN:=aZ {} Tryz.func70
def xM: aI:=r [V .ae 2]<|
 r [M 0 7,Z 7 8,A 0 8 9,K 9 10,aD (.call false (.c (.fn (.func sr) [] [])) [(t 10),(.c (i6 6))]) 11,M 11 6,E 6 0 12,E 6 1 13,E 6 2 14,M 12 3,M 13 4,M 14 5]<|
 r [M 0 15,M 4 16,Z 15 17,A 0 17 18,W 1 18 16]<|
 r [M 3 19,M 19 2]<|
 .ret
def Gi: Of Tryz.prog qA 20 [.tmp 2] xM:=aZ {} Tryz.func71
def EA: aI:=r [V z0 2,V e0 3,V z0 4]<|
 r [V (.int .u64 0) 5,V (.int .u64 1) 6]<|
 q (r [V z0 7]<|
 .block 0 (.loop (q (r [M 7 9,M 0 10,S 10 11,B .lss 9 11 12]<|
 c 12 k (.exit 0))<|
 q (.block 1 (r [M 0 15,M 7 16,aD (.gL (t 15) (t 16)) 17,aD (.bin .rem (t 17) (.c (.int .u8 128))) 18,aD (.jP .u64 (t 18)) 19,M 19 8]<|
 q (r [M 7 20,D .eql 20 9 21,M 21 22,MT 0 23 22,MT 7 24 22,⟨.gL (t 23) (t 24),(some 25),some (22,true)⟩,⟨.bin .gtr (t 25) (.c (.int .u8 1)),(some 26),some (22,true)⟩,P 22 26 27,M 27 28,MF 7 29 28,DF .gtr 29 0 30 28,MF 30 31 28,MT 0 32 31,MT 7 33 31,⟨.gL (t 32) (t 33),(some 34),some (31,true)⟩,⟨.bin .eql (t 34) (.c (.int .u8 0)),(some 35),some (31,true)⟩,PF 31 35 36 28,O 28 36 37]<|
 c 37 (r [V z0 2,V e0 3,V (i6 4) 4]<|
 .ret) k)<|
 r [M 5 38,M 8 39,M 6 40,B .mul 39 40 41,B .add 38 41 42,M 42 5]<|
 r [M 6 43,aD (.bin .mul (t 43) (.c (.int .u64 128))) 44,M 44 6]<|
 r [M 0 45,M 7 46,aD (.gL (t 45) (t 46)) 47,aD (.bin .lss (t 47) (.c (.int .u8 128))) 48]<|
 c 48 (q (.draw [M 5 49,Q yX [t 49] 50,M 0 51,M 7 52,D .add 52 1 53,aD (.pG (t 51) (some (t 53)) none) 54,M 50 2,M 54 3,V z0 4] [])<|
 .ret) k))<|
 R [M 7 13,D .add 13 1 14,M 14 7])))<|
 r [V z0 2,V e0 3,V (i6 3) 4]<|
 .ret
def Oh: Of Tryz.prog fj 55 [.tmp 2,.tmp 3,.tmp 4] EA:=aZ {} Tryz.func72
def Dh: aI:=r [V e0 4,V e0 5,V z0 6]<|
 r [M 0 11,C fj [t 11] 12,M 12 10,E 10 0 13,E 10 1 14,E 10 2 15,M 13 7,M 14 8,M 15 9]<|
 q (.block 0 (r [M 9 17,D .neq 17 0 18,M 18 16]<|
 c 16 (r [M 9 19,V e0 4,V e0 5,M 19 6]<|
 .ret) (r [M 7 21,D .lss 21 0 22,M 22 20]<|
 c 20 (r [V e0 4,V e0 5,V (i6 4) 6]<|
 .ret) (r [M 7 24,M 1 25,B .gtr 24 25 26,M 26 23]<|
 c 23 (r [V e0 4,V e0 5,V (i6 5) 6]<|
 .ret) (r [M 7 28,M 8 29,S 29 30,B .gtr 28 30 31,M 31 27]<|
 c 27 (r [V e0 4,V e0 5,V (i6 3) 6]<|
 .ret) k)))))<|
 q (.draw [M 8 32,M 7 33,aD (.pG (t 32) none (some (t 33))) 34,M 8 35,M 7 36,aD (.pG (t 35) (some (t 36)) none) 37,M 34 4,M 37 5,V z0 6] [])<|
 .ret
def MN: Of Tryz.prog jQ 38 [.tmp 4,.tmp 5,.tmp 6] Dh:=aZ {} Tryz.func73
def EB: aI:=r [V .ae 4,V e0 5,V z0 6]<|
 r [M 0 15,C fj [t 15] 16,M 16 14,E 14 0 17,E 14 1 18,E 14 2 19,M 17 7,M 18 8,M 19 9]<|
 q (.block 0 (r [M 9 21,D .neq 21 0 22,M 22 20]<|
 c 20 (r [M 9 23,V .ae 4,V e0 5,M 23 6]<|
 .ret) (r [M 7 25,D .lss 25 0 26,M 26 24]<|
 c 24 (r [V .ae 4,V e0 5,V (i6 4) 6]<|
 .ret) (r [M 7 28,M 1 29,B .gtr 28 29 30,M 30 27]<|
 c 27 (r [V .ae 4,V e0 5,V (i6 5) 6]<|
 .ret) k))))<|
 r [aD (.iZ ⟨true,3⟩) 10]<|
 q (.block 1 (.loop (q (r [M 10 31,N 31 32,M 7 33,B .lss 32 33 34]<|
 c 34 k (.exit 1))<|
 .block 2 (r [M 8 36,C CV [t 36] 37,M 37 35,E 35 0 38,E 35 1 39,E 35 2 40,J [z0,z0,e0] 11,W 3 11 38,M 39 12,M 40 13]<|
 q (r [M 13 41,D .neq 41 0 42]<|
 c 42 (r [M 13 43,V .ae 4,V e0 5,M 43 6]<|
 .ret) k)<|
 r [M 10 44,L 3 11 45,aD (.bK false ⟨true,3⟩ (.agg [z0,z0,e0]) 1 [(0,(t 45))]) 46,aD (.app none ⟨true,3⟩ (t 44) (t 46)) 47,M 47 10]<|
 R [M 12 48,M 48 8]))))<|
 r [M 10 49,M 8 50,M 49 4,M 50 5,V z0 6]<|
 .ret
def Oi: Of Tryz.prog sj 51 [.tmp 4,.tmp 5,.tmp 6] EB:=aZ ⟨[],[],[(10,⟨true,3⟩)],[],[],[]⟩ Tryz.func74
def IY: aI:=r [X 0 1,V z0 2]<|
 r [V z0 3]<|
 q (r [A 1 1 4,L 6 4 5,aD (.build [e0,.ae,.ae,z0,z0,.ae] []) 6,C qW [t 5,t 6] 7,U 7 8]<|
 c 8 (R [M 3 9,D .or 9 1 10,M 10 3]) k)<|
 q (r [A 7 1 11,K 11 12,aD (.bin .neq (t 12) (.c e0)) 13,M 13 14,AF 8 1 15 14,KF 15 16 14,DF .neq 16 0 17 14,O 14 17 18]<|
 c 18 (R [M 3 19,D .or 19 2 20,M 20 3]) k)<|
 q (r [A 9 1 21,K 21 22,N 22 23,D .gtr 23 0 24]<|
 c 24 (R [M 3 25,D .or 25 4 26,M 26 3]) k)<|
 q (r [A 10 1 27,K 27 28,D .neq 28 0 29]<|
 c 29 (R [M 3 30,D .or 30 8 31,M 31 3]) k)<|
 q (r [A 11 1 32,K 32 33,D .neq 33 0 34]<|
 c 34 (R [M 3 35,D .or 35 16 36,M 36 3]) k)<|
 r [M 3 37,M 37 2]<|
 .ret
def RQ: Of Tryz.prog AE 38 [.tmp 2] IY:=aZ {} Tryz.func75
def PW: aI:=r [V (.bool false) 2]<|
 r [M 0 3,aD (.bin .neq (t 3) (.c e0)) 4,M 4 5,MT 0 6 5,CT BQ [t 6] 7 5,MT 0 8 5,ST 8 9 5,BT .eql 7 9 10 5,P 5 10 11,M 11 12,MT 0 13 12,ST 13 14 12,DT .leq 14 16 15 12,P 12 15 16,M 16 17,MT 0 18 17,CT yY [t 18] 19 17,UT 19 20 17,P 17 20 21,M 21 2]<|
 .ret
def XA: Of Tryz.prog qB 22 [.tmp 2] PW:=aZ {} Tryz.func76
def ED: aI:=r [V (.bool false) 2]<|
 r [M 0 3,D .geq 3 0 4,M 4 5,MT 0 6 5,DT .leq 6 1125899906842624 7 5,P 5 7 8,M 8 2]<|
 .ret
def Oj: Of Tryz.prog sk 9 [.tmp 2] ED:=aZ {} Tryz.func77
def EE: aI:=r [V (.bool false) 2]<|
 r [M 0 3,N 3 4,D .leq 4 6 5,M 5 6,MT 0 7 6,⟨.call false (.c (.fn (.func lO) [] [])) [(t 7),(.c (.fn (.func pA) [] []))],(some 8),some (6,true)⟩,UT 8 9 6,P 6 9 10,M 10 2]<|
 .ret
def Ol: Of Tryz.prog xk 11 [.tmp 2] EE:=aZ {} Tryz.func78
def EF: aI:=r [V (.bool false) 4]<|
 q (r [M 0 6,N 6 7,M 1 8,N 8 9,B .neq 7 9 10]<|
 c 10 (r [V (.bool false) 4]<|
 .ret) k)<|
 q (r [V z0 5]<|
 .block 0 (.loop (q (r [M 5 11,M 0 12,N 12 13,B .lss 11 13 14]<|
 c 14 k (.exit 0))<|
 q (.block 1 (q (.draw [M 0 17,M 5 18,I true 3 17 18 19,L 3 19 20,M 1 21,M 5 22,I true 3 21 22 23,L 3 23 24,aD (.qd true true [.i,.i,.s] (t 20) (t 24)) 25] [])<|
 c 25 (r [V (.bool false) 4]<|
 .ret) k))<|
 R [M 5 15,D .add 15 1 16,M 16 5])))<|
 r [V (.bool true) 4]<|
 .ret
def Om: Of Tryz.prog sn 26 [.tmp 4] EF:=aZ {} Tryz.func79
def IZ: aI:=r [V e0 2]<|
 r [M 0 6,N 6 7,C gw [t 7] 8,aD (.MW (t 8)) 9,M 9 3]<|
 q (r [M 0 10,N 10 11,V z0 12]<|
 .block 0 (.loop (r [B .lss 12 11 13]<|
 q (c 13 k (.exit 0))<|
 q (.block 1 (r [I false 1 10 12 14,K 14 15,M 15 5]<|
 R [M 3 16,M 5 17,C kp [t 17] 18,aD (.app none ⟨false,1⟩ (t 16) (t 18)) 19,M 19 3]))<|
 R [D .add 12 1 20,M 20 12])))<|
 r [M 3 21,aD (.wX (t 21)) 22,M 22 2]<|
 .ret
def RR: Of Tryz.prog AG 23 [.tmp 2] IZ:=aZ {} Tryz.func80
def mI: aI:=r [V .ae 6,V e0 7,V z0 8]<|
 r [M 0 15,M 1 16,C xn [t 15,t 16] 17,M 17 14,E 14 0 18,E 14 1 19,E 14 2 20,M 18 9,M 19 10,M 20 11]<|
 q (r [M 11 21,D .neq 21 0 22]<|
 c 22 (r [M 11 23,V .ae 6,V e0 7,M 23 8]<|
 .ret) k)<|
 r [aD (.iZ ⟨false,1⟩) 12]<|
 q (.block 0 (.loop (q (r [M 12 24,N 24 25,M 9 26,B .lss 25 26 27]<|
 c 27 k (.exit 0))<|
 .block 1 (r [V e0 13]<|
 q (r [M 10 29,M 2 30,C lf [t 29,t 30] 31,M 31 28,E 28 0 32,E 28 1 33,E 28 2 34,M 32 13,M 33 10,M 34 11]<|
 r [M 11 35,D .neq 35 0 36]<|
 c 36 (r [M 11 37,V .ae 6,V e0 7,M 37 8]<|
 .ret) k)<|
 R [M 12 38,M 13 39,aD (.bK false ⟨false,1⟩ e0 1 [(0,(t 39))]) 40,aD (.app none ⟨false,1⟩ (t 38) (t 40)) 41,M 41 12]))))<|
 r [M 12 42,M 10 43,M 42 6,M 43 7,V z0 8]<|
 .ret
def oJ: Of Tryz.prog uN 44 [.tmp 6,.tmp 7,.tmp 8] mI:=aZ ⟨[],[],[(12,⟨false,1⟩)],[],[],[]⟩ Tryz.func81
def M9: aI:=r [V e0 2]<|
 r [M 0 5,C CW [t 5] 6,M 6 3]<|
 r [aD (.iZ ⟨false,1⟩) 4]<|
 q (.block 0 (.loop (q (r [M 3 7,aD (.bin .geq (t 7) (.c (.int .u64 128))) 8]<|
 c 8 k (.exit 0))<|
 .block 1 (r [M 4 9,M 3 10,aD (.bin .rem (t 10) (.c (.int .u64 128))) 11,aD (.bin .add (.c (.int .u64 128)) (t 11)) 12,aD (.jP .u8 (t 12)) 13,aD (.bK false ⟨false,1⟩ (.int .u8 0) 1 [(0,(t 13))]) 14,aD (.app none ⟨false,1⟩ (t 9) (t 14)) 15,M 15 4]<|
 R [M 3 16,aD (.bin .quo (t 16) (.c (.int .u64 128))) 17,M 17 3]))))<|
 r [M 4 18,M 3 19,aD (.jP .u8 (t 19)) 20,aD (.bK false ⟨false,1⟩ (.int .u8 0) 1 [(0,(t 20))]) 21,aD (.app none ⟨false,1⟩ (t 18) (t 21)) 22,aD (.wX (t 22)) 23,M 23 2]<|
 .ret
def VJ: Of Tryz.prog fy 24 [.tmp 2] M9:=aZ ⟨[],[],[(4,⟨false,1⟩)],[],[],[]⟩ Tryz.func82
def Kw: aI:=r [V e0 2]<|
 r [M 0 3,S 3 4,C fy [t 4] 5,M 0 6,B .add 5 6 7,M 7 2]<|
 .ret
def Ue: Of Tryz.prog je 8 [.tmp 2] Kw:=aZ {} Tryz.func83
def Bu: aI:=r [V .ae 6,V e0 7,V z0 8]<|
 r [M 0 17,C fj [t 17] 18,M 18 16,E 16 0 19,E 16 1 20,E 16 2 21,M 19 9,M 20 10,M 21 11]<|
 q (.block 0 (r [M 11 23,D .neq 23 0 24,M 24 22]<|
 c 22 (r [M 11 25,V .ae 6,V e0 7,M 25 8]<|
 .ret) (r [M 9 27,D .lss 27 0 28,M 28 26]<|
 c 26 (r [V .ae 6,V e0 7,V (i6 4) 8]<|
 .ret) (r [M 9 30,M 1 31,B .gtr 30 31 32,M 32 29]<|
 c 29 (r [V .ae 6,V e0 7,V (i6 5) 8]<|
 .ret) k))))<|
 r [aD (.iZ ⟨false,1⟩) 12]<|
 q (.block 1 (.loop (q (r [M 12 33,N 33 34,M 9 35,B .lss 34 35 36]<|
 c 36 k (.exit 1))<|
 .block 2 (r [M 10 38,M 2 39,C jQ [t 38,t 39] 40,M 40 37,E 37 0 41,E 37 1 42,E 37 2 43,M 41 13,M 42 14,M 43 15]<|
 q (r [M 15 44,D .neq 44 0 45]<|
 c 45 (r [M 15 46,V .ae 6,V e0 7,M 46 8]<|
 .ret) k)<|
 r [M 12 47,M 13 48,aD (.bK false ⟨false,1⟩ e0 1 [(0,(t 48))]) 49,aD (.app none ⟨false,1⟩ (t 47) (t 49)) 50,M 50 12]<|
 R [M 14 51,M 51 10]))))<|
 r [M 12 52,M 10 53,M 52 6,M 53 7,V z0 8]<|
 .ret
def Kx: Of Tryz.prog uO 54 [.tmp 6,.tmp 7,.tmp 8] Bu:=aZ ⟨[],[],[(12,⟨false,1⟩)],[],[],[]⟩ Tryz.func84
def xN: aI:=r [V (.bool false) 4]<|
 q (r [M 0 6,N 6 7,M 1 8,N 8 9,B .neq 7 9 10]<|
 c 10 (r [V (.bool false) 4]<|
 .ret) k)<|
 q (r [M 0 11,N 11 12,V z0 13]<|
 .block 0 (.loop (r [B .lss 13 12 14]<|
 q (c 14 k (.exit 0))<|
 q (.block 1 (r [M 13 15,M 15 5]<|
 q (.draw [M 0 16,M 5 17,I true 3 16 17 18,L 3 18 19,M 1 20,M 5 21,I true 3 20 21 22,L 3 22 23,aD (.qd true true [.i,.i,.s] (t 19) (t 23)) 24] [])<|
 c 24 (r [V (.bool false) 4]<|
 .ret) k))<|
 R [D .add 13 1 25,M 25 13])))<|
 r [V (.bool true) 4]<|
 .ret
def Gj: Of Tryz.prog mQ 26 [.tmp 4] xN:=aZ {} Tryz.func85
def Di: aI:=r [V (.bool false) 2]<|
 q (r [M 0 4,N 4 5,D .gtr 5 12 6]<|
 c 6 (r [V (.bool false) 2]<|
 .ret) k)<|
 q (r [V z0 3]<|
 .block 0 (.loop (q (r [M 3 7,M 0 8,N 8 9,B .lss 7 9 10]<|
 c 10 k (.exit 0))<|
 q (.block 1 (r [M 0 13,M 3 14,I true 3 13 14 15,A 0 15 16,K 16 17,S 17 18,D .gtr 18 300 19]<|
 c 19 (r [V (.bool false) 2]<|
 .ret) k))<|
 R [M 3 11,D .add 11 1 12,M 12 3])))<|
 r [V (.bool true) 2]<|
 .ret
def MO: Of Tryz.prog v8 20 [.tmp 2] Di:=aZ {} Tryz.func86
def sx: aI:=r [V (.bool false) 6]<|
 q (r [M 0 10,N 10 11,M 1 12,N 12 13,B .neq 11 13 14]<|
 c 14 (r [V (.bool false) 6]<|
 .ret) k)<|
 q (r [M 0 15,N 15 16,V z0 17]<|
 .block 0 (.loop (r [B .lss 17 16 18]<|
 q (c 18 k (.exit 0))<|
 q (.block 1 (r [M 17 19,I true 3 15 17 20,L 3 20 21,J [e0,z0,.ae] 8,M 19 7,W 3 8 21]<|
 r [M 1 22,M 7 23,I true 3 22 23 24,L 3 24 25,J [e0,z0,.ae] 9,W 3 9 25]<|
 r [M 2 26,L 3 8 27,L 3 9 28,aD (.call false (t 26) [(t 27),(t 28)]) 29,U 29 30]<|
 c 30 (r [V (.bool false) 6]<|
 .ret) k))<|
 R [D .add 17 1 31,M 31 17])))<|
 r [V (.bool true) 6]<|
 .ret
def Ba: Of Tryz.prog j4 32 [.tmp 6] sx:=aZ {} Tryz.func87
def yC: aI:=r [X 0 2,X 1 3,V (.bool false) 4]<|
 r [A 0 2 5,K 5 6,A 0 3 7,K 7 8,B .eql 6 8 9,M 9 10,AT 1 2 11 10,KT 11 12 10,AT 1 3 13 10,KT 13 14 10,BT .eql 12 14 15 10,P 10 15 16,M 16 17,AT 2 2 18 17,KT 18 19 17,AT 2 3 20 17,KT 20 21 17,CT mQ [t 19,t 21] 22 17,P 17 22 23,M 23 4]<|
 .ret
def HG: Of Tryz.prog jC 24 [.tmp 4] yC:=aZ {} Tryz.func88
def uD: aI:=r [V (.bool false) 6]<|
 q (r [M 0 10,N 10 11,M 1 12,N 12 13,B .neq 11 13 14]<|
 c 14 (r [V (.bool false) 6]<|
 .ret) k)<|
 q (r [M 0 15,N 15 16,V z0 17]<|
 .block 0 (.loop (r [B .lss 17 16 18]<|
 q (c 18 k (.exit 0))<|
 q (.block 1 (r [M 17 19,I true 2 15 17 20,L 2 20 21,J [.ae,.ae] 8,M 19 7,W 2 8 21]<|
 r [M 1 22,M 7 23,I true 2 22 23 24,L 2 24 25,J [.ae,.ae] 9,W 2 9 25]<|
 r [M 2 26,L 2 8 27,L 2 9 28,aD (.call false (t 26) [(t 27),(t 28)]) 29,U 29 30]<|
 c 30 (r [V (.bool false) 6]<|
 .ret) k))<|
 R [D .add 17 1 31,M 31 17])))<|
 r [V (.bool true) 6]<|
 .ret
def Dj: Of Tryz.prog nV 32 [.tmp 6] uD:=aZ {} Tryz.func89
def Bv: aI:=r [X 0 2,X 1 3,V (.bool false) 4]<|
 r [A 0 2 5,K 5 6,A 0 3 7,K 7 8,C mb [t 6,t 8] 9,M 9 10,AT 1 2 11 10,KT 11 12 10,AT 1 3 13 10,KT 13 14 10,CT mb [t 12,t 14] 15 10,P 10 15 16,M 16 4]<|
 .ret
def Ky: Of Tryz.prog pz 17 [.tmp 4] Bv:=aZ {} Tryz.func90
def Kz: aI:=r [V (.int .u64 0) 2]<|
 r [M 0 3,aD (.jP .u64 (t 3)) 4,aD (.bin .shl (t 4) (.c (.int .u64 1))) 5,M 0 6,aD (.bin .shr (t 6) (.c (.int .u64 63))) 7,aD (.jP .u64 (t 7)) 8,B .xor 5 8 9,M 9 2]<|
 .ret
def Uf: Of Tryz.prog CR 10 [.tmp 2] Kz:=aZ {} Tryz.func91
def zV: aI:=r [V (.int .u8 0) 2]<|
 r [M 0 3,aD (.jP .u8 (t 3)) 4,aD (.bin .and (t 4) (.c (.int .u8 127))) 5,M 5 2]<|
 .ret
def JL: Of Tryz.prog oH 6 [.tmp 2] zV:=aZ {} Tryz.func92
def Dk: aI:=r [X 0 1,J [e0,.ae,.ae,z0,z0,.ae,.ae] 2,V z0 3,V z0 4,V z0 5]<|
 q (r [L 6 1 12,C AL [t 12] 13,M 13 6]<|
 r [M 6 14,D .neq 14 0 15]<|
 c 15 (r [aD (.build [e0,.ae,.ae,z0,z0,.ae,.ae] []) 16,M 6 17,W 7 2 16,V (i6 (-1)) 3,V z0 4,M 17 5]<|
 .ret) k)<|
 r [L 6 1 18,aD (.build [e0,.ae,.ae,z0,z0,.ae,.ae] [(0,6,(t 18))]) 19,J [e0,.ae,.ae,z0,z0,.ae,.ae] 7,W 7 7 19]<|
 q (r [V z0 8]<|
 .block 0 (.loop (q (r [M 8 20,A 5 1 21,K 21 22,N 22 23,B .lss 20 23 24]<|
 c 24 k (.exit 0))<|
 q (.block 1 (q (.draw [L 6 1 28,A 5 1 29,K 29 30,M 8 31,I true 2 30 31 32,L 2 32 33,Q CX [t 28,t 33] 34,M 34 27,E 27 0 35,E 27 1 36,E 27 2 37,J [.ae,.ae] 9,W 2 9 35,M 36 10,M 37 11] [])<|
 q (r [M 11 38,D .neq 38 0 39]<|
 c 39 (r [aD (.build [e0,.ae,.ae,z0,z0,.ae,.ae] []) 40,M 8 41,M 10 42,M 11 43,W 7 2 40,M 41 3,M 42 4,M 43 5]<|
 .ret) k)<|
 R [A 6 7 44,K 44 45,L 2 9 46,aD (.bK false ⟨true,2⟩ (.agg [.ae,.ae]) 1 [(0,(t 46))]) 47,aD (.app none ⟨true,2⟩ (t 45) (t 47)) 48,A 6 7 49,W 1 49 48]))<|
 R [M 8 25,D .add 25 1 26,M 26 8])))<|
 r [L 7 7 50,W 7 2 50,V z0 3,V z0 4,V z0 5]<|
 .ret
def I0: Of Tryz.prog CU 51 [.cell 2 true 7,.tmp 3,.tmp 4,.tmp 5] Dk:=aZ {} Tryz.func93
def pO: aI:=r [X 0 1,V e0 2,V z0 3]<|
 q (r [L 3 1 6,C oa [t 6] 7,U 7 8]<|
 c 8 (r [V e0 2,V (i6 2) 3]<|
 .ret) k)<|
 r [L 3 1 10,C xo [t 10] 11,M 11 9,E 9 0 12,E 9 1 13,M 12 4,M 13 5]<|
 q (r [M 5 14,U 14 15,M 15 16,MF 4 17 16,SF 17 18 16,DF .gtr 18 200 19 16,O 16 19 20]<|
 c 20 (r [V e0 2,V (i6 5) 3]<|
 .ret) k)<|
 r [M 4 21,M 21 2,V z0 3]<|
 .ret
def q_: Of Tryz.prog xm 22 [.tmp 2,.tmp 3] pO:=aZ {} Tryz.func94
def Dl: aI:=r [X 0 1,V e0 2,V z0 3]<|
 q (.block 0 (r [L 6 1 6,C oc [t 6] 7,U 7 8,M 8 5]<|
 c 5 (r [V e0 2,V (i6 2) 3]<|
 .ret) (r [L 6 1 10,C nx [t 10] 11,D .gtr 11 12 12,M 12 9]<|
 c 9 (r [V e0 2,V (i6 12) 3]<|
 .ret) k)))<|
 r [L 6 1 13,aD (.call false (.c (.fn (.func gB) [] [])) [(t 13),(.c z0)]) 14,M 14 4]<|
 q (r [M 4 15,S 15 16,D .gtr 16 200 17]<|
 c 17 (r [V e0 2,V (i6 5) 3]<|
 .ret) k)<|
 r [M 4 18,M 18 2,V z0 3]<|
 .ret
def I1: Of Tryz.prog pJ 19 [.tmp 2,.tmp 3] Dl:=aZ {} Tryz.func95
def EG: aI:=r [V e0 4]<|
 r [M 0 7,N 7 8,C fy [t 8] 9,M 9 5]<|
 q (r [V z0 6]<|
 .block 0 (.loop (q (r [M 6 10,M 0 11,N 11 12,B .lss 10 12 13]<|
 c 13 k (.exit 0))<|
 q (.block 1 (q (.draw [M 5 16,M 0 17,M 6 18,I true 3 17 18 19,A 0 19 20,K 20 21,Q je [t 21] 22,B .add 16 22 23,M 0 24,M 6 25,I true 3 24 25 26,A 1 26 27,K 27 28,Q fy [t 28] 29,B .add 23 29 30,M 30 5] [])<|
 r [M 1 31]<|
 c 31 (R [M 5 32,M 0 33,M 6 34,I true 3 33 34 35,A 2 35 36,K 36 37,C zB [t 37] 38,B .add 32 38 39,M 39 5]) k))<|
 R [M 6 14,D .add 14 1 15,M 15 6])))<|
 r [M 5 40,M 40 4]<|
 .ret
def Oo: Of Tryz.prog sq 41 [.tmp 4] EG:=aZ {} Tryz.func96
def lp: aI:=r [V e0 4,V e0 5,V z0 6]<|
 r [M 0 11,M 1 12,C xn [t 11,t 12] 13,M 13 10,E 10 0 14,E 10 1 15,E 10 2 16,M 14 7,M 15 8,M 16 9]<|
 q (.block 0 (r [M 9 18,D .neq 18 0 19,M 19 17]<|
 c 17 (r [M 9 20,V e0 4,V e0 5,M 20 6]<|
 .ret) (r [M 7 22,M 8 23,S 23 24,B .gtr 22 24 25,M 25 21]<|
 c 21 (r [V e0 4,V e0 5,V (i6 3) 6]<|
 .ret) k)))<|
 q (.draw [M 8 26,M 7 27,aD (.pG (t 26) none (some (t 27))) 28,M 8 29,M 7 30,aD (.pG (t 29) (some (t 30)) none) 31,M 28 4,M 31 5,V z0 6] [])<|
 .ret
def mJ: Of Tryz.prog lf 32 [.tmp 4,.tmp 5,.tmp 6] lp:=aZ {} Tryz.func97
def EH: aI:=r [V z0 2,V e0 3,V z0 4]<|
 r [V (.int .u64 0) 5]<|
 q (r [M 0 8,S 8 9,aD (.min (t 9) [(.c (i6 10))]) 10,V z0 11]<|
 .block 0 (.loop (r [B .lss 11 10 12]<|
 q (c 12 k (.exit 0))<|
 q (.block 1 (r [M 11 13,M 13 6]<|
 r [M 0 14,M 6 15,aD (.gL (t 14) (t 15)) 16,M 16 7]<|
 q (r [M 6 17,D .gtr 17 0 18,M 18 19,MT 7 20 19,⟨.bin .eql (t 20) (.c (.int .u8 0)),(some 21),some (19,true)⟩,P 19 21 22,M 22 23,MF 6 24 23,DF .eql 24 9 25 23,MF 25 26 23,MT 7 27 26,⟨.bin .gtr (t 27) (.c (.int .u8 1)),(some 28),some (26,true)⟩,PF 26 28 29 23,O 23 29 30]<|
 c 30 (r [V z0 2,V e0 3,V (i6 4) 4]<|
 .ret) k)<|
 r [M 5 31,M 7 32,aD (.jP .i64 (t 32)) 33,C xq [t 33] 34,aD (.jP .u64 (t 34)) 35,M 6 36,aD (.bin .mul (.c (i6 7)) (t 36)) 37,B .shl 35 37 38,B .or 31 38 39,M 39 5]<|
 r [M 7 40,aD (.bin .lss (t 40) (.c (.int .u8 128))) 41]<|
 c 41 (q (.draw [M 5 42,Q yZ [t 42] 43,M 0 44,M 6 45,D .add 45 1 46,aD (.pG (t 44) (some (t 46)) none) 47,M 43 2,M 47 3,V z0 4] [])<|
 .ret) k))<|
 R [D .add 11 1 48,M 48 11])))<|
 r [V z0 2,V e0 3,V (i6 3) 4]<|
 .ret
def Oq: Of Tryz.prog jv 49 [.tmp 2,.tmp 3,.tmp 4] EH:=aZ {} Tryz.func98
def EI: aI:=r [V .ae 4,V e0 5,V z0 6]<|
 r [M 0 13,C jv [t 13] 14,M 14 12,E 12 0 15,E 12 1 16,E 12 2 17,M 15 7,M 16 8,M 17 9]<|
 q (.block 0 (r [M 9 19,D .neq 19 0 20,M 20 18]<|
 c 18 (r [M 9 21,V .ae 4,V e0 5,M 21 6]<|
 .ret) (r [M 7 23,D .lss 23 0 24,M 24 22]<|
 c 22 (r [V .ae 4,V e0 5,V (i6 4) 6]<|
 .ret) (r [M 7 26,M 1 27,B .gtr 26 27 28,M 28 25]<|
 c 25 (r [V .ae 4,V e0 5,V (i6 5) 6]<|
 .ret) k))))<|
 r [aD (.iZ ⟨true,3⟩) 10]<|
 q (.block 1 (.loop (q (r [M 10 29,N 29 30,M 7 31,B .lss 30 31 32]<|
 c 32 k (.exit 1))<|
 .block 2 (r [J [z0,z0,e0] 11]<|
 q (r [M 8 34,C CY [t 34] 35,M 35 33,E 33 0 36,E 33 1 37,E 33 2 38,W 3 11 36,M 37 8,M 38 9]<|
 r [M 9 39,D .neq 39 0 40]<|
 c 40 (r [M 9 41,V .ae 4,V e0 5,M 41 6]<|
 .ret) k)<|
 R [M 10 42,L 3 11 43,aD (.bK false ⟨true,3⟩ (.agg [z0,z0,e0]) 1 [(0,(t 43))]) 44,aD (.app none ⟨true,3⟩ (t 42) (t 44)) 45,M 45 10]))))<|
 r [M 10 46,M 8 47,M 46 4,M 47 5,V z0 6]<|
 .ret
def Ot: Of Tryz.prog sr 48 [.tmp 4,.tmp 5,.tmp 6] EI:=aZ ⟨[],[],[(10,⟨true,3⟩)],[],[],[]⟩ Tryz.func99
def y9: aI:=r [X 0 1,V z0 2]<|
 q (r [A 0 1 5,K 5 6,C qB [t 6] 7,U 7 8]<|
 c 8 (r [V (i6 13) 2]<|
 .ret) k)<|
 q (r [A 1 1 9,K 9 10,aD (.call false (.c (.fn (.func qC) [] [])) [(t 10),(.c (.bool false))]) 11,M 11 3]<|
 r [M 3 12,D .neq 12 0 13]<|
 c 13 (r [M 3 14,M 14 2]<|
 .ret) k)<|
 q (r [A 2 1 15,K 15 16,A 3 1 17,K 17 18,D .eql 18 3 19,C qC [t 16,t 19] 20,M 20 4]<|
 r [M 4 21,D .neq 21 0 22]<|
 c 22 (r [M 4 23,M 23 2]<|
 .ret) k)<|
 q (.block 0 (r [L 6 1 25,C su [t 25] 26,U 26 27,M 27 24]<|
 c 24 (r [V (i6 17) 2]<|
 .ret) (r [A 5 1 29,K 29 30,N 30 31,D .gtr 31 24 32,M 32 28]<|
 c 28 (r [V (i6 24) 2]<|
 .ret) k)))<|
 r [V z0 2]<|
 .ret
def EJ: Of Tryz.prog yW 33 [.tmp 2] y9:=aZ {} Tryz.func100
def Bb: aI:=r [X 0 2,X 1 3,J [.ae,.ae] 4,V z0 5,V z0 6]<|
 q (r [A 0 3 15,K 15 16,N 16 17,A 1 2 18,K 18 19,N 19 20,B .neq 17 20 21,M 21 22,AF 1 3 23 22,KF 23 24 22,NF 24 25 22,AF 2 2 26 22,KF 26 27 22,NF 27 28 22,BF .neq 25 28 29 22,O 22 29 30]<|
 c 30 (r [L 2 4 31,W 2 4 31,V z0 5,V (i6 17) 6]<|
 .ret) k)<|
 q (r [A 0 3 32,K 32 33,N 33 34,V z0 35]<|
 .block 0 (.loop (r [B .lss 35 34 36]<|
 q (c 36 k (.exit 0))<|
 q (.block 1 (r [M 35 37,I false 1 33 35 38,K 38 39,M 37 7,M 39 8]<|
 r [L 6 2 41,M 7 42,M 8 43,C CZ [t 41,t 42,t 43] 44,M 44 40,E 40 0 45,E 40 1 46,J [(.bool false),(.bool false),.ae] 9,W 3 9 45,M 46 10]<|
 q (r [M 10 47,D .neq 47 0 48]<|
 c 48 (r [L 2 4 49,M 7 50,M 10 51,W 2 4 49,M 50 5,M 51 6]<|
 .ret) k)<|
 R [A 0 4 52,K 52 53,L 3 9 54,aD (.bK false ⟨true,3⟩ (.agg [(.bool false),(.bool false),.ae]) 1 [(0,(t 54))]) 55,aD (.app none ⟨true,3⟩ (t 53) (t 55)) 56,A 0 4 57,W 1 57 56]))<|
 R [D .add 35 1 58,M 58 35])))<|
 q (r [A 1 3 59,K 59 60,N 60 61,V z0 62]<|
 .block 2 (.loop (r [B .lss 62 61 63]<|
 q (c 63 k (.exit 2))<|
 q (.block 3 (r [M 62 64,I false 1 60 62 65,K 65 66,M 64 11,M 66 12]<|
 r [L 6 2 68,M 11 69,M 12 70,C AN [t 68,t 69,t 70] 71,M 71 67,E 67 0 72,E 67 1 73,J [z0,z0,z0,e0,e0,.ae] 13,W 6 13 72,M 73 14]<|
 q (r [M 14 74,D .neq 74 0 75]<|
 c 75 (q (.draw [L 2 4 76,A 1 2 77,K 77 78,N 78 79,M 11 80,B .add 79 80 81,M 14 82,W 2 4 76,M 81 5,M 82 6] [((t 77),(t 4))])<|
 .ret) k)<|
 R [A 1 4 83,K 83 84,L 6 13 85,aD (.bK false ⟨true,6⟩ (.agg [z0,z0,z0,e0,e0,.ae]) 1 [(0,(t 85))]) 86,aD (.app none ⟨true,6⟩ (t 84) (t 86)) 87,A 1 4 88,W 1 88 87]))<|
 R [D .add 62 1 89,M 89 62])))<|
 r [L 2 4 90,W 2 4 90,V z0 5,V z0 6]<|
 .ret
def Gk: Of Tryz.prog AH 91 [.cell 4 true 2,.tmp 5,.tmp 6] Bb:=aZ {} Tryz.func101
def KA: aI:=r [X 0 1,V z0 2]<|
 q (.block 0 (r [A 0 1 4,K 4 5,M 5 6,AT 1 1 7 6,KT 7 8 6,UT 8 9 6,P 6 9 10,M 10 11,AT 2 1 12 11,KT 12 13 11,NT 13 14 11,DT .eql 14 0 15 11,P 11 15 16,M 16 3]<|
 c 3 (r [V z0 2]<|
 .ret) (r [A 0 1 18,K 18 19,M 19 20,AF 2 1 21 20,KF 21 22 20,NF 22 23 20,DF .eql 23 0 24 20,O 20 24 25,M 25 26,AF 2 1 27 26,KF 27 28 26,NF 28 29 26,DF .gtr 29 12 30 26,O 26 30 31,M 31 17]<|
 c 17 (r [V (i6 2) 2]<|
 .ret) (r [A 2 1 33,K 33 34,aD (.call false (.c (.fn (.func mB) [] [])) [(t 34),(.c (.fn (.func tZ) [] []))]) 35,M 35 32]<|
 c 32 (r [V (i6 2) 2]<|
 .ret) k))))<|
 r [V z0 2]<|
 .ret
def Ug: Of Tryz.prog sN 36 [.tmp 2] KA:=aZ {} Tryz.func102
def rM: aI:=r [X 0 1,V e0 2,V z0 3]<|
 r [A 1 1 10,L 6 10 11,C xu [t 11] 12,M 12 9,E 9 0 13,E 9 1 14,M 13 4,M 14 5]<|
 q (r [M 5 15,D .neq 15 0 16]<|
 c 16 (r [M 5 17,V e0 2,M 17 3]<|
 .ret) k)<|
 q (r [A 0 1 18,K 18 19]<|
 .block 0 (r [D .eql 19 1 21,M 21 20]<|
 c 20 (r [M 4 22,M 22 2,V z0 3]<|
 .ret) (q (r [D .eql 19 2 24,M 24 23]<|
 c 23 k (r [D .eql 19 3 25,M 25 23]<|
 c 23 k (r [D .eql 19 4 26,M 26 23]<|
 c 23 k (R [D .eql 19 5 27,M 27 23]))))<|
 c 23 (r [A 0 1 28,K 28 29,C zC [t 29] 30,aD (.bin .add (t 30) (.c (.str [32]))) 31,M 4 32,B .add 31 32 33,M 33 2,V z0 3]<|
 .ret) k)))<|
 r [A 7 1 35,L 6 35 36,C xu [t 36] 37,M 37 34,E 34 0 38,E 34 1 39,M 38 6,M 39 5]<|
 q (r [M 5 40,D .neq 40 0 41]<|
 c 41 (r [M 5 42,V e0 2,M 42 3]<|
 .ret) k)<|
 r [V (.str [91]) 7,V (.str [93]) 8]<|
 q (r [A 13 1 43,K 43 44]<|
 c 44 (R [V (.str [93]) 7]) k)<|
 q (r [A 14 1 45,K 45 46]<|
 c 46 (R [V (.str [91]) 8]) k)<|
 r [M 7 47,M 4 48,B .add 47 48 49,aD (.bin .add (t 49) (.c (.str [46,46]))) 50,M 6 51,B .add 50 51 52,M 8 53,B .add 52 53 54,M 54 2,V z0 3]<|
 .ret
def sX: Of Tryz.prog Fk 55 [.tmp 2,.tmp 3] rM:=aZ {} Tryz.func103
def Gl: aI:=r [X 0 1,V (.bool false) 2]<|
 q (q (.draw [A 5 1 3,K 3 4,N 4 5,A 0 1 6,K 6 7,Q y2 [t 7] 8,B .neq 5 8 9] [])<|
 c 9 (r [V (.bool false) 2]<|
 .ret) k)<|
 q (r [A 0 1 10,K 10 11]<|
 .block 0 (r [D .eql 11 1 13,M 13 12]<|
 c 12 (r [A 4 1 14,K 14 15,aD (.bin .eql (t 15) (.c e0)) 16,M 16 17,AT 1 1 18 17,LT 3 18 19 17,CT kL [t 19] 20 17,DT .eql 20 0 21 17,P 17 21 22,M 22 23,AT 1 1 24 23,AT 0 24 25 23,KT 25 26 23,DT .neq 26 1 27 23,MT 27 28 23,AF 1 1 29 28,AF 1 29 30 28,KF 30 31 28,DF .geq 31 0 32 28,OT 28 32 33 23,P 23 33 34,M 34 2]<|
 .ret) (r [D .eql 11 2 36,M 36 35]<|
 c 35 (r [A 1 1 37,L 3 37 38,aD (.build [z0,z0,e0] []) 39,aD (.qd false true [.i,.i,.s] (t 38) (t 39)) 40,M 40 41,AT 4 1 42 41,KT 42 43 41,CT qB [t 43] 44 41,P 41 44 45,M 45 2]<|
 .ret) k)))<|
 r [A 1 1 46,L 3 46 47,aD (.build [z0,z0,e0] []) 48,aD (.qd false true [.i,.i,.s] (t 47) (t 48)) 49,M 49 50,AT 4 1 51 50,KT 51 52 50,⟨.bin .eql (t 52) (.c e0),(some 53),some (50,true)⟩,P 50 53 54,M 54 55,AT 5 1 56 55,KT 56 57 55,⟨.call false (.c (.fn (.func mC) [] [])) [(t 57),(.c (.fn (.func qD) [] []))],(some 58),some (55,true)⟩,UT 58 59 55,P 55 59 60,M 60 2]<|
 .ret
def PX: Of Tryz.prog nh 61 [.tmp 2] Gl:=aZ {} Tryz.func105
def I2: aI:=r [X 0 1,V z0 2]<|
 r [V z0 3]<|
 q (r [A 5 1 6,K 6 7,N 7 8,V z0 9]<|
 .block 0 (.loop (r [B .lss 9 8 10]<|
 q (c 10 k (.exit 0))<|
 q (.block 1 (r [I true 6 7 9 11,L 6 11 12,J [z0,z0,z0,e0,e0,.ae] 5,W 6 5 12]<|
 R [M 3 13,L 6 5 14,C mA [t 14] 15,aD (.max (t 13) [(t 15)]) 16,M 16 3]))<|
 R [D .add 9 1 17,M 17 9])))<|
 r [M 3 18,D .add 18 1 19,M 19 2]<|
 .ret
def RT: Of Tryz.prog mA 20 [.tmp 2] I2:=aZ {} Tryz.func106
def gP: aI:=r [X 1 4]<|
 q (r [L 6 4 12,C y3 [t 12] 13,M 2 14,B .lss 13 14 15]<|
 c 15 (r [M 0 16,Z 16 17,A 0 17 18,aD (.call false (.c (.fn (.func ef) [] [])) [(t 18),(.c (.int .u8 40))]) 19]<|
 r [M 0 20,L 6 4 21,aD (.call false (.c (.fn (.func gg) [] [])) [(t 20),(t 21),(.c z0)]) 22]<|
 r [M 0 23,Z 23 24,A 0 24 25,aD (.call false (.c (.fn (.func ef) [] [])) [(t 25),(.c (.int .u8 41))]) 26]<|
 .ret) k)<|
 r [A 0 4 27,K 27 28]<|
 .block 0 (r [D .eql 28 1 63,M 63 62]<|
 c 62 (r [A 1 4 65,L 3 65 66,C C1 [t 66] 67,M 67 64,E 64 0 68,E 64 1 69,M 68 6,M 69 7]<|
 R [M 0 70,Z 70 71,A 0 71 72,M 6 73,C fF [t 72,t 73] 74]) (r [D .eql 28 2 76,M 76 75]<|
 c 75 (.draw [M 0 77,Z 77 78,A 0 78 79,A 4 4 80,K 80 81,C fF [t 79,t 81] 82] []) (r [D .eql 28 3 84,M 84 83]<|
 c 83 (r [M 0 85,Z 85 86,A 0 86 87,aD (.call false (.c (.fn (.func ef) [] [])) [(t 87),(.c (.int .u8 45))]) 88]<|
 R [M 0 89,A 5 4 90,K 90 91,aD (.cz ⟨true,6⟩ none (t 91) (.c z0)) 92,L 6 92 93,aD (.call false (.c (.fn (.func gg) [] [])) [(t 89),(t 93),(.c (i6 6))]) 94]) (r [D .eql 28 16 96,M 96 95]<|
 c 95 (r [aD (.build [e0,e0,e0] [(0,1,(.c (.str [105,102,32]))),(1,1,(.c (.str [32,116,104,101,110,32]))),(2,1,(.c (.str [32,101,108,115,101,32])))]) 97,V z0 98]<|
 .block 1 (.loop (r [D .lss 98 3 99]<|
 q (c 99 k (.exit 1))<|
 q (.block 2 (r [M 98 100,aD (.Cv ⟨false,1⟩ 3 (t 97) (t 98)) 101,M 100 8,M 101 9]<|
 r [M 0 102,Z 102 103,A 0 103 104,M 9 105,C fF [t 104,t 105] 106]<|
 R [M 0 107,A 5 4 108,K 108 109,M 8 110,I true 6 109 110 111,L 6 111 112,aD (.call false (.c (.fn (.func gg) [] [])) [(t 107),(t 112),(.c z0)]) 113]))<|
 R [D .add 98 1 114,M 114 98]))) (r [A 0 4 29,K 29 30,C qX [t 30] 31,J [z0,e0,z0] 10,W 3 10 31]<|
 r [A 2 10 32,K 32 33,M 33 11]<|
 q (r [M 11 34,D .eql 34 3 35]<|
 c 35 (R [M 11 36,D .add 36 1 37,M 37 11]) k)<|
 r [M 0 38,A 5 4 39,K 39 40,aD (.cz ⟨true,6⟩ none (t 40) (.c z0)) 41,L 6 41 42,M 11 43,C gg [t 38,t 42,t 43] 44]<|
 q (.draw [M 0 45,Z 45 46,A 0 46 47,A 1 10 48,K 48 49,aD (.bin .add (.c (.str [32])) (t 49)) 50,aD (.bin .add (t 50) (.c (.str [32]))) 51,C fF [t 47,t 51] 52] [])<|
 .draw [M 0 53,A 5 4 54,K 54 55,aD (.cz ⟨true,6⟩ none (t 55) (.c (i6 1))) 56,L 6 56 57,A 2 10 58,K 58 59,D .add 59 1 60,C gg [t 53,t 57,t 60] 61] [])))))
def iC: Of Tryz.prog gg 115 [] gP:=aZ ⟨[],[52,61,82],[],[],[],[]⟩ Tryz.func107
def wH: aI:=r [V z0 2]<|
 r [M 0 3,Z 3 4,A 1 4 5,K 5 6,N 6 7,M 7 2]<|
 .ret
def Fs: Of Tryz.prog pK 8 [.tmp 2] wH:=aZ {} Tryz.func108
def sY: aI:=r [V e0 2]<|
 q (.draw [M 0 3,Z 3 4,A 1 4 5,K 5 6,aD (.IB ⟨false,1⟩ (t 6)) 7,M 0 8,Z 8 9,A 1 9 10,K 10 11,N 11 12,aD (.Cw 5 (t 7) (t 12)) 13,M 13 2] [])<|
 .ret
def BV: Of Tryz.prog kr 14 [.tmp 2] sY:=aZ {} Tryz.func109
def Bc: aI:=r [X 0 1,V e0 2,V z0 3]<|
 q (r [L 3 1 6,C kL [t 6] 7,M 7 4]<|
 r [M 4 8,D .neq 8 0 9]<|
 c 9 (r [M 4 10,V e0 2,M 10 3]<|
 .ret) k)<|
 r [A 0 1 11,K 11 12,C gw [t 12] 13,M 13 5]<|
 q (r [A 0 1 14,K 14 15]<|
 .block 0 (r [D .eql 15 2 17,M 17 16]<|
 c 16 (R [M 5 18,A 2 1 19,K 19 20,C kp [t 20] 21,B .add 18 21 22,M 22 5]) (q (r [D .eql 15 1 24,M 24 23]<|
 c 23 k (R [D .eql 15 3 25,M 25 23]))<|
 c 23 (R [M 5 26,A 1 1 27,K 27 28,C gw [t 28] 29,B .add 26 29 30,M 30 5]) k)))<|
 r [M 5 31,M 31 2,V z0 3]<|
 .ret
def Gm: Of Tryz.prog AJ 32 [.tmp 2,.tmp 3] Bc:=aZ {} Tryz.func110
def I3: aI:=r [X 0 1,J [z0,e0,.ae,.ae,z0,z0,.ae,e0,z0,.ae,z0,z0] 2]<|
 r [A 0 1 4,K 4 5,aD (.build [z0,e0,.ae,.ae,z0,z0,.ae,e0,z0,.ae,z0,z0] [(0,1,(t 5))]) 6,J [z0,e0,.ae,.ae,z0,z0,.ae,e0,z0,.ae,z0,z0] 3,W 12 3 6]<|
 q (r [A 0 1 7,K 7 8]<|
 .block 0 (r [D .eql 8 1 10,M 10 9]<|
 c 9 (R [A 1 1 11,L 6 11 12,A 1 3 13,W 6 13 12]) (r [D .eql 8 2 15,M 15 14]<|
 c 14 (.draw [A 7 1 16,K 16 17,A 8 1 18,K 18 19,A 9 1 20,K 20 21,A 7 3 22,W 1 22 17,A 8 3 23,W 1 23 19,A 9 3 24,W 1 24 21] [((t 18),(t 22)),((t 20),(t 22)),((t 20),(t 23))]) (r [D .eql 8 3 26,M 26 25]<|
 c 25 (.draw [A 7 1 27,K 27 28,A 8 1 29,K 29 30,A 7 3 31,W 1 31 28,A 8 3 32,W 1 32 30] [((t 29),(t 31))]) (r [D .eql 8 5 34,M 34 33]<|
 c 33 (.draw [A 10 1 35,K 35 36,A 11 1 37,K 37 38,A 10 3 39,W 1 39 36,A 11 3 40,W 1 40 38] [((t 37),(t 39))]) (r [D .eql 8 6 42,M 42 41]<|
 c 41 (R [A 10 1 43,K 43 44,A 10 3 45,W 1 45 44]) k))))))<|
 r [L 12 3 46,W 12 2 46]<|
 .ret
def RU: Of Tryz.prog AK 47 [.cell 2 true 12] I3:=aZ {} Tryz.func111
def Gn: aI:=r [V (.bool false) 2]<|
 r [M 0 3,D .geq 3 0 4,M 4 5,MT 0 6 5,DT .leq 6 1125899906842624 7 5,P 5 7 8,M 8 2]<|
 .ret
def PY: Of Tryz.prog tY 9 [.tmp 2] Gn:=aZ {} Tryz.func112
def KB: aI:=r [V (.bool false) 2]<|
 r [M 0 3,aD (.bin .neq (t 3) (.c e0)) 4,M 4 5,MT 0 6 5,CT xw [t 6] 7 5,MT 0 8 5,ST 8 9 5,BT .eql 7 9 10 5,P 5 10 11,M 11 12,MT 0 13 12,ST 13 14 12,DT .leq 14 16 15 12,P 12 15 16,M 16 17,MT 0 18 17,CT wc [t 18] 19 17,UT 19 20 17,P 17 20 21,M 21 2]<|
 .ret
def Uh: Of Tryz.prog nw 22 [.tmp 2] KB:=aZ {} Tryz.func113
def Dm: aI:=r [V (.bool false) 2]<|
 q (r [V z0 3]<|
 .block 0 (.loop (q (r [M 3 4,M 0 5,N 5 6,B .lss 4 6 7]<|
 c 7 k (.exit 0))<|
 q (.block 1 (r [M 0 10,M 3 11,I true 3 10 11 12,L 3 12 13,C oe [t 13] 14,U 14 15]<|
 c 15 (r [V (.bool false) 2]<|
 .ret) k))<|
 R [M 3 8,D .add 8 1 9,M 9 3])))<|
 r [V (.bool true) 2]<|
 .ret
def MP: Of Tryz.prog v_ 16 [.tmp 2] Dm:=aZ {} Tryz.func114
def M_: aI:=r [V e0 2]<|
 r [M 0 5,N 5 6,C fy [t 6] 7,M 7 3]<|
 q (r [V z0 4]<|
 .block 0 (.loop (q (r [M 4 8,M 0 9,N 9 10,B .lss 8 10 11]<|
 c 11 k (.exit 0))<|
 q (.block 1 (R [M 3 14,M 0 15,M 4 16,I true 3 15 16 17,L 3 17 18,C AO [t 18] 19,B .add 14 19 20,M 20 3]))<|
 R [M 4 12,D .add 12 1 13,M 13 4])))<|
 r [M 3 21,M 21 2]<|
 .ret
def VK: Of Tryz.prog zB 22 [.tmp 2] M_:=aZ {} Tryz.func115
def Gp: aI:=r [V z0 2]<|
 q (r [M 0 3,aD (.bin .rem (t 3) (.c (.int .u64 2))) 4,aD (.bin .eql (t 4) (.c (.int .u64 1))) 5]<|
 c 5 (r [M 0 6,aD (.bin .quo (t 6) (.c (.int .u64 2))) 7,aD (.jP .i64 (t 7)) 8,aD (.bin .sub (.c (i6 (-1))) (t 8)) 9,M 9 2]<|
 .ret) k)<|
 r [M 0 10,aD (.bin .quo (t 10) (.c (.int .u64 2))) 11,aD (.jP .i64 (t 11)) 12,M 12 2]<|
 .ret
def PZ: Of Tryz.prog yX 13 [.tmp 2] Gp:=aZ {} Tryz.func116
def KC: aI:=r [J [z0,z0,e0] 2,V e0 3,V z0 4]<|
 r [M 0 10,C fj [t 10] 11,M 11 9,E 9 0 12,E 9 1 13,E 9 2 14,M 12 5,M 13 6,M 14 7]<|
 q (r [M 7 15,D .neq 15 0 16]<|
 c 16 (r [aD (.build [z0,z0,e0] []) 17,M 7 18,W 3 2 17,V e0 3,M 18 4]<|
 .ret) k)<|
 r [M 5 19,aD (.build [z0,z0,e0] [(0,1,(t 19))]) 20,J [z0,z0,e0] 8,W 3 8 20]<|
 q (r [M 5 21]<|
 .block 0 (r [D .eql 21 0 24,M 24 23]<|
 c 23 k (q (r [D .eql 21 1 26,M 26 25]<|
 c 25 k (R [D .eql 21 3 27,M 27 25]))<|
 c 25 (R [M 6 29,C fj [t 29] 30,M 30 28,E 28 0 31,E 28 1 32,E 28 2 33,A 1 8 34,W 1 34 31,M 32 6,M 33 7]) (r [D .eql 21 2 36,M 36 35]<|
 c 35 (R [M 6 38,aD (.call false (.c (.fn (.func jQ) [] [])) [(t 38),(.c (i6 40))]) 39,M 39 37,E 37 0 40,E 37 1 41,E 37 2 42,A 2 8 43,W 1 43 40,M 41 6,M 42 7]) (r [aD (.build [z0,z0,e0] []) 22,W 3 2 22,V e0 3,V (i6 4) 4]<|
 .ret)))))<|
 q (r [M 7 44,D .neq 44 0 45]<|
 c 45 (r [aD (.build [z0,z0,e0] []) 46,M 7 47,W 3 2 46,V e0 3,M 47 4]<|
 .ret) k)<|
 q (r [L 3 8 48,C oe [t 48] 49,U 49 50]<|
 c 50 (r [aD (.build [z0,z0,e0] []) 51,W 3 2 51,V e0 3,V (i6 4) 4]<|
 .ret) k)<|
 r [L 3 8 52,M 6 53,W 3 2 52,M 53 3,V z0 4]<|
 .ret
def Ui: Of Tryz.prog CV 54 [.cell 2 true 3,.tmp 3,.tmp 4] KC:=aZ {} Tryz.func117
def P2: aI:=r [V z0 2]<|
 q (r [M 0 3,aD (.bin .eql (t 3) (.c e0)) 4,M 4 5,MF 0 6 5,⟨.gL (t 6) (.c z0),(some 7),some (5,false)⟩,CF sO [t 7] 8 5,UF 8 9 5,O 5 9 10]<|
 c 10 (r [V z0 2]<|
 .ret) k)<|
 r [M 0 11,aD (.call false (.c (.fn (.func zT) [] [])) [(t 11),(.c (.fn (.func C2) [] []))]) 12,M 12 2]<|
 .ret
def XB: Of Tryz.prog BQ 13 [.tmp 2] P2:=aZ {} Tryz.func118
def Gq: aI:=r [V (.bool false) 2]<|
 q (r [M 0 3]<|
 .block 0 (q (r [aD (.bin .eql (t 3) (.c (.str [97,110,100]))) 5,M 5 4]<|
 c 4 k (r [aD (.bin .eql (t 3) (.c (.str [111,114]))) 6,M 6 4]<|
 c 4 k (r [aD (.bin .eql (t 3) (.c (.str [110,111,116]))) 7,M 7 4]<|
 c 4 k (r [aD (.bin .eql (t 3) (.c (.str [105,102]))) 8,M 8 4]<|
 c 4 k (r [aD (.bin .eql (t 3) (.c (.str [116,104,101,110]))) 9,M 9 4]<|
 c 4 k (r [aD (.bin .eql (t 3) (.c (.str [101,108,115,101]))) 10,M 10 4]<|
 c 4 k (r [aD (.bin .eql (t 3) (.c (.str [116,114,117,101]))) 11,M 11 4]<|
 c 4 k (r [aD (.bin .eql (t 3) (.c (.str [102,97,108,115,101]))) 12,M 12 4]<|
 c 4 k (R [aD (.bin .eql (t 3) (.c (.str [110,117,108,108]))) 13,M 13 4])))))))))<|
 c 4 (r [V (.bool true) 2]<|
 .ret) k))<|
 r [V (.bool false) 2]<|
 .ret
def P3: Of Tryz.prog yY 14 [.tmp 2] Gq:=aZ {} Tryz.func119
def qg: aI:=r [V (.bool false) 4]<|
 r [M 0 5,M 1 6,C ny [t 5,t 6] 7,D .geq 7 0 8,M 8 4]<|
 .ret
def y_: Of Tryz.prog lO 9 [.tmp 4] qg:=aZ {} Tryz.func120
def Bw: aI:=r [X 0 1,V (.bool false) 2]<|
 r [L 3 1 3,C kL [t 3] 4,D .neq 4 0 5,M 5 2]<|
 .ret
def KD: Of Tryz.prog pA 6 [.tmp 2] Bw:=aZ {} Tryz.func121
def I4: aI:=r [X 0 1,V z0 2]<|
 r [V (.bool false) 3]<|
 q (r [A 0 1 4,K 4 5]<|
 .block 0 (r [D .eql 5 0 7,M 7 6]<|
 c 6 (R [L 3 1 8,aD (.build [z0,z0,e0] []) 9,aD (.qd false true [.i,.i,.s] (t 8) (t 9)) 10,M 10 3]) (r [D .eql 5 1 12,M 12 11]<|
 c 11 (R [A 2 1 13,K 13 14,aD (.bin .eql (t 14) (.c e0)) 15,M 15 3]) (r [D .eql 5 2 17,M 17 16]<|
 c 16 (R [A 1 1 18,K 18 19,D .eql 19 0 20,M 20 21,AT 2 1 22 21,KT 22 23 21,CT AP [t 23] 24 21,P 21 24 25,M 25 3]) (r [D .eql 5 3 27,M 27 26]<|
 c 26 (R [A 2 1 28,K 28 29,aD (.bin .eql (t 29) (.c e0)) 30,M 30 31,AT 1 1 32 31,KT 32 33 31,DT .andNot 33 1 34 31,DT .eql 34 0 35 31,P 31 35 36,M 36 3]) k)))))<|
 q (r [M 3 37,U 37 38]<|
 c 38 (r [V (i6 2) 2]<|
 .ret) k)<|
 r [V z0 2]<|
 .ret
def RV: Of Tryz.prog kL 39 [.tmp 2] I4:=aZ {} Tryz.func122
def KE: aI:=r [V z0 4,V e0 5,V z0 6]<|
 r [M 0 11,C jv [t 11] 12,M 12 10,E 10 0 13,E 10 1 14,E 10 2 15,M 13 7,M 14 8,M 15 9]<|
 q (.block 0 (r [M 9 17,D .neq 17 0 18,M 18 16]<|
 c 16 (r [M 9 19,V z0 4,V e0 5,M 19 6]<|
 .ret) (r [M 7 21,D .lss 21 0 22,M 22 20]<|
 c 20 (r [V z0 4,V e0 5,V (i6 4) 6]<|
 .ret) (r [M 7 24,M 1 25,B .gtr 24 25 26,M 26 23]<|
 c 23 (r [V z0 4,V e0 5,V (i6 5) 6]<|
 .ret) k))))<|
 r [M 7 27,M 8 28,M 27 4,M 28 5,V z0 6]<|
 .ret
def Uj: Of Tryz.prog xn 29 [.tmp 4,.tmp 5,.tmp 6] KE:=aZ {} Tryz.func123
def KG: aI:=r [V (.int .u64 0) 2]<|
 q (r [M 0 3,D .lss 3 0 4]<|
 c 4 (r [M 0 5,aD (.bin .sub (.c (i6 (-1))) (t 5)) 6,aD (.jP .u64 (t 6)) 7,aD (.bin .mul (.c (.int .u64 2)) (t 7)) 8,aD (.bin .add (t 8) (.c (.int .u64 1))) 9,M 9 2]<|
 .ret) k)<|
 r [M 0 10,aD (.jP .u64 (t 10)) 11,aD (.bin .mul (.c (.int .u64 2)) (t 11)) 12,M 12 2]<|
 .ret
def Uk: Of Tryz.prog CW 13 [.tmp 2] KG:=aZ {} Tryz.func124
def wI: aI:=r [V (.bool false) 4]<|
 q (r [M 0 6,N 6 7,M 1 8,N 8 9,B .neq 7 9 10]<|
 c 10 (r [V (.bool false) 4]<|
 .ret) k)<|
 q (r [M 0 11,N 11 12,V z0 13]<|
 .block 0 (.loop (r [B .lss 13 12 14]<|
 q (c 14 k (.exit 0))<|
 q (.block 1 (r [M 13 15,M 15 5]<|
 q (.draw [M 0 16,M 5 17,I false 1 16 17 18,K 18 19,M 1 20,M 5 21,I false 1 20 21 22,K 22 23,B .neq 19 23 24] [])<|
 c 24 (r [V (.bool false) 4]<|
 .ret) k))<|
 R [D .add 13 1 25,M 25 13])))<|
 r [V (.bool true) 4]<|
 .ret
def Ft: Of Tryz.prog mb 26 [.tmp 4] wI:=aZ {} Tryz.func125
def Bd: aI:=r [X 0 1,V z0 2]<|
 q (r [A 0 1 5,K 5 6,C nw [t 6] 7,U 7 8]<|
 c 8 (r [V (i6 13) 2]<|
 .ret) k)<|
 q (r [A 1 1 9,K 9 10,aD (.call false (.c (.fn (.func sv) [] [])) [(t 10),(.c (.bool false))]) 11,M 11 3]<|
 r [M 3 12,D .neq 12 0 13]<|
 c 13 (r [M 3 14,M 14 2]<|
 .ret) k)<|
 q (r [A 2 1 15,K 15 16,A 3 1 17,K 17 18,D .eql 18 3 19,C sv [t 16,t 19] 20,M 20 4]<|
 r [M 4 21,D .neq 21 0 22]<|
 c 22 (r [M 4 23,M 23 2]<|
 .ret) k)<|
 q (.block 0 (r [L 6 1 25,C t_ [t 25] 26,U 26 27,M 27 24]<|
 c 24 (r [V (i6 17) 2]<|
 .ret) (r [A 5 1 29,K 29 30,N 30 31,D .gtr 31 24 32,M 32 28]<|
 c 28 (r [V (i6 24) 2]<|
 .ret) k)))<|
 r [V z0 2]<|
 .ret
def Gr: Of Tryz.prog AL 33 [.tmp 2] Bd:=aZ {} Tryz.func126
def Dn: aI:=r [X 0 2,X 1 3,J [.ae,.ae] 4,V z0 5,V z0 6]<|
 r [aD (.build [.ae,.ae] []) 17,J [.ae,.ae] 7,W 2 7 17]<|
 q (r [A 0 3 18,K 18 19,N 19 20,A 1 2 21,K 21 22,N 22 23,B .neq 20 23 24,M 24 25,AF 1 3 26 25,KF 26 27 25,NF 27 28 25,AF 2 2 29 25,KF 29 30 25,NF 30 31 25,BF .neq 28 31 32 25,O 25 32 33]<|
 c 33 (r [L 2 7 34,W 2 4 34,V z0 5,V (i6 17) 6]<|
 .ret) k)<|
 q (r [V z0 8]<|
 .block 0 (.loop (q (r [M 8 35,A 0 3 36,K 36 37,N 37 38,B .lss 35 38 39]<|
 c 39 k (.exit 0))<|
 q (.block 1 (r [A 0 3 43,K 43 44,M 8 45,I false 1 44 45 46,K 46 47,C AR [t 47] 48,M 48 42,E 42 0 49,E 42 1 50,E 42 2 51,J [(.bool false),(.bool false),.ae] 9,W 3 9 49,M 50 10,M 51 11]<|
 q (r [M 11 52,D .eql 52 0 53]<|
 c 53 (.draw [L 3 9 54,A 1 2 55,K 55 56,M 8 57,I true 3 56 57 58,A 1 58 59,K 59 60,A 1 2 61,K 61 62,Q AU [t 54,t 60,t 62] 63,M 63 11] []) k)<|
 q (r [M 11 64,D .neq 64 0 65]<|
 c 65 (r [L 2 7 66,M 8 67,M 11 68,W 2 4 66,M 67 5,M 68 6]<|
 .ret) k)<|
 R [A 0 7 69,K 69 70,L 3 9 71,aD (.bK false ⟨true,3⟩ (.agg [(.bool false),(.bool false),.ae]) 1 [(0,(t 71))]) 72,aD (.app none ⟨true,3⟩ (t 70) (t 72)) 73,A 0 7 74,W 1 74 73]))<|
 R [M 8 40,D .add 40 1 41,M 41 8])))<|
 q (r [V z0 12]<|
 .block 2 (.loop (q (r [M 12 75,A 1 3 76,K 76 77,N 77 78,B .lss 75 78 79]<|
 c 79 k (.exit 2))<|
 q (.block 3 (r [A 1 3 83,K 83 84,M 12 85,I false 1 84 85 86,K 86 87,C AW [t 87] 88,M 88 82,E 82 0 89,E 82 1 90,E 82 2 91,J [z0,z0,z0,e0,e0,.ae] 13,W 6 13 89,M 90 14,M 91 15]<|
 r [V z0 16]<|
 q (r [M 15 92,D .eql 92 0 93]<|
 c 93 (R [L 6 13 95,A 1 2 96,K 96 97,C pL [t 95,t 97] 98,M 98 94,E 94 0 99,E 94 1 100,M 99 16,M 100 15]) k)<|
 q (r [M 15 101,D .eql 101 0 102,M 102 103,MT 16 104 103,AT 2 2 105 103,KT 105 106 103,MT 12 107 103,IT true 3 106 107 108 103,AT 1 108 109 103,KT 109 110 103,CT fT [t 104,t 110] 111 103,UT 111 112 103,P 103 112 113]<|
 c 113 (R [V (i6 14) 15]) k)<|
 q (r [M 15 114,D .neq 114 0 115]<|
 c 115 (q (.draw [L 2 7 116,A 1 2 117,K 117 118,N 118 119,M 12 120,B .add 119 120 121,M 15 122,W 2 4 116,M 121 5,M 122 6] [((t 117),(t 4))])<|
 .ret) k)<|
 R [A 1 7 123,K 123 124,L 6 13 125,aD (.bK false ⟨true,6⟩ (.agg [z0,z0,z0,e0,e0,.ae]) 1 [(0,(t 125))]) 126,aD (.app none ⟨true,6⟩ (t 124) (t 126)) 127,A 1 7 128,W 1 128 127]))<|
 R [M 12 80,D .add 80 1 81,M 81 12])))<|
 r [L 2 7 129,W 2 4 129,V z0 5,V z0 6]<|
 .ret
def I5: Of Tryz.prog CX 130 [.cell 4 true 2,.tmp 5,.tmp 6] Dn:=aZ {} Tryz.func127
def I6: aI:=r [X 0 1,V (.bool false) 2]<|
 q (r [A 0 1 4,K 4 5]<|
 c 5 (r [A 1 1 6,K 6 7,U 7 8,M 8 9,AT 2 1 10 9,KT 10 11 9,NT 11 12 9,DT .eql 12 0 13 9,P 9 13 14,M 14 2]<|
 .ret) k)<|
 q (r [V z0 3]<|
 .block 0 (.loop (q (r [M 3 15,A 2 1 16,K 16 17,N 17 18,B .lss 15 18 19]<|
 c 19 k (.exit 0))<|
 q (.block 1 (r [A 2 1 22,K 22 23,M 3 24,I true 15 23 24 25,L 15 25 26,C C3 [t 26] 27,U 27 28]<|
 c 28 (r [V (.bool false) 2]<|
 .ret) k))<|
 R [M 3 20,D .add 20 1 21,M 21 3])))<|
 r [A 2 1 29,K 29 30,N 30 31,D .geq 31 1 32,M 32 33,AT 2 1 34 33,KT 34 35 33,NT 35 36 33,DT .leq 36 12 37 33,P 33 37 38,M 38 2]<|
 .ret
def RW: Of Tryz.prog oa 39 [.tmp 2] I6:=aZ {} Tryz.func128
def xO: aI:=r [X 0 1,V e0 2,V (.bool false) 3]<|
 q (r [A 0 1 15,K 15 16]<|
 c 16 (r [V (.str [45]) 2,V (.bool true) 3]<|
 .ret) k)<|
 r [V e0 4]<|
 q (r [V z0 5]<|
 .block 0 (.loop (q (r [M 5 17,A 2 1 18,K 18 19,N 19 20,B .lss 17 20 21]<|
 c 21 k (.exit 0))<|
 q (.block 1 (r [A 2 1 24,K 24 25,M 5 26,I true 15 25 26 27,L 15 27 28,J [z0,z0,z0,z0,e0,e0,.ae,z0,z0,z0,e0,e0,.ae,(.bool false),(.bool false)] 6,W 15 6 28]<|
 r [A 1 6 29,L 6 29 30,aD (.call false (.c (.fn (.func sw) [] [])) [(t 30),(.c (i6 4))]) 31,M 31 7,V e0 8]<|
 q (r [M 5 32,D .gtr 32 0 33]<|
 c 33 (R [M 4 34,aD (.bin .add (t 34) (.c (.str [44,32]))) 35,M 35 4]) k)<|
 q (r [A 1 6 37,L 6 37 38,C pJ [t 38] 39,M 39 36,E 36 0 40,E 36 1 41,M 40 9,M 41 10]<|
 r [M 10 42,D .neq 42 0 43]<|
 c 43 (r [V e0 2,V (.bool false) 3]<|
 .ret) k)<|
 q (r [A 0 6 44,K 44 45,D .eql 45 6 46]<|
 c 46 (q (r [A 7 6 48,L 6 48 49,C pJ [t 49] 50,M 50 47,E 47 0 51,E 47 1 52,M 51 11,M 52 12]<|
 r [M 12 53,D .neq 53 0 54]<|
 c 54 (r [V e0 2,V (.bool false) 3]<|
 .ret) k)<|
 R [A 7 6 55,L 6 55 56,aD (.call false (.c (.fn (.func sw) [] [])) [(t 56),(.c (i6 4))]) 57,M 57 8]) k)<|
 .block 2 (r [A 0 6 73,K 73 74,D .eql 74 1 75,M 75 72]<|
 c 72 (R [M 4 76,M 7 77,B .add 76 77 78,M 78 4]) (r [A 0 6 80,K 80 81,D .neq 81 6 82,M 82 79]<|
 c 79 (R [M 4 83,A 0 6 84,K 84 85,C xx [t 85] 86,B .add 83 86 87,aD (.bin .add (t 87) (.c (.str [32]))) 88,M 7 89,B .add 88 89 90,M 90 4]) (r [V (.str [91]) 13,V (.str [93]) 14]<|
 q (r [A 13 6 58,K 58 59]<|
 c 59 (R [V (.str [93]) 13]) k)<|
 q (r [A 14 6 60,K 60 61]<|
 c 61 (R [V (.str [91]) 14]) k)<|
 R [M 4 62,M 13 63,B .add 62 63 64,M 7 65,B .add 64 65 66,aD (.bin .add (t 66) (.c (.str [46,46]))) 67,M 8 68,B .add 67 68 69,M 14 70,B .add 69 70 71,M 71 4])))))<|
 R [M 5 22,D .add 22 1 23,M 23 5])))<|
 q (r [A 1 1 91,K 91 92]<|
 c 92 (r [M 4 93,aD (.bin .add (.c (.str [110,111,116,40])) (t 93)) 94,aD (.bin .add (t 94) (.c (.str [41]))) 95,M 95 2,V (.bool true) 3]<|
 .ret) k)<|
 r [M 4 96,M 96 2,V (.bool true) 3]<|
 .ret
def Dp: Of Tryz.prog xo 97 [.tmp 2,.tmp 3] xO:=aZ {} Tryz.func129
def I7: aI:=r [X 0 1,V (.bool false) 2]<|
 q (q (.draw [A 5 1 4,K 4 5,N 5 6,A 0 1 7,K 7 8,Q AY [t 8] 9,B .neq 6 9 10] [])<|
 c 10 (r [V (.bool false) 2]<|
 .ret) k)<|
 q (r [A 0 1 11,K 11 12]<|
 .block 0 (r [D .eql 12 1 14,M 14 13]<|
 c 13 (r [A 4 1 15,K 15 16,aD (.bin .eql (t 16) (.c e0)) 17,M 17 18,AT 1 1 19 18,LT 3 19 20 18,CT oe [t 20] 21 18,P 18 21 22,M 22 23,AT 1 1 24 23,AT 0 24 25 23,KT 25 26 23,DT .neq 26 1 27 23,MT 27 28 23,AF 1 1 29 28,AF 1 29 30 28,KF 30 31 28,DF .geq 31 0 32 28,OT 28 32 33 23,P 23 33 34,M 34 2]<|
 .ret) (r [D .eql 12 2 36,M 36 35]<|
 c 35 (r [A 1 1 37,L 3 37 38,aD (.build [z0,z0,e0] []) 39,aD (.qd false true [.i,.i,.s] (t 38) (t 39)) 40,M 40 41,AT 4 1 42 41,KT 42 43 41,CT nw [t 43] 44 41,P 41 44 45,M 45 2]<|
 .ret) k)))<|
 q (r [V z0 3]<|
 .block 1 (.loop (q (r [M 3 46,A 5 1 47,K 47 48,N 48 49,B .lss 46 49 50]<|
 c 50 k (.exit 1))<|
 q (.block 2 (r [A 5 1 53,K 53 54,M 3 55,I true 6 54 55 56,L 6 56 57,C oc [t 57] 58,U 58 59]<|
 c 59 (r [V (.bool false) 2]<|
 .ret) k))<|
 R [M 3 51,D .add 51 1 52,M 52 3])))<|
 r [A 1 1 60,L 3 60 61,aD (.build [z0,z0,e0] []) 62,aD (.qd false true [.i,.i,.s] (t 61) (t 62)) 63,M 63 64,AT 4 1 65 64,KT 65 66 64,⟨.bin .eql (t 66) (.c e0),(some 67),some (64,true)⟩,P 64 67 68,M 68 2]<|
 .ret
def RX: Of Tryz.prog oc 69 [.tmp 2] I7:=aZ {} Tryz.func130
def KH: aI:=r [X 0 1,V z0 2]<|
 r [V z0 3]<|
 q (r [V z0 4]<|
 .block 0 (.loop (q (r [M 4 6,A 5 1 7,K 7 8,N 8 9,B .lss 6 9 10]<|
 c 10 k (.exit 0))<|
 q (.block 1 (r [A 5 1 13,K 13 14,M 4 15,I true 6 14 15 16,L 6 16 17,C nx [t 17] 18,M 18 5]<|
 r [M 5 19,M 3 20,B .gtr 19 20 21]<|
 c 21 (R [M 5 22,M 22 3]) k))<|
 R [M 4 11,D .add 11 1 12,M 12 4])))<|
 r [M 3 23,D .add 23 1 24,M 24 2]<|
 .ret
def Ul: Of Tryz.prog nx 25 [.tmp 2] KH:=aZ {} Tryz.func131
def kM: aI:=r [X 0 2,V e0 4]<|
 r [A 0 2 7,K 7 8,C vM [t 8] 9,M 9 5]<|
 q (r [M 5 10,M 1 11,B .lss 10 11 12]<|
 c 12 (r [L 6 2 13,aD (.call false (.c (.fn (.func gB) [] [])) [(t 13),(.c z0)]) 14,aD (.bin .add (.c (.str [40])) (t 14)) 15,aD (.bin .add (t 15) (.c (.str [41]))) 16,M 16 4]<|
 .ret) k)<|
 q (.block 0 (r [A 0 2 18,K 18 19,D .eql 19 1 20,M 20 17]<|
 c 17 (r [A 1 2 21,L 3 21 22,C C4 [t 22] 23,M 23 4]<|
 .ret) (r [A 0 2 25,K 25 26,D .eql 26 2 27,M 27 24]<|
 c 24 (r [A 4 2 28,K 28 29,M 29 4]<|
 .ret) (r [A 0 2 31,K 31 32,D .eql 32 3 33,M 33 30]<|
 c 30 (r [A 5 2 34,K 34 35,aD (.cz ⟨true,6⟩ none (t 35) (.c z0)) 36,L 6 36 37,aD (.call false (.c (.fn (.func gB) [] [])) [(t 37),(.c (i6 6))]) 38,aD (.bin .add (.c (.str [45])) (t 38)) 39,M 39 4]<|
 .ret) (r [A 0 2 41,K 41 42,D .eql 42 16 43,M 43 40]<|
 c 40 (q (.draw [A 5 2 44,K 44 45,aD (.cz ⟨true,6⟩ none (t 45) (.c z0)) 46,L 6 46 47,aD (.call true (.c (.fn (.func gB) [] [])) [(t 47),(.c z0)]) 48,aD (.bin .add (.c (.str [105,102,32])) (t 48)) 49,aD (.bin .add (t 49) (.c (.str [32,116,104,101,110,32]))) 50,A 5 2 51,K 51 52,aD (.cz ⟨true,6⟩ none (t 52) (.c (i6 1))) 53,L 6 53 54,aD (.call true (.c (.fn (.func gB) [] [])) [(t 54),(.c z0)]) 55,B .add 50 55 56,aD (.bin .add (t 56) (.c (.str [32,101,108,115,101,32]))) 57,A 5 2 58,K 58 59,aD (.cz ⟨true,6⟩ none (t 59) (.c (i6 2))) 60,L 6 60 61,aD (.call true (.c (.fn (.func gB) [] [])) [(t 61),(.c z0)]) 62,B .add 57 62 63,M 63 4] [])<|
 .ret) k)))))<|
 r [M 5 64,M 64 6]<|
 q (r [M 5 65,D .eql 65 3 66]<|
 c 66 (R [V (i6 4) 6]) k)<|
 q (.draw [A 5 2 67,K 67 68,aD (.cz ⟨true,6⟩ none (t 68) (.c z0)) 69,L 6 69 70,M 6 71,Q gB [t 70,t 71] 72,aD (.bin .add (t 72) (.c (.str [32]))) 73,A 0 2 74,K 74 75,Q sP [t 75] 76,B .add 73 76 77,aD (.bin .add (t 77) (.c (.str [32]))) 78,A 5 2 79,K 79 80,aD (.cz ⟨true,6⟩ none (t 80) (.c (i6 1))) 81,L 6 81 82,M 5 83,D .add 83 1 84,Q gB [t 82,t 84] 85,B .add 78 85 86,M 86 4] [])<|
 .ret
def lq: Of Tryz.prog gB 87 [.tmp 4] kM:=aZ {} Tryz.func132
def EK: aI:=r [V (.int .u8 0) 2]<|
 r [M 0 3,aD (.jP .u8 (t 3)) 4,aD (.bin .and (t 4) (.c (.int .u8 127))) 5,M 5 2]<|
 .ret
def Ou: Of Tryz.prog xq 6 [.tmp 2] EK:=aZ {} Tryz.func133
def Gs: aI:=r [V z0 2]<|
 r [M 0 3,aD (.bin .shr (t 3) (.c (.int .u64 1))) 4,aD (.jP .i64 (t 4)) 5,M 0 6,aD (.bin .and (t 6) (.c (.int .u64 1))) 7,aD (.jP .i64 (t 7)) 8,aD (.un .neg (t 8)) 9,B .xor 5 9 10,M 10 2]<|
 .ret
def P4: Of Tryz.prog yZ 11 [.tmp 2] Gs:=aZ {} Tryz.func134
def KI: aI:=r [J [z0,z0,e0] 2,V e0 3,V z0 4]<|
 r [M 0 10,C jv [t 10] 11,M 11 9,E 9 0 12,E 9 1 13,E 9 2 14,M 12 5,M 13 6,M 14 7]<|
 r [M 5 15,aD (.build [z0,z0,e0] [(0,1,(t 15))]) 16,J [z0,z0,e0] 8,W 3 8 16]<|
 q (.block 0 (r [M 7 18,D .neq 18 0 19,M 19 17]<|
 c 17 k (r [A 0 8 21,K 21 22,D .eql 22 0 23,M 23 20]<|
 c 20 k (r [A 0 8 25,K 25 26,D .eql 26 1 27,M 27 28,AF 0 8 29 28,KF 29 30 28,DF .eql 30 3 31 28,O 28 31 32,M 32 24]<|
 c 24 (R [M 6 34,C jv [t 34] 35,M 35 33,E 33 0 36,E 33 1 37,E 33 2 38,A 1 8 39,W 1 39 36,M 37 6,M 38 7]) (r [A 0 8 41,K 41 42,D .eql 42 2 43,M 43 40]<|
 c 40 (R [M 6 45,aD (.call false (.c (.fn (.func lf) [] [])) [(t 45),(.c (i6 40))]) 46,M 46 44,E 44 0 47,E 44 1 48,E 44 2 49,A 2 8 50,W 1 50 47,M 48 6,M 49 7]) (R [V (i6 4) 7]))))))<|
 q (r [M 7 51,D .eql 51 0 52,M 52 53,LT 3 8 54 53,CT kL [t 54] 55 53,DT .neq 55 0 56 53,P 53 56 57]<|
 c 57 (R [V (i6 4) 7]) k)<|
 q (r [M 7 58,D .neq 58 0 59]<|
 c 59 (r [aD (.build [z0,z0,e0] []) 60,M 7 61,W 3 2 60,V e0 3,M 61 4]<|
 .ret) k)<|
 r [L 3 8 62,M 6 63,W 3 2 62,M 63 3,V z0 4]<|
 .ret
def Um: Of Tryz.prog CY 64 [.cell 2 true 3,.tmp 3,.tmp 4] KI:=aZ {} Tryz.func135
def Dq: aI:=r [X 1 3,V z0 4]<|
 q (r [M 0 6,C wg [t 6] 7,M 7 5]<|
 r [M 5 8,D .neq 8 0 9]<|
 c 9 (r [M 5 10,M 10 4]<|
 .ret) k)<|
 q (r [M 0 11,N 11 12,D .eql 12 0 13,M 13 14,MF 0 15 14,⟨.qu (.func oI) [] [(t 3)],(some 16),some (14,false)⟩,CF lg [t 15,t 16] 17 14,O 14 17 18]<|
 c 18 (r [V (i6 17) 4]<|
 .ret) k)<|
 r [V z0 4]<|
 .ret
def MQ: Of Tryz.prog qC 19 [.tmp 4] Dq:=aZ {} Tryz.func136
def EL: aI:=r [X 0 1,V (.bool false) 2]<|
 q (.block 0 (r [A 3 1 5,K 5 6,D .lss 6 1 7,M 7 8,AF 3 1 9 8,KF 9 10 8,DF .gtr 10 6 11 8,O 8 11 12,M 12 4]<|
 c 4 (r [V (.bool false) 2]<|
 .ret) (r [A 4 1 14,K 14 15,D .eql 15 0 16,M 16 13]<|
 c 13 (r [V (.bool true) 2]<|
 .ret) (r [A 3 1 18,K 18 19,D .neq 19 5 20,M 20 21,AF 2 1 22 21,KF 22 23 21,NF 23 24 21,DF .neq 24 1 25 21,O 21 25 26,M 26 17]<|
 c 17 (r [V (.bool false) 2]<|
 .ret) k))))<|
 q (r [A 2 1 27,K 27 28,aD (.cz ⟨true,3⟩ none (t 28) (.c z0)) 29,A 1 29 30,K 30 31,M 31 3]<|
 r [A 4 1 32,K 32 33]<|
 .block 1 (r [D .eql 33 1 35,M 35 34]<|
 c 34 (r [M 3 36,D .eql 36 1 37,M 37 2]<|
 .ret) (q (r [D .eql 33 2 39,M 39 38]<|
 c 38 k (R [D .eql 33 3 40,M 40 38]))<|
 c 38 (r [M 3 41,D .neq 41 3 42,M 42 2]<|
 .ret) (r [D .eql 33 4 44,M 44 43]<|
 c 43 (r [V (.bool true) 2]<|
 .ret) k))))<|
 r [V (.bool false) 2]<|
 .ret
def Ov: Of Tryz.prog su 45 [.tmp 2] EL:=aZ {} Tryz.func137
def KJ: aI:=r [X 0 3,J [(.bool false),(.bool false),.ae] 6,V z0 7]<|
 r [M 2 12,C C5 [t 12] 13,M 13 11,E 11 0 14,E 11 1 15,E 11 2 16,J [(.bool false),(.bool false),.ae] 8,W 3 8 14,M 15 9,M 16 10]<|
 q (r [M 10 17,D .eql 17 0 18]<|
 c 18 (.draw [L 3 8 19,A 1 3 20,K 20 21,M 1 22,I true 3 21 22 23,A 1 23 24,K 24 25,A 1 3 26,K 26 27,Q C6 [t 19,t 25,t 27] 28,M 28 10] []) k)<|
 r [L 3 8 29,M 10 30,W 3 6 29,M 30 7]<|
 .ret
def Un: Of Tryz.prog CZ 31 [.cell 6 true 3,.tmp 7] KJ:=aZ {} Tryz.func138
def I8: aI:=r [X 0 3,J [z0,z0,z0,e0,e0,.ae] 6,V z0 7]<|
 r [M 2 13,C y5 [t 13] 14,M 14 12,E 12 0 15,E 12 1 16,E 12 2 17,J [z0,z0,z0,e0,e0,.ae] 8,W 6 8 15,M 16 9,M 17 10]<|
 q (r [M 10 18,D .neq 18 0 19]<|
 c 19 (r [L 6 8 20,M 10 21,W 6 6 20,M 21 7]<|
 .ret) k)<|
 r [L 6 8 23,A 1 3 24,K 24 25,C qY [t 23,t 25] 26,M 26 22,E 22 0 27,E 22 1 28,M 27 11,M 28 10]<|
 q (r [M 10 29,D .eql 29 0 30,M 30 31,MT 11 32 31,AT 2 3 33 31,KT 33 34 31,MT 1 35 31,IT true 3 34 35 36 31,AT 1 36 37 31,KT 37 38 31,CT jL [t 32,t 38] 39 31,UT 39 40 31,P 31 40 41]<|
 c 41 (R [V (i6 14) 10]) k)<|
 r [L 6 8 42,M 10 43,W 6 6 42,M 43 7]<|
 .ret
def RY: Of Tryz.prog AN 44 [.cell 6 true 6,.tmp 7] I8:=aZ {} Tryz.func139
def rf: aI:=r [V (.bool false) 4]<|
 r [M 0 5,M 1 6,C nW [t 5,t 6] 7,D .geq 7 0 8,M 8 4]<|
 .ret
def zW: Of Tryz.prog mB 9 [.tmp 4] rf:=aZ {} Tryz.func140
def Gt: aI:=r [X 0 1,V (.bool false) 2]<|
 r [L 15 1 3,C C0 [t 3] 4,U 4 5,M 5 2]<|
 .ret
def P5: Of Tryz.prog tZ 6 [.tmp 2] Gt:=aZ {} Tryz.func141
def KL: aI:=r [X 0 1,V (.bool false) 2]<|
 q (.block 0 (r [A 0 1 4,K 4 5,D .eql 5 6 6,M 6 3]<|
 c 3 (r [A 1 1 7,L 6 7 8,C uY [t 8] 9,M 9 10,AT 7 1 11 10,LT 6 11 12 10,CT uY [t 12] 13 10,P 10 13 14,M 14 2]<|
 .ret) (r [A 0 1 16,K 16 17,D .lss 17 1 18,M 18 19,AF 0 1 20 19,KF 20 21 19,DF .gtr 21 6 22 19,O 19 22 23,M 23 15]<|
 c 15 (r [V (.bool false) 2]<|
 .ret) k)))<|
 r [A 1 1 24,L 6 24 25,C uY [t 25] 26,M 26 27,AT 7 1 28 27,LT 6 28 29 27,⟨.build [z0,z0,z0,e0,e0,.ae] [],(some 30),some (27,true)⟩,CT qZ [t 29,t 30] 31 27,P 27 31 32,M 32 33,LT 15 1 34 33,CT Kq [t 34] 35 33,⟨.build [(.bool false),(.bool false)] [],(some 36),some (33,true)⟩,⟨.qd false true [.b,.b] (t 35) (t 36),(some 37),some (33,true)⟩,P 33 37 38,M 38 2]<|
 .ret
def Uo: Of Tryz.prog C0 39 [.tmp 2] KL:=aZ {} Tryz.func142
def xP: aI:=r [X 0 1,V e0 2,V z0 3]<|
 r [L 6 1 7,C n_ [t 7] 8,M 8 6,E 6 0 9,E 6 1 10,M 9 4,M 10 5]<|
 q (r [M 5 11,D .eql 11 0 12,M 12 13,AT 0 1 14 13,KT 14 15 13,DT .geq 15 8 16 13,MT 16 17 13,AT 0 1 18 17,KT 18 19 17,DT .leq 19 16 20 17,PT 17 20 21 13,P 13 21 22]<|
 c 22 (R [M 4 23,aD (.bin .add (.c (.str [40])) (t 23)) 24,aD (.bin .add (t 24) (.c (.str [41]))) 25,M 25 4]) k)<|
 r [M 4 26,M 5 27,M 26 2,M 27 3]<|
 .ret
def Be: Of Tryz.prog xu 28 [.tmp 2,.tmp 3] xP:=aZ {} Tryz.func143
def Na: aI:=r [V e0 2]<|
 q (r [M 0 3]<|
 .block 0 (r [D .eql 3 2 5,M 5 4]<|
 c 4 (r [V (.str [60]) 2]<|
 .ret) (r [D .eql 3 3 7,M 7 6]<|
 c 6 (r [V (.str [60,61]) 2]<|
 .ret) (r [D .eql 3 4 9,M 9 8]<|
 c 8 (r [V (.str [62]) 2]<|
 .ret) (r [D .eql 3 5 11,M 11 10]<|
 c 10 (r [V (.str [62,61]) 2]<|
 .ret) k)))))<|
 r [V e0 2]<|
 .ret
def VL: Of Tryz.prog zC 12 [.tmp 2] Na:=aZ {} Tryz.func144
def pg: aI:=r [V z0 4,V .nS 5]<|
 r [M 0 6,C iq [t 6] 7]<|
 r [M 0 8,M 0 9,Z 9 10,A 1 10 11,K 11 12,M 1 13,aD (.app (some 5) ⟨false,1⟩ (t 12) (t 13)) 14,Z 8 15,A 1 15 16,W 1 16 14]<|
 r [M 1 17,S 17 18,M 18 4,V .nS 5]<|
 .ret
def xQ: Of Tryz.prog fF 19 [.tmp 4,.tmp 5] pg:=aZ ⟨[],[],[],[14],[],[]⟩ Tryz.func146
def Gu: aI:=r [V z0 2]<|
 q (.block 0 (r [M 0 4,D .eql 4 1 5,M 5 6,MF 0 7 6,DF .eql 7 2 8 6,O 6 8 9,M 9 3]<|
 c 3 (r [V z0 2]<|
 .ret) (r [M 0 11,D .eql 11 3 12,M 12 10]<|
 c 10 (r [V (i6 1) 2]<|
 .ret) (r [M 0 14,D .eql 14 16 15,M 15 13]<|
 c 13 (r [V (i6 3) 2]<|
 .ret) (r [M 0 17,C qX [t 17] 18,aD (.field false 2 1 (t 18)) 19,D .gtr 19 0 20,M 20 16]<|
 c 16 (r [V (i6 2) 2]<|
 .ret) k)))))<|
 r [V (i6 (-1)) 2]<|
 .ret
def P6: Of Tryz.prog y2 21 [.tmp 2] Gu:=aZ {} Tryz.func147
def rh: aI:=r [V (.bool false) 4]<|
 r [M 0 5,M 1 6,C nX [t 5,t 6] 7,D .geq 7 0 8,M 8 4]<|
 .ret
def zX: Of Tryz.prog mC 9 [.tmp 4] rh:=aZ {} Tryz.func148
def Dr: aI:=r [X 0 1,V (.bool false) 2]<|
 r [L 6 1 3,C nh [t 3] 4,U 4 5,M 5 2]<|
 .ret
def MR: Of Tryz.prog qD 6 [.tmp 2] Dr:=aZ {} Tryz.func149
def Gv: aI:=r [X 0 1,V z0 2]<|
 q (r [A 0 1 3,K 3 4]<|
 .block 0 (r [D .eql 4 16 6,M 6 5]<|
 c 5 (r [V z0 2]<|
 .ret) (r [D .eql 4 3 8,M 8 7]<|
 c 7 (r [V (i6 6) 2]<|
 .ret) (q (r [D .eql 4 1 10,M 10 9]<|
 c 9 k (R [D .eql 4 2 11,M 11 9]))<|
 c 9 (r [V (i6 7) 2]<|
 .ret) k))))<|
 r [A 0 1 12,K 12 13,C qX [t 13] 14,aD (.field false 2 1 (t 14)) 15,M 15 2]<|
 .ret
def P7: Of Tryz.prog y3 16 [.tmp 2] Gv:=aZ {} Tryz.func150
def qh: aI:=r [V .nS 4]<|
 r [M 0 5,C iq [t 5] 6]<|
 r [M 0 7,M 0 8,Z 8 9,A 1 9 10,K 10 11,M 1 12,aD (.bK false ⟨false,1⟩ (.int .u8 0) 1 [(0,(t 12))]) 13,aD (.app (some 5) ⟨false,1⟩ (t 11) (t 13)) 14,Z 7 15,A 1 15 16,W 1 16 14]<|
 r [V .nS 4]<|
 .ret
def za: Of Tryz.prog ef 17 [.tmp 4] qh:=aZ ⟨[],[],[],[14],[],[]⟩ Tryz.func151
def Ds: aI:=r [X 0 1,V e0 2,V z0 3]<|
 q (r [L 3 1 5,C kL [t 5] 6,M 6 4]<|
 r [M 4 7,D .neq 7 0 8]<|
 c 8 (r [M 4 9,V e0 2,M 9 3]<|
 .ret) k)<|
 q (r [A 0 1 10,K 10 11]<|
 .block 0 (r [D .eql 11 1 13,M 13 12]<|
 c 12 (r [A 1 1 14,K 14 15,C F5 [t 15] 16,M 16 2,V z0 3]<|
 .ret) (r [D .eql 11 2 18,M 18 17]<|
 c 17 (r [A 2 1 19,K 19 20,C vN [t 20] 21,M 21 2,V z0 3]<|
 .ret) (r [D .eql 11 3 23,M 23 22]<|
 c 22 (r [A 1 1 24,K 24 25,D .eql 25 1 26,C xy [t 26] 27,M 27 2,V z0 3]<|
 .ret) k))))<|
 r [V (.str [110,117,108,108]) 2,V z0 3]<|
 .ret
def I9: Of Tryz.prog C1 28 [.tmp 2,.tmp 3] Ds:=aZ {} Tryz.func152
def I_: aI:=r [J [z0,e0,z0] 2]<|
 q (r [C pB [] 5,N 5 6,V z0 7]<|
 .block 0 (.loop (r [B .lss 7 6 8]<|
 q (c 8 k (.exit 0))<|
 q (.block 1 (r [I true 3 5 7 9,L 3 9 10,J [z0,e0,z0] 4,W 3 4 10]<|
 r [A 0 4 11,K 11 12,M 0 13,B .eql 12 13 14]<|
 c 14 (r [L 3 4 15,W 3 2 15]<|
 .ret) k))<|
 R [D .add 7 1 16,M 16 7])))<|
 r [aD (.build [z0,e0,z0] []) 17,W 3 2 17]<|
 .ret
def RZ: Of Tryz.prog qX 18 [.cell 2 true 3] I_:=aZ {} Tryz.func153
def KM: aI:=r [V z0 2]<|
 r [V z0 3]<|
 q (.block 0 (.loop (q (r [M 3 4,M 0 5,S 5 6,B .lss 4 6 7,M 7 8,MT 0 9 8,MT 3 10 8,⟨.gL (t 9) (t 10),(some 11),some (8,true)⟩,CT ua [t 11] 12 8,MT 12 13 8,MF 3 14 13,DF .gtr 14 0 15 13,MF 15 16 13,MT 0 17 16,MT 3 18 16,⟨.gL (t 17) (t 18),(some 19),some (16,true)⟩,CT q8 [t 19] 20 16,PF 16 20 21 13,OT 13 21 22 8,P 8 22 23]<|
 c 23 k (.exit 0))<|
 .block 1 (R [M 3 24,D .add 24 1 25,M 25 3]))))<|
 r [M 3 26,M 26 2]<|
 .ret
def Up: Of Tryz.prog xw 27 [.tmp 2] KM:=aZ {} Tryz.func154
def Dt: aI:=r [V (.bool false) 2]<|
 r [aD (.bK false ⟨false,1⟩ e0 9 [(0,(.c (.str [97,110,100]))),(1,(.c (.str [111,114]))),(2,(.c (.str [110,111,116]))),(3,(.c (.str [105,102]))),(4,(.c (.str [116,104,101,110]))),(5,(.c (.str [101,108,115,101]))),(6,(.c (.str [116,114,117,101]))),(7,(.c (.str [102,97,108,115,101]))),(8,(.c (.str [110,117,108,108])))]) 5,M 5 3]<|
 q (r [V z0 4]<|
 .block 0 (.loop (q (r [M 4 6,M 3 7,N 7 8,B .lss 6 8 9]<|
 c 9 k (.exit 0))<|
 q (.block 1 (r [M 3 12,M 4 13,I false 1 12 13 14,K 14 15,M 0 16,B .eql 15 16 17]<|
 c 17 (r [V (.bool true) 2]<|
 .ret) k))<|
 R [M 4 10,D .add 10 1 11,M 11 4])))<|
 r [V (.bool false) 2]<|
 .ret
def MS: Of Tryz.prog wc 18 [.tmp 2] Dt:=aZ {} Tryz.func155
def Ja: aI:=r [X 0 1,V (.bool false) 2]<|
 q (r [A 0 1 3,K 3 4]<|
 .block 0 (r [D .eql 4 0 6,M 6 5]<|
 c 5 (r [A 1 1 7,K 7 8,D .eql 8 0 9,M 9 10,AT 2 1 11 10,KT 11 12 10,⟨.bin .eql (t 12) (.c e0),(some 13),some (10,true)⟩,P 10 13 14,M 14 2]<|
 .ret) (r [D .eql 4 1 16,M 16 15]<|
 c 15 (r [A 2 1 17,K 17 18,aD (.bin .eql (t 18) (.c e0)) 19,M 19 2]<|
 .ret) (r [D .eql 4 2 21,M 21 20]<|
 c 20 (r [A 1 1 22,K 22 23,D .eql 23 0 24,M 24 25,AT 2 1 26 25,KT 26 27 25,CT AZ [t 27] 28 25,P 25 28 29,M 29 2]<|
 .ret) (r [D .eql 4 3 31,M 31 30]<|
 c 30 (r [A 2 1 32,K 32 33,aD (.bin .eql (t 33) (.c e0)) 34,M 34 35,AT 1 1 36 35,KT 36 37 35,DT .eql 37 0 38 35,MT 38 39 35,AF 1 1 40 39,KF 40 41 39,DF .eql 41 1 42 39,OT 39 42 43 35,P 35 43 44,M 44 2]<|
 .ret) k)))))<|
 r [V (.bool false) 2]<|
 .ret
def R0: Of Tryz.prog oe 45 [.tmp 2] Ja:=aZ {} Tryz.func156
def Jb: aI:=r [X 0 1,V e0 2]<|
 r [A 0 1 4,K 4 5,C fy [t 5] 6,M 6 3]<|
 q (r [A 0 1 7,K 7 8]<|
 .block 0 (q (r [D .eql 8 1 10,M 10 9]<|
 c 9 k (R [D .eql 8 3 11,M 11 9]))<|
 c 9 (r [M 3 12,A 1 1 13,K 13 14,C fy [t 14] 15,B .add 12 15 16,M 16 2]<|
 .ret) (r [D .eql 8 2 18,M 18 17]<|
 c 17 (r [M 3 19,A 2 1 20,K 20 21,C je [t 21] 22,B .add 19 22 23,M 23 2]<|
 .ret) k)))<|
 r [M 3 24,M 24 2]<|
 .ret
def R4: Of Tryz.prog AO 25 [.tmp 2] Jb:=aZ {} Tryz.func157
def KN: aI:=r [V (.bool false) 2]<|
 r [M 0 3,aD (.bin .or (t 3) (.c (.int .u8 32))) 4,aD (.bin .geq (t 4) (.c (.int .u8 97))) 5,M 5 6,MT 0 7 6,⟨.bin .or (t 7) (.c (.int .u8 32)),(some 8),some (6,true)⟩,⟨.bin .leq (t 8) (.c (.int .u8 122)),(some 9),some (6,true)⟩,P 6 9 10,M 10 11,MF 0 12 11,⟨.bin .eql (t 12) (.c (.int .u8 95)),(some 13),some (11,false)⟩,O 11 13 14,M 14 2]<|
 .ret
def Uq: Of Tryz.prog sO 15 [.tmp 2] KN:=aZ {} Tryz.func158
def Tb: aI:=r [V z0 4]<|
 q (r [M 0 6,S 6 7,V z0 8]<|
 .block 0 (.loop (r [B .lss 8 7 9]<|
 q (c 9 k (.exit 0))<|
 q (.block 1 (r [M 8 10,M 10 5]<|
 r [M 1 11,M 0 12,M 5 13,aD (.gL (t 12) (t 13)) 14,aD (.call false (t 11) [(t 14)]) 15,U 15 16]<|
 c 16 (r [M 5 17,M 17 4]<|
 .ret) k))<|
 R [D .add 8 1 18,M 18 8])))<|
 r [M 0 19,S 19 20,M 20 4]<|
 .ret
def Z4: Of Tryz.prog zT 21 [.tmp 4] Tb:=aZ {} Tryz.func159
def KO: aI:=r [V (.bool false) 2]<|
 r [M 0 3,C sO [t 3] 4,M 4 5,MF 0 6 5,CF rL [t 6] 7 5,O 5 7 8,M 8 2]<|
 .ret
def Ur: Of Tryz.prog C2 9 [.tmp 2] KO:=aZ {} Tryz.func160
def Nb: aI:=r [V (.bool false) 2]<|
 r [M 0 3,aD (.bin .geq (t 3) (.c (.int .u8 48))) 4,M 4 5,MT 0 6 5,⟨.bin .leq (t 6) (.c (.int .u8 57)),(some 7),some (5,true)⟩,P 5 7 8,M 8 2]<|
 .ret
def VM: Of Tryz.prog rL 9 [.tmp 2] Nb:=aZ {} Tryz.func161
def sZ: aI:=r [V z0 4]<|
 q (r [M 0 6,N 6 7,V z0 8]<|
 .block 0 (.loop (r [B .lss 8 7 9]<|
 q (c 9 k (.exit 0))<|
 q (.block 1 (r [M 8 10,M 10 5]<|
 r [M 1 11,M 0 12,M 5 13,I true 3 12 13 14,L 3 14 15,aD (.call false (t 11) [(t 15)]) 16]<|
 c 16 (r [M 5 17,M 17 4]<|
 .ret) k))<|
 R [D .add 8 1 18,M 18 8])))<|
 r [V (i6 (-1)) 4]<|
 .ret
def BW: Of Tryz.prog ny 19 [.tmp 4] sZ:=aZ {} Tryz.func162
def Jc: aI:=r [V (.bool false) 2]<|
 q (r [M 0 5,S 5 6,D .gtr 6 40 7]<|
 c 7 (r [V (.bool false) 2]<|
 .ret) k)<|
 q (r [M 0 8,aD (.NY (t 8)) 9]<|
 .block 0 (.loop (r [aD (.NZ (t 9)) 10,E 10 0 11]<|
 q (c 11 k (.exit 0))<|
 .block 1 (r [E 10 2 12,M 12 4]<|
 r [M 4 13,aD (.bin .lss (t 13) (.c (.int .i32 32))) 14,M 14 15,MF 4 16 15,⟨.bin .gtr (t 16) (.c (.int .i32 126)),(some 17),some (15,false)⟩,O 15 17 18]<|
 c 18 (r [V (.bool false) 2]<|
 .ret) k))))<|
 r [V (.bool true) 2]<|
 .ret
def R5: Of Tryz.prog AP 19 [.tmp 2] Jc:=aZ {} Tryz.func163
def EN: aI:=r [V z0 4]<|
 q (r [M 0 7,C xA [t 7] 8,M 8 5]<|
 r [M 5 9,D .neq 9 0 10]<|
 c 10 (r [M 5 11,M 11 4]<|
 .ret) k)<|
 q (r [V z0 6]<|
 .block 0 (.loop (q (r [M 6 12,M 0 13,N 13 14,B .lss 12 14 15]<|
 c 15 k (.exit 0))<|
 q (.block 1 (r [M 0 18,M 6 19,I true 3 18 19 20,L 3 20 21,M 1 22,C A2 [t 21,t 22] 23,U 23 24]<|
 c 24 (r [V (i6 17) 4]<|
 .ret) k))<|
 R [M 6 16,D .add 16 1 17,M 17 6])))<|
 q (r [M 0 25,N 25 26,D .eql 26 0 27]<|
 c 27 (r [V (i6 17) 4]<|
 .ret) k)<|
 r [V z0 4]<|
 .ret
def Ow: Of Tryz.prog sv 28 [.tmp 4] EN:=aZ {} Tryz.func164
def Gw: aI:=r [X 0 1,V (.bool false) 2]<|
 q (r [A 3 1 4,K 4 5,D .lss 5 1 6,M 6 7,AF 3 1 8 7,KF 8 9 7,DF .gtr 9 6 10 7,O 7 10 11]<|
 c 11 (r [V (.bool false) 2]<|
 .ret) k)<|
 q (r [A 4 1 12,K 12 13,D .eql 13 0 14]<|
 c 14 (r [V (.bool true) 2]<|
 .ret) k)<|
 q (r [A 3 1 15,K 15 16,D .neq 16 5 17,M 17 18,AF 4 1 19 18,KF 19 20 18,DF .lss 20 1 21 18,O 18 21 22,M 22 23,AF 4 1 24 23,KF 24 25 23,DF .gtr 25 4 26 23,O 23 26 27,M 27 28,AF 2 1 29 28,KF 29 30 28,NF 30 31 28,DF .neq 31 1 32 28,O 28 32 33]<|
 c 33 (r [V (.bool false) 2]<|
 .ret) k)<|
 r [A 2 1 34,K 34 35,aD (.cz ⟨true,3⟩ none (t 35) (.c z0)) 36,A 1 36 37,K 37 38,M 38 3]<|
 r [A 4 1 39,K 39 40,D .eql 40 4 41,M 41 42,MF 3 43 42,DF .eql 43 1 44 42,O 42 44 45,M 45 46,MF 3 47 46,DF .eql 47 2 48 46,MF 48 49 46,AT 4 1 50 49,KT 50 51 49,DT .neq 51 1 52 49,PF 49 52 53 46,O 46 53 54,M 54 2]<|
 .ret
def P8: Of Tryz.prog t_ 55 [.tmp 2] Gw:=aZ {} Tryz.func165
end Go.Proofs.YtmbgnaoilncbnaaGreatDoor
