/- Part of a proof: see Root. -/
import Derived.Test.YtmbgnaoilncbnaaGreatDoorZ13
import Derived.KernelRfl
set_option linter.unnecessarySimpa false
set_option linter.unusedSimpArgs false
set_option linter.unusedVariables false
namespace Go.Proofs.YtmbgnaoilncbnaaGreatDoor
open Go.AM Go.AM.W
set_option maxRecDepth 10000
def Bi: aI:=r [V z0 2,V e0 3,V z0 4]<|
 r [V (.int .u64 0) 5,V (.int .u64 1) 6]<|
 q (r [V z0 7]<|
 .block 0 (.loop (q (r [M 7 9,M 0 10,S 10 11,B .lss 9 11 12]<|
 c 12 k (.exit 0))<|
 q (.block 1 (r [M 0 15,M 7 16,⟨.eJ (t 15) (t 16),(some 17),none⟩,⟨.bin .rem (t 17) (.c (.int .u8 128)),(some 18),none⟩,⟨.gW .u64 (t 18),(some 19),none⟩,M 19 8]<|
 q (r [M 7 20,D .eql 20 9 21,M 21 22,MT 0 23 22,MT 7 24 22,⟨.eJ (t 23) (t 24),(some 25),some (22,true)⟩,⟨.bin .gtr (t 25) (.c (.int .u8 1)),(some 26),some (22,true)⟩,P 22 26 27,M 27 28,MF 7 29 28,DF .gtr 29 0 30 28,MF 30 31 28,MT 0 32 31,MT 7 33 31,⟨.eJ (t 32) (t 33),(some 34),some (31,true)⟩,⟨.bin .eql (t 34) (.c (.int .u8 0)),(some 35),some (31,true)⟩,PF 31 35 36 28,O 28 36 37]<|
 c 37 (r [V z0 2,V e0 3,V (i6 4) 4]<|
 .ret) k)<|
 r [M 5 38,M 8 39,M 6 40,B .mul 39 40 41,B .add 38 41 42,M 42 5]<|
 r [M 6 43,⟨.bin .mul (t 43) (.c (.int .u64 128)),(some 44),none⟩,M 44 6]<|
 r [M 0 45,M 7 46,⟨.eJ (t 45) (t 46),(some 47),none⟩,⟨.bin .lss (t 47) (.c (.int .u8 128)),(some 48),none⟩]<|
 c 48 (q (.draw [M 5 49,Q vE [t 49] 50,M 0 51,M 7 52,D .add 52 1 53,⟨.mK (t 51) (some (t 53)) none,(some 54),none⟩,M 50 2,M 54 3,V z0 4] [])<|
 .ret) k))<|
 R [M 7 13,D .add 13 1 14,M 14 7])))<|
 r [V z0 2,V e0 3,V (i6 3) 4]<|
 .ret
theorem J8: Of Tryz.prog iE 55 [.tmp 2,.tmp 3,.tmp 4] Bi:=aU {} Tryz.func72
def z8: aI:=r [V e0 4,V e0 5,V z0 6]<|
 r [M 0 11,C iE [t 11] 12,M 12 10,E 10 0 13,E 10 1 14,E 10 2 15,M 13 7,M 14 8,M 15 9]<|
 q (.block 0 (r [M 9 17,D .neq 17 0 18,M 18 16]<|
 c 16 (r [M 9 19,V e0 4,V e0 5,M 19 6]<|
 .ret) (r [M 7 21,D .lss 21 0 22,M 22 20]<|
 c 20 (r [V e0 4,V e0 5,V (i6 4) 6]<|
 .ret) (r [M 7 24,M 1 25,B .gtr 24 25 26,M 26 23]<|
 c 23 (r [V e0 4,V e0 5,V (i6 5) 6]<|
 .ret) (r [M 7 28,M 8 29,S 29 30,B .gtr 28 30 31,M 31 27]<|
 c 27 (r [V e0 4,V e0 5,V (i6 3) 6]<|
 .ret) k)))))<|
 q (.draw [M 8 32,M 7 33,⟨.mK (t 32) none (some (t 33)),(some 34),none⟩,M 8 35,M 7 36,⟨.mK (t 35) (some (t 36)) none,(some 37),none⟩,M 34 4,M 37 5,V z0 6] [])<|
 .ret
theorem IZ: Of Tryz.prog nE 38 [.tmp 4,.tmp 5,.tmp 6] z8:=aU {} Tryz.func73
def Bj: aI:=r [V .ae 4,V e0 5,V z0 6]<|
 r [M 0 15,C iE [t 15] 16,M 16 14,E 14 0 17,E 14 1 18,E 14 2 19,M 17 7,M 18 8,M 19 9]<|
 q (.block 0 (r [M 9 21,D .neq 21 0 22,M 22 20]<|
 c 20 (r [M 9 23,V .ae 4,V e0 5,M 23 6]<|
 .ret) (r [M 7 25,D .lss 25 0 26,M 26 24]<|
 c 24 (r [V .ae 4,V e0 5,V (i6 4) 6]<|
 .ret) (r [M 7 28,M 1 29,B .gtr 28 29 30,M 30 27]<|
 c 27 (r [V .ae 4,V e0 5,V (i6 5) 6]<|
 .ret) k))))<|
 r [⟨.iB ⟨true,3⟩,(some 10),none⟩]<|
 q (.block 1 (.loop (q (r [M 10 31,N 31 32,M 7 33,B .lss 32 33 34]<|
 c 34 k (.exit 1))<|
 .block 2 (r [M 8 36,C zG [t 36] 37,M 37 35,E 35 0 38,E 35 1 39,E 35 2 40,J [z0,z0,e0] 11,W 3 11 38,M 39 12,M 40 13]<|
 q (r [M 13 41,D .neq 41 0 42]<|
 c 42 (r [M 13 43,V .ae 4,V e0 5,M 43 6]<|
 .ret) k)<|
 r [M 10 44,L 3 11 45,⟨.bD false ⟨true,3⟩ (.agg [z0,z0,e0]) 1 [(0,(t 45))],(some 46),none⟩,⟨.app none ⟨true,3⟩ (t 44) (t 46),(some 47),none⟩,M 47 10]<|
 R [M 12 48,M 48 8]))))<|
 r [M 10 49,M 8 50,M 49 4,M 50 5,V z0 6]<|
 .ret
theorem J9: Of Tryz.prog tQ 51 [.tmp 4,.tmp 5,.tmp 6] Bj:=aU ⟨[],[],[(10,⟨true,3⟩)],[],[],[]⟩ Tryz.func74
def Lz: aI:=r [V (.bool false) 2]<|
 r [M 0 3,⟨.bin .neq (t 3) (.c e0),(some 4),none⟩,M 4 5,MT 0 6 5,CT yJ [t 6] 7 5,MT 0 8 5,ST 8 9 5,BT .eql 7 9 10 5,P 5 10 11,M 11 12,MT 0 13 12,ST 13 14 12,DT .leq 14 16 15 12,P 12 15 16,M 16 17,MT 0 18 17,CT vF [t 18] 19 17,UT 19 20 17,P 17 20 21,M 21 2]<|
 .ret
theorem Tl: Of Tryz.prog qB 22 [.tmp 2] Lz:=aU {} Tryz.func76
def Bk: aI:=r [V (.bool false) 4]<|
 q (r [M 0 6,N 6 7,M 1 8,N 8 9,B .neq 7 9 10]<|
 c 10 (r [V (.bool false) 4]<|
 .ret) k)<|
 q (r [V z0 5]<|
 .block 0 (.loop (q (r [M 5 11,M 0 12,N 12 13,B .lss 11 13 14]<|
 c 14 k (.exit 0))<|
 q (.block 1 (q (.draw [M 0 17,M 5 18,I true 3 17 18 19,L 3 19 20,M 1 21,M 5 22,I true 3 21 22 23,L 3 23 24,⟨.ni true true [.i,.i,.s] (t 20) (t 24),(some 25),none⟩] [])<|
 c 25 (r [V (.bool false) 4]<|
 .ret) k))<|
 R [M 5 15,D .add 15 1 16,M 16 5])))<|
 r [V (.bool true) 4]<|
 .ret
theorem J_: Of Tryz.prog tR 26 [.tmp 4] Bk:=aU {} Tryz.func79
def Jh: aI:=r [V e0 2]<|
 r [M 0 5,C zI [t 5] 6,M 6 3]<|
 r [⟨.iB ⟨false,1⟩,(some 4),none⟩]<|
 q (.block 0 (.loop (q (r [M 3 7,⟨.bin .geq (t 7) (.c (.int .u64 128)),(some 8),none⟩]<|
 c 8 k (.exit 0))<|
 .block 1 (r [M 4 9,M 3 10,⟨.bin .rem (t 10) (.c (.int .u64 128)),(some 11),none⟩,⟨.bin .add (.c (.int .u64 128)) (t 11),(some 12),none⟩,⟨.gW .u8 (t 12),(some 13),none⟩,⟨.bD false ⟨false,1⟩ (.int .u8 0) 1 [(0,(t 13))],(some 14),none⟩,⟨.app none ⟨false,1⟩ (t 9) (t 14),(some 15),none⟩,M 15 4]<|
 R [M 3 16,⟨.bin .quo (t 16) (.c (.int .u64 128)),(some 17),none⟩,M 17 3]))))<|
 r [M 4 18,M 3 19,⟨.gW .u8 (t 19),(some 20),none⟩,⟨.bD false ⟨false,1⟩ (.int .u8 0) 1 [(0,(t 20))],(some 21),none⟩,⟨.app none ⟨false,1⟩ (t 18) (t 21),(some 22),none⟩,⟨.uV (t 22),(some 23),none⟩,M 23 2]<|
 .ret
theorem Rs: Of Tryz.prog gN 24 [.tmp 2] Jh:=aU ⟨[],[],[(4,⟨false,1⟩)],[],[],[]⟩ Tryz.func82
def GF: aI:=r [V e0 2]<|
 r [M 0 3,S 3 4,C gN [t 4] 5,M 0 6,B .add 5 6 7,M 7 2]<|
 .ret
theorem PW: Of Tryz.prog kR 8 [.tmp 2] GF:=aU {} Tryz.func83
def uo: aI:=r [V (.bool false) 4]<|
 q (r [M 0 6,N 6 7,M 1 8,N 8 9,B .neq 7 9 10]<|
 c 10 (r [V (.bool false) 4]<|
 .ret) k)<|
 q (r [M 0 11,N 11 12,V z0 13]<|
 .block 0 (.loop (r [B .lss 13 12 14]<|
 q (c 14 k (.exit 0))<|
 q (.block 1 (r [M 13 15,M 15 5]<|
 q (.draw [M 0 16,M 5 17,I true 3 16 17 18,L 3 18 19,M 1 20,M 5 21,I true 3 20 21 22,L 3 22 23,⟨.ni true true [.i,.i,.s] (t 19) (t 23),(some 24),none⟩] [])<|
 c 24 (r [V (.bool false) 4]<|
 .ret) k))<|
 R [D .add 13 1 25,M 25 13])))<|
 r [V (.bool true) 4]<|
 .ret
theorem CO: Of Tryz.prog nF 26 [.tmp 4] uo:=aU {} Tryz.func85
def z_: aI:=r [V (.bool false) 2]<|
 q (r [M 0 4,N 4 5,D .gtr 5 12 6]<|
 c 6 (r [V (.bool false) 2]<|
 .ret) k)<|
 q (r [V z0 3]<|
 .block 0 (.loop (q (r [M 3 7,M 0 8,N 8 9,B .lss 7 9 10]<|
 c 10 k (.exit 0))<|
 q (.block 1 (r [M 0 13,M 3 14,I true 3 13 14 15,A 0 15 16,K 16 17,S 17 18,D .gtr 18 300 19]<|
 c 19 (r [V (.bool false) 2]<|
 .ret) k))<|
 R [M 3 11,D .add 11 1 12,M 12 3])))<|
 r [V (.bool true) 2]<|
 .ret
theorem I0: Of Tryz.prog sG 20 [.tmp 2] z_:=aU {} Tryz.func86
def oV: aI:=r [V (.bool false) 6]<|
 q (r [M 0 10,N 10 11,M 1 12,N 12 13,B .neq 11 13 14]<|
 c 14 (r [V (.bool false) 6]<|
 .ret) k)<|
 q (r [M 0 15,N 15 16,V z0 17]<|
 .block 0 (.loop (r [B .lss 17 16 18]<|
 q (c 18 k (.exit 0))<|
 q (.block 1 (r [M 17 19,I true 3 15 17 20,L 3 20 21,J [e0,z0,.ae] 8,M 19 7,W 3 8 21]<|
 r [M 1 22,M 7 23,I true 3 22 23 24,L 3 24 25,J [e0,z0,.ae] 9,W 3 9 25]<|
 r [M 2 26,L 3 8 27,L 3 9 28,⟨.call false (t 26) [(t 27),(t 28)],(some 29),none⟩,U 29 30]<|
 c 30 (r [V (.bool false) 6]<|
 .ret) k))<|
 R [D .add 17 1 31,M 31 17])))<|
 r [V (.bool true) 6]<|
 .ret
theorem xZ: Of Tryz.prog iq 32 [.tmp 6] oV:=aU {} Tryz.func87
def ve: aI:=r [X 0 2,X 1 3,V (.bool false) 4]<|
 r [A 0 2 5,K 5 6,A 0 3 7,K 7 8,B .eql 6 8 9,M 9 10,AT 1 2 11 10,KT 11 12 10,AT 1 3 13 10,KT 13 14 10,BT .eql 12 14 15 10,P 10 15 16,M 16 17,AT 2 2 18 17,KT 18 19 17,AT 2 3 20 17,KT 20 21 17,CT nF [t 19,t 21] 22 17,P 17 22 23,M 23 4]<|
 .ret
theorem D3: Of Tryz.prog gF 24 [.tmp 4] ve:=aU {} Tryz.func88
def qX: aI:=r [V (.bool false) 6]<|
 q (r [M 0 10,N 10 11,M 1 12,N 12 13,B .neq 11 13 14]<|
 c 14 (r [V (.bool false) 6]<|
 .ret) k)<|
 q (r [M 0 15,N 15 16,V z0 17]<|
 .block 0 (.loop (r [B .lss 17 16 18]<|
 q (c 18 k (.exit 0))<|
 q (.block 1 (r [M 17 19,I true 2 15 17 20,L 2 20 21,J [.ae,.ae] 8,M 19 7,W 2 8 21]<|
 r [M 1 22,M 7 23,I true 2 22 23 24,L 2 24 25,J [.ae,.ae] 9,W 2 9 25]<|
 r [M 2 26,L 2 8 27,L 2 9 28,⟨.call false (t 26) [(t 27),(t 28)],(some 29),none⟩,U 29 30]<|
 c 30 (r [V (.bool false) 6]<|
 .ret) k))<|
 R [D .add 17 1 31,M 31 17])))<|
 r [V (.bool true) 6]<|
 .ret
theorem Aa: Of Tryz.prog lC 32 [.tmp 6] qX:=aU {} Tryz.func89
def yl: aI:=r [X 0 2,X 1 3,V (.bool false) 4]<|
 r [A 0 2 5,K 5 6,A 0 3 7,K 7 8,C jN [t 6,t 8] 9,M 9 10,AT 1 2 11 10,KT 11 12 10,AT 1 3 13 10,KT 13 14 10,CT jN [t 12,t 14] 15 10,P 10 15 16,M 16 4]<|
 .ret
theorem GG: Of Tryz.prog mF 17 [.tmp 4] yl:=aU {} Tryz.func90
def GH: aI:=r [V (.int .u64 0) 2]<|
 r [M 0 3,⟨.gW .u64 (t 3),(some 4),none⟩,⟨.bin .shl (t 4) (.c (.int .u64 1)),(some 5),none⟩,M 0 6,⟨.bin .shr (t 6) (.c (.int .u64 63)),(some 7),none⟩,⟨.gW .u64 (t 7),(some 8),none⟩,B .xor 5 8 9,M 9 2]<|
 .ret
theorem PX: Of Tryz.prog zE 10 [.tmp 2] GH:=aU {} Tryz.func91
def wX: aI:=r [V (.int .u8 0) 2]<|
 r [M 0 3,⟨.gW .u8 (t 3),(some 4),none⟩,⟨.bin .and (t 4) (.c (.int .u8 127)),(some 5),none⟩,M 5 2]<|
 .ret
theorem FV: Of Tryz.prog lX 6 [.tmp 2] wX:=aU {} Tryz.func92
def Ab: aI:=r [X 0 1,J [e0,.ae,.ae,z0,z0,.ae,.ae] 2,V z0 3,V z0 4,V z0 5]<|
 q (r [L 6 1 12,C xH [t 12] 13,M 13 6]<|
 r [M 6 14,D .neq 14 0 15]<|
 c 15 (r [⟨.build [e0,.ae,.ae,z0,z0,.ae,.ae] [],(some 16),none⟩,M 6 17,W 7 2 16,V (i6 (-1)) 3,V z0 4,M 17 5]<|
 .ret) k)<|
 r [L 6 1 18,⟨.build [e0,.ae,.ae,z0,z0,.ae,.ae] [(0,6,(t 18))],(some 19),none⟩,J [e0,.ae,.ae,z0,z0,.ae,.ae] 7,W 7 7 19]<|
 q (r [V z0 8]<|
 .block 0 (.loop (q (r [M 8 20,A 5 1 21,K 21 22,N 22 23,B .lss 20 23 24]<|
 c 24 k (.exit 0))<|
 q (.block 1 (q (.draw [L 6 1 28,A 5 1 29,K 29 30,M 8 31,I true 2 30 31 32,L 2 32 33,Q zJ [t 28,t 33] 34,M 34 27,E 27 0 35,E 27 1 36,E 27 2 37,J [.ae,.ae] 9,W 2 9 35,M 36 10,M 37 11] [])<|
 q (r [M 11 38,D .neq 38 0 39]<|
 c 39 (r [⟨.build [e0,.ae,.ae,z0,z0,.ae,.ae] [],(some 40),none⟩,M 8 41,M 10 42,M 11 43,W 7 2 40,M 41 3,M 42 4,M 43 5]<|
 .ret) k)<|
 R [A 6 7 44,K 44 45,L 2 9 46,⟨.bD false ⟨true,2⟩ (.agg [.ae,.ae]) 1 [(0,(t 46))],(some 47),none⟩,⟨.app none ⟨true,2⟩ (t 45) (t 47),(some 48),none⟩,A 6 7 49,W 1 49 48]))<|
 R [M 8 25,D .add 25 1 26,M 26 8])))<|
 r [L 7 7 50,W 7 2 50,V z0 3,V z0 4,V z0 5]<|
 .ret
theorem E_: Of Tryz.prog zF 51 [.cell 2 true 7,.tmp 3,.tmp 4,.tmp 5] Ab:=aU {} Tryz.func93
def mQ: aI:=r [X 0 1,V e0 2,V z0 3]<|
 q (r [L 3 1 6,C lP [t 6] 7,U 7 8]<|
 c 8 (r [V e0 2,V (i6 2) 3]<|
 .ret) k)<|
 r [L 3 1 10,C tU [t 10] 11,M 11 9,E 9 0 12,E 9 1 13,M 12 4,M 13 5]<|
 q (r [M 5 14,U 14 15,M 15 16,MF 4 17 16,SF 17 18 16,DF .gtr 18 200 19 16,O 16 19 20]<|
 c 20 (r [V e0 2,V (i6 5) 3]<|
 .ret) k)<|
 r [M 4 21,M 21 2,V z0 3]<|
 .ret
theorem nZ: Of Tryz.prog tS 22 [.tmp 2,.tmp 3] mQ:=aU {} Tryz.func94
def Ac: aI:=r [X 0 1,V e0 2,V z0 3]<|
 q (.block 0 (r [L 6 1 6,C lQ [t 6] 7,U 7 8,M 8 5]<|
 c 5 (r [V e0 2,V (i6 2) 3]<|
 .ret) (r [L 6 1 10,C kS [t 10] 11,D .gtr 11 12 12,M 12 9]<|
 c 9 (r [V e0 2,V (i6 12) 3]<|
 .ret) k)))<|
 r [L 6 1 13,⟨.call false (.c (.fn (.func er) [] [])) [(t 13),(.c z0)],(some 14),none⟩,M 14 4]<|
 q (r [M 4 15,S 15 16,D .gtr 16 200 17]<|
 c 17 (r [V e0 2,V (i6 5) 3]<|
 .ret) k)<|
 r [M 4 18,M 18 2,V z0 3]<|
 .ret
theorem Fa: Of Tryz.prog mM 19 [.tmp 2,.tmp 3] Ac:=aU {} Tryz.func95
def Bl: aI:=r [V e0 4]<|
 r [M 0 7,N 7 8,C gN [t 8] 9,M 9 5]<|
 q (r [V z0 6]<|
 .block 0 (.loop (q (r [M 6 10,M 0 11,N 11 12,B .lss 10 12 13]<|
 c 13 k (.exit 0))<|
 q (.block 1 (q (.draw [M 5 16,M 0 17,M 6 18,I true 3 17 18 19,A 0 19 20,K 20 21,Q kR [t 21] 22,B .add 16 22 23,M 0 24,M 6 25,I true 3 24 25 26,A 1 26 27,K 27 28,Q gN [t 28] 29,B .add 23 29 30,M 30 5] [])<|
 r [M 1 31]<|
 c 31 (R [M 5 32,M 0 33,M 6 34,I true 3 33 34 35,A 2 35 36,K 36 37,C BU [t 37] 38,B .add 32 38 39,M 39 5]) k))<|
 R [M 6 14,D .add 14 1 15,M 15 6])))<|
 r [M 5 40,M 40 4]<|
 .ret
theorem Ka: Of Tryz.prog oR 41 [.tmp 4] Bl:=aU {} Tryz.func96
def jf: aI:=r [V e0 4,V e0 5,V z0 6]<|
 r [M 0 11,M 1 12,C zH [t 11,t 12] 13,M 13 10,E 10 0 14,E 10 1 15,E 10 2 16,M 14 7,M 15 8,M 16 9]<|
 q (.block 0 (r [M 9 18,D .neq 18 0 19,M 19 17]<|
 c 17 (r [M 9 20,V e0 4,V e0 5,M 20 6]<|
 .ret) (r [M 7 22,M 8 23,S 23 24,B .gtr 22 24 25,M 25 21]<|
 c 21 (r [V e0 4,V e0 5,V (i6 3) 6]<|
 .ret) k)))<|
 q (.draw [M 8 26,M 7 27,⟨.mK (t 26) none (some (t 27)),(some 28),none⟩,M 8 29,M 7 30,⟨.mK (t 29) (some (t 30)) none,(some 31),none⟩,M 28 4,M 31 5,V z0 6] [])<|
 .ret
theorem j7: Of Tryz.prog nG 32 [.tmp 4,.tmp 5,.tmp 6] jf:=aU {} Tryz.func97
def Bm: aI:=r [V z0 2,V e0 3,V z0 4]<|
 r [V (.int .u64 0) 5]<|
 q (r [M 0 8,S 8 9,⟨.min (t 9) [(.c (i6 10))],(some 10),none⟩,V z0 11]<|
 .block 0 (.loop (r [B .lss 11 10 12]<|
 q (c 12 k (.exit 0))<|
 q (.block 1 (r [M 11 13,M 13 6]<|
 r [M 0 14,M 6 15,⟨.eJ (t 14) (t 15),(some 16),none⟩,M 16 7]<|
 q (r [M 6 17,D .gtr 17 0 18,M 18 19,MT 7 20 19,⟨.bin .eql (t 20) (.c (.int .u8 0)),(some 21),some (19,true)⟩,P 19 21 22,M 22 23,MF 6 24 23,DF .eql 24 9 25 23,MF 25 26 23,MT 7 27 26,⟨.bin .gtr (t 27) (.c (.int .u8 1)),(some 28),some (26,true)⟩,PF 26 28 29 23,O 23 29 30]<|
 c 30 (r [V z0 2,V e0 3,V (i6 4) 4]<|
 .ret) k)<|
 r [M 5 31,M 7 32,⟨.gW .i64 (t 32),(some 33),none⟩,C tV [t 33] 34,⟨.gW .u64 (t 34),(some 35),none⟩,M 6 36,⟨.bin .mul (.c (i6 7)) (t 36),(some 37),none⟩,B .shl 35 37 38,B .or 31 38 39,M 39 5]<|
 r [M 7 40,⟨.bin .lss (t 40) (.c (.int .u8 128)),(some 41),none⟩]<|
 c 41 (q (.draw [M 5 42,Q vG [t 42] 43,M 0 44,M 6 45,D .add 45 1 46,⟨.mK (t 44) (some (t 46)) none,(some 47),none⟩,M 43 2,M 47 3,V z0 4] [])<|
 .ret) k))<|
 R [D .add 11 1 48,M 48 11])))<|
 r [V z0 2,V e0 3,V (i6 3) 4]<|
 .ret
theorem Kb: Of Tryz.prog iF 49 [.tmp 2,.tmp 3,.tmp 4] Bm:=aU {} Tryz.func98
def Bn: aI:=r [V .ae 4,V e0 5,V z0 6]<|
 r [M 0 13,C iF [t 13] 14,M 14 12,E 12 0 15,E 12 1 16,E 12 2 17,M 15 7,M 16 8,M 17 9]<|
 q (.block 0 (r [M 9 19,D .neq 19 0 20,M 20 18]<|
 c 18 (r [M 9 21,V .ae 4,V e0 5,M 21 6]<|
 .ret) (r [M 7 23,D .lss 23 0 24,M 24 22]<|
 c 22 (r [V .ae 4,V e0 5,V (i6 4) 6]<|
 .ret) (r [M 7 26,M 1 27,B .gtr 26 27 28,M 28 25]<|
 c 25 (r [V .ae 4,V e0 5,V (i6 5) 6]<|
 .ret) k))))<|
 r [⟨.iB ⟨true,3⟩,(some 10),none⟩]<|
 q (.block 1 (.loop (q (r [M 10 29,N 29 30,M 7 31,B .lss 30 31 32]<|
 c 32 k (.exit 1))<|
 .block 2 (r [J [z0,z0,e0] 11]<|
 q (r [M 8 34,C zK [t 34] 35,M 35 33,E 33 0 36,E 33 1 37,E 33 2 38,W 3 11 36,M 37 8,M 38 9]<|
 r [M 9 39,D .neq 39 0 40]<|
 c 40 (r [M 9 41,V .ae 4,V e0 5,M 41 6]<|
 .ret) k)<|
 R [M 10 42,L 3 11 43,⟨.bD false ⟨true,3⟩ (.agg [z0,z0,e0]) 1 [(0,(t 43))],(some 44),none⟩,⟨.app none ⟨true,3⟩ (t 42) (t 44),(some 45),none⟩,M 45 10]))))<|
 r [M 10 46,M 8 47,M 46 4,M 47 5,V z0 6]<|
 .ret
theorem Kc: Of Tryz.prog tT 48 [.tmp 4,.tmp 5,.tmp 6] Bn:=aU ⟨[],[],[(10,⟨true,3⟩)],[],[],[]⟩ Tryz.func99
def vO: aI:=r [X 0 1,V z0 2]<|
 q (r [A 0 1 5,K 5 6,C qB [t 6] 7,U 7 8]<|
 c 8 (r [V (i6 13) 2]<|
 .ret) k)<|
 q (r [A 1 1 9,K 9 10,⟨.call false (.c (.fn (.func nH) [] [])) [(t 10),(.c (.bool false))],(some 11),none⟩,M 11 3]<|
 r [M 3 12,D .neq 12 0 13]<|
 c 13 (r [M 3 14,M 14 2]<|
 .ret) k)<|
 q (r [A 2 1 15,K 15 16,A 3 1 17,K 17 18,D .eql 18 3 19,C nH [t 16,t 19] 20,M 20 4]<|
 r [M 4 21,D .neq 21 0 22]<|
 c 22 (r [M 4 23,M 23 2]<|
 .ret) k)<|
 q (.block 0 (r [L 6 1 25,C oS [t 25] 26,U 26 27,M 27 24]<|
 c 24 (r [V (i6 17) 2]<|
 .ret) (r [A 5 1 29,K 29 30,N 30 31,D .gtr 31 24 32,M 32 28]<|
 c 28 (r [V (i6 24) 2]<|
 .ret) k)))<|
 r [V z0 2]<|
 .ret
theorem Bo: Of Tryz.prog vD 33 [.tmp 2] vO:=aU {} Tryz.func100
def x4: aI:=r [X 0 2,X 1 3,J [.ae,.ae] 4,V z0 5,V z0 6]<|
 q (r [A 0 3 15,K 15 16,N 16 17,A 1 2 18,K 18 19,N 19 20,B .neq 17 20 21,M 21 22,AF 1 3 23 22,KF 23 24 22,NF 24 25 22,AF 2 2 26 22,KF 26 27 22,NF 27 28 22,BF .neq 25 28 29 22,O 22 29 30]<|
 c 30 (r [L 2 4 31,W 2 4 31,V z0 5,V (i6 17) 6]<|
 .ret) k)<|
 q (r [A 0 3 32,K 32 33,N 33 34,V z0 35]<|
 .block 0 (.loop (r [B .lss 35 34 36]<|
 q (c 36 k (.exit 0))<|
 q (.block 1 (r [M 35 37,I false 1 33 35 38,K 38 39,M 37 7,M 39 8]<|
 r [L 6 2 41,M 7 42,M 8 43,C zL [t 41,t 42,t 43] 44,M 44 40,E 40 0 45,E 40 1 46,J [(.bool false),(.bool false),.ae] 9,W 3 9 45,M 46 10]<|
 q (r [M 10 47,D .neq 47 0 48]<|
 c 48 (r [L 2 4 49,M 7 50,M 10 51,W 2 4 49,M 50 5,M 51 6]<|
 .ret) k)<|
 R [A 0 4 52,K 52 53,L 3 9 54,⟨.bD false ⟨true,3⟩ (.agg [(.bool false),(.bool false),.ae]) 1 [(0,(t 54))],(some 55),none⟩,⟨.app none ⟨true,3⟩ (t 53) (t 55),(some 56),none⟩,A 0 4 57,W 1 57 56]))<|
 R [D .add 35 1 58,M 58 35])))<|
 q (r [A 1 3 59,K 59 60,N 60 61,V z0 62]<|
 .block 2 (.loop (r [B .lss 62 61 63]<|
 q (c 63 k (.exit 2))<|
 q (.block 3 (r [M 62 64,I false 1 60 62 65,K 65 66,M 64 11,M 66 12]<|
 r [L 6 2 68,M 11 69,M 12 70,C xI [t 68,t 69,t 70] 71,M 71 67,E 67 0 72,E 67 1 73,J [z0,z0,z0,e0,e0,.ae] 13,W 6 13 72,M 73 14]<|
 q (r [M 14 74,D .neq 74 0 75]<|
 c 75 (q (.draw [L 2 4 76,A 1 2 77,K 77 78,N 78 79,M 11 80,B .add 79 80 81,M 14 82,W 2 4 76,M 81 5,M 82 6] [((t 77),(t 4))])<|
 .ret) k)<|
 R [A 1 4 83,K 83 84,L 6 13 85,⟨.bD false ⟨true,6⟩ (.agg [z0,z0,z0,e0,e0,.ae]) 1 [(0,(t 85))],(some 86),none⟩,⟨.app none ⟨true,6⟩ (t 84) (t 86),(some 87),none⟩,A 1 4 88,W 1 88 87]))<|
 R [D .add 62 1 89,M 89 62])))<|
 r [L 2 4 90,W 2 4 90,V z0 5,V z0 6]<|
 .ret
theorem CP: Of Tryz.prog xF 91 [.cell 4 true 2,.tmp 5,.tmp 6] x4:=aU {} Tryz.func101
def GI: aI:=r [X 0 1,V z0 2]<|
 q (.block 0 (r [A 0 1 4,K 4 5,M 5 6,AT 1 1 7 6,KT 7 8 6,UT 8 9 6,P 6 9 10,M 10 11,AT 2 1 12 11,KT 12 13 11,NT 13 14 11,DT .eql 14 0 15 11,P 11 15 16,M 16 3]<|
 c 3 (r [V z0 2]<|
 .ret) (r [A 0 1 18,K 18 19,M 19 20,AF 2 1 21 20,KF 21 22 20,NF 22 23 20,DF .eql 23 0 24 20,O 20 24 25,M 25 26,AF 2 1 27 26,KF 27 28 26,NF 28 29 26,DF .gtr 29 12 30 26,O 26 30 31,M 31 17]<|
 c 17 (r [V (i6 2) 2]<|
 .ret) (r [A 2 1 33,K 33 34,⟨.call false (.c (.fn (.func jY) [] [])) [(t 34),(.c (.fn (.func qC) [] []))],(some 35),none⟩,M 35 32]<|
 c 32 (r [V (i6 2) 2]<|
 .ret) k))))<|
 r [V z0 2]<|
 .ret
theorem PY: Of Tryz.prog pG 36 [.tmp 2] GI:=aU {} Tryz.func102
def ow: aI:=r [X 0 1,V e0 2,V z0 3]<|
 r [A 1 1 10,L 6 10 11,C tW [t 11] 12,M 12 9,E 9 0 13,E 9 1 14,M 13 4,M 14 5]<|
 q (r [M 5 15,D .neq 15 0 16]<|
 c 16 (r [M 5 17,V e0 2,M 17 3]<|
 .ret) k)<|
 q (r [A 0 1 18,K 18 19]<|
 .block 0 (r [D .eql 19 1 21,M 21 20]<|
 c 20 (r [M 4 22,M 22 2,V z0 3]<|
 .ret) (q (r [D .eql 19 2 24,M 24 23]<|
 c 23 k (r [D .eql 19 3 25,M 25 23]<|
 c 23 k (r [D .eql 19 4 26,M 26 23]<|
 c 23 k (R [D .eql 19 5 27,M 27 23]))))<|
 c 23 (r [A 0 1 28,K 28 29,C wC [t 29] 30,⟨.bin .add (t 30) (.c (.str [32])),(some 31),none⟩,M 4 32,B .add 31 32 33,M 33 2,V z0 3]<|
 .ret) k)))<|
 r [A 7 1 35,L 6 35 36,C tW [t 36] 37,M 37 34,E 34 0 38,E 34 1 39,M 38 6,M 39 5]<|
 q (r [M 5 40,D .neq 40 0 41]<|
 c 41 (r [M 5 42,V e0 2,M 42 3]<|
 .ret) k)<|
 r [V (.str [91]) 7,V (.str [93]) 8]<|
 q (r [A 13 1 43,K 43 44]<|
 c 44 (R [V (.str [93]) 7]) k)<|
 q (r [A 14 1 45,K 45 46]<|
 c 46 (R [V (.str [91]) 8]) k)<|
 r [M 7 47,M 4 48,B .add 47 48 49,⟨.bin .add (t 49) (.c (.str [46,46])),(some 50),none⟩,M 6 51,B .add 50 51 52,M 8 53,B .add 52 53 54,M 54 2,V z0 3]<|
 .ret
theorem pN: Of Tryz.prog BS 55 [.tmp 2,.tmp 3] ow:=aU {} Tryz.func103
def CQ: aI:=r [X 0 1,V (.bool false) 2]<|
 q (q (.draw [A 5 1 3,K 3 4,N 4 5,A 0 1 6,K 6 7,Q vH [t 7] 8,B .neq 5 8 9] [])<|
 c 9 (r [V (.bool false) 2]<|
 .ret) k)<|
 q (r [A 0 1 10,K 10 11]<|
 .block 0 (r [D .eql 11 1 13,M 13 12]<|
 c 12 (r [A 4 1 14,K 14 15,⟨.bin .eql (t 15) (.c e0),(some 16),none⟩,M 16 17,AT 1 1 18 17,LT 3 18 19 17,CT jX [t 19] 20 17,DT .eql 20 0 21 17,P 17 21 22,M 22 23,AT 1 1 24 23,AT 0 24 25 23,KT 25 26 23,DT .neq 26 1 27 23,MT 27 28 23,AF 1 1 29 28,AF 1 29 30 28,KF 30 31 28,DF .geq 31 0 32 28,OT 28 32 33 23,P 23 33 34,M 34 2]<|
 .ret) (r [D .eql 11 2 36,M 36 35]<|
 c 35 (r [A 1 1 37,L 3 37 38,⟨.build [z0,z0,e0] [],(some 39),none⟩,⟨.ni false true [.i,.i,.s] (t 38) (t 39),(some 40),none⟩,M 40 41,AT 4 1 42 41,KT 42 43 41,CT qB [t 43] 44 41,P 41 44 45,M 45 2]<|
 .ret) k)))<|
 r [A 1 1 46,L 3 46 47,⟨.build [z0,z0,e0] [],(some 48),none⟩,⟨.ni false true [.i,.i,.s] (t 47) (t 48),(some 49),none⟩,M 49 50,AT 4 1 51 50,KT 51 52 50,⟨.bin .eql (t 52) (.c e0),(some 53),some (50,true)⟩,P 50 53 54,M 54 55,AT 5 1 56 55,KT 56 57 55,⟨.call false (.c (.fn (.func jZ) [] [])) [(t 57),(.c (.fn (.func nI) [] []))],(some 58),some (55,true)⟩,UT 58 59 55,P 55 59 60,M 60 2]<|
 .ret
theorem LA: Of Tryz.prog kJ 61 [.tmp 2] CQ:=aU {} Tryz.func105
def Fb: aI:=r [X 0 1,V z0 2]<|
 r [V z0 3]<|
 q (r [A 5 1 6,K 6 7,N 7 8,V z0 9]<|
 .block 0 (.loop (r [B .lss 9 8 10]<|
 q (c 10 k (.exit 0))<|
 q (.block 1 (r [I true 6 7 9 11,L 6 11 12,J [z0,z0,z0,e0,e0,.ae] 5,W 6 5 12]<|
 R [M 3 13,L 6 5 14,C jW [t 14] 15,⟨.max (t 13) [(t 15)],(some 16),none⟩,M 16 3]))<|
 R [D .add 9 1 17,M 17 9])))<|
 r [M 3 18,D .add 18 1 19,M 19 2]<|
 .ret
theorem NA: Of Tryz.prog jW 20 [.tmp 2] Fb:=aU {} Tryz.func106
def eP: aI:=r [X 1 4]<|
 q (r [L 6 4 12,C vI [t 12] 13,M 2 14,B .lss 13 14 15]<|
 c 15 (r [M 0 16,Z 16 17,A 0 17 18,⟨.call false (.c (.fn (.func cV) [] [])) [(t 18),(.c (.int .u8 40))],(some 19),none⟩]<|
 r [M 0 20,L 6 4 21,⟨.call false (.c (.fn (.func eg) [] [])) [(t 20),(t 21),(.c z0)],(some 22),none⟩]<|
 r [M 0 23,Z 23 24,A 0 24 25,⟨.call false (.c (.fn (.func cV) [] [])) [(t 25),(.c (.int .u8 41))],(some 26),none⟩]<|
 .ret) k)<|
 r [A 0 4 27,K 27 28]<|
 .block 0 (r [D .eql 28 1 63,M 63 62]<|
 c 62 (r [A 1 4 65,L 3 65 66,C zN [t 66] 67,M 67 64,E 64 0 68,E 64 1 69,M 68 6,M 69 7]<|
 R [M 0 70,Z 70 71,A 0 71 72,M 6 73,C dN [t 72,t 73] 74]) (r [D .eql 28 2 76,M 76 75]<|
 c 75 (.draw [M 0 77,Z 77 78,A 0 78 79,A 4 4 80,K 80 81,C dN [t 79,t 81] 82] []) (r [D .eql 28 3 84,M 84 83]<|
 c 83 (r [M 0 85,Z 85 86,A 0 86 87,⟨.call false (.c (.fn (.func cV) [] [])) [(t 87),(.c (.int .u8 45))],(some 88),none⟩]<|
 R [M 0 89,A 5 4 90,K 90 91,⟨.bQ ⟨true,6⟩ none (t 91) (.c z0),(some 92),none⟩,L 6 92 93,⟨.call false (.c (.fn (.func eg) [] [])) [(t 89),(t 93),(.c (i6 6))],(some 94),none⟩]) (r [D .eql 28 16 96,M 96 95]<|
 c 95 (r [⟨.build [e0,e0,e0] [(0,1,(.c (.str [105,102,32]))),(1,1,(.c (.str [32,116,104,101,110,32]))),(2,1,(.c (.str [32,101,108,115,101,32])))],(some 97),none⟩,V z0 98]<|
 .block 1 (.loop (r [D .lss 98 3 99]<|
 q (c 99 k (.exit 1))<|
 q (.block 2 (r [M 98 100,⟨.zg ⟨false,1⟩ 3 (t 97) (t 98),(some 101),none⟩,M 100 8,M 101 9]<|
 r [M 0 102,Z 102 103,A 0 103 104,M 9 105,C dN [t 104,t 105] 106]<|
 R [M 0 107,A 5 4 108,K 108 109,M 8 110,I true 6 109 110 111,L 6 111 112,⟨.call false (.c (.fn (.func eg) [] [])) [(t 107),(t 112),(.c z0)],(some 113),none⟩]))<|
 R [D .add 98 1 114,M 114 98]))) (r [A 0 4 29,K 29 30,C nT [t 30] 31,J [z0,e0,z0] 10,W 3 10 31]<|
 r [A 2 10 32,K 32 33,M 33 11]<|
 q (r [M 11 34,D .eql 34 3 35]<|
 c 35 (R [M 11 36,D .add 36 1 37,M 37 11]) k)<|
 r [M 0 38,A 5 4 39,K 39 40,⟨.bQ ⟨true,6⟩ none (t 40) (.c z0),(some 41),none⟩,L 6 41 42,M 11 43,C eg [t 38,t 42,t 43] 44]<|
 q (.draw [M 0 45,Z 45 46,A 0 46 47,A 1 10 48,K 48 49,⟨.bin .add (.c (.str [32])) (t 49),(some 50),none⟩,⟨.bin .add (t 50) (.c (.str [32])),(some 51),none⟩,C dN [t 47,t 51] 52] [])<|
 .draw [M 0 53,A 5 4 54,K 54 55,⟨.bQ ⟨true,6⟩ none (t 55) (.c (i6 1)),(some 56),none⟩,L 6 56 57,A 2 10 58,K 58 59,D .add 59 1 60,C eg [t 53,t 57,t 60] 61] [])))))
theorem fC: Of Tryz.prog eg 115 [] eP:=aU ⟨[],[52,61,82],[],[],[],[]⟩ Tryz.func107
def s_: aI:=r [V z0 2]<|
 r [M 0 3,Z 3 4,A 1 4 5,K 5 6,N 6 7,M 7 2]<|
 .ret
theorem B6: Of Tryz.prog mN 8 [.tmp 2] s_:=aU {} Tryz.func108
def pO: aI:=r [V e0 2]<|
 q (.draw [M 0 3,Z 3 4,A 1 4 5,K 5 6,⟨.EO ⟨false,1⟩ (t 6),(some 7),none⟩,M 0 8,Z 8 9,A 1 9 10,K 10 11,N 11 12,⟨.zh 5 (t 7) (t 12),(some 13),none⟩,M 13 2] [])<|
 .ret
theorem yN: Of Tryz.prog iG 14 [.tmp 2] pO:=aU {} Tryz.func109
def x6: aI:=r [X 0 1,V e0 2,V z0 3]<|
 q (r [L 3 1 6,C jX [t 6] 7,M 7 4]<|
 r [M 4 8,D .neq 8 0 9]<|
 c 9 (r [M 4 10,V e0 2,M 10 3]<|
 .ret) k)<|
 r [A 0 1 11,K 11 12,C gM [t 12] 13,M 13 5]<|
 q (r [A 0 1 14,K 14 15]<|
 .block 0 (r [D .eql 15 2 17,M 17 16]<|
 c 16 (R [M 5 18,A 2 1 19,K 19 20,C mL [t 20] 21,B .add 18 21 22,M 22 5]) (q (r [D .eql 15 1 24,M 24 23]<|
 c 23 k (R [D .eql 15 3 25,M 25 23]))<|
 c 23 (R [M 5 26,A 1 1 27,K 27 28,C gM [t 28] 29,B .add 26 29 30,M 30 5]) k)))<|
 r [M 5 31,M 31 2,V z0 3]<|
 .ret
theorem CR: Of Tryz.prog xG 32 [.tmp 2,.tmp 3] x6:=aU {} Tryz.func110
def GJ: aI:=r [V (.bool false) 2]<|
 r [M 0 3,⟨.bin .neq (t 3) (.c e0),(some 4),none⟩,M 4 5,MT 0 6 5,CT tX [t 6] 7 5,MT 0 8 5,ST 8 9 5,BT .eql 7 9 10 5,P 5 10 11,M 11 12,MT 0 13 12,ST 13 14 12,DT .leq 14 16 15 12,P 12 15 16,M 16 17,MT 0 18 17,CT sH [t 18] 19 17,UT 19 20 17,P 17 20 21,M 21 2]<|
 .ret
theorem PZ: Of Tryz.prog mO 22 [.tmp 2] GJ:=aU {} Tryz.func113
def Ji: aI:=r [V e0 2]<|
 r [M 0 5,N 5 6,C gN [t 6] 7,M 7 3]<|
 q (r [V z0 4]<|
 .block 0 (.loop (q (r [M 4 8,M 0 9,N 9 10,B .lss 8 10 11]<|
 c 11 k (.exit 0))<|
 q (.block 1 (R [M 3 14,M 0 15,M 4 16,I true 3 15 16 17,L 3 17 18,C xJ [t 18] 19,B .add 14 19 20,M 20 3]))<|
 R [M 4 12,D .add 12 1 13,M 13 4])))<|
 r [M 3 21,M 21 2]<|
 .ret
theorem Rt: Of Tryz.prog BU 22 [.tmp 2] Ji:=aU {} Tryz.func115
def CU: aI:=r [V z0 2]<|
 q (r [M 0 3,⟨.bin .rem (t 3) (.c (.int .u64 2)),(some 4),none⟩,⟨.bin .eql (t 4) (.c (.int .u64 1)),(some 5),none⟩]<|
 c 5 (r [M 0 6,⟨.bin .quo (t 6) (.c (.int .u64 2)),(some 7),none⟩,⟨.gW .i64 (t 7),(some 8),none⟩,⟨.bin .sub (.c (i6 (-1))) (t 8),(some 9),none⟩,M 9 2]<|
 .ret) k)<|
 r [M 0 10,⟨.bin .quo (t 10) (.c (.int .u64 2)),(some 11),none⟩,⟨.gW .i64 (t 11),(some 12),none⟩,M 12 2]<|
 .ret
theorem LB: Of Tryz.prog vE 13 [.tmp 2] CU:=aU {} Tryz.func116
def GK: aI:=r [J [z0,z0,e0] 2,V e0 3,V z0 4]<|
 r [M 0 10,C iE [t 10] 11,M 11 9,E 9 0 12,E 9 1 13,E 9 2 14,M 12 5,M 13 6,M 14 7]<|
 q (r [M 7 15,D .neq 15 0 16]<|
 c 16 (r [⟨.build [z0,z0,e0] [],(some 17),none⟩,M 7 18,W 3 2 17,V e0 3,M 18 4]<|
 .ret) k)<|
 r [M 5 19,⟨.build [z0,z0,e0] [(0,1,(t 19))],(some 20),none⟩,J [z0,z0,e0] 8,W 3 8 20]<|
 q (r [M 5 21]<|
 .block 0 (r [D .eql 21 0 24,M 24 23]<|
 c 23 k (q (r [D .eql 21 1 26,M 26 25]<|
 c 25 k (R [D .eql 21 3 27,M 27 25]))<|
 c 25 (R [M 6 29,C iE [t 29] 30,M 30 28,E 28 0 31,E 28 1 32,E 28 2 33,A 1 8 34,W 1 34 31,M 32 6,M 33 7]) (r [D .eql 21 2 36,M 36 35]<|
 c 35 (R [M 6 38,⟨.call false (.c (.fn (.func nE) [] [])) [(t 38),(.c (i6 40))],(some 39),none⟩,M 39 37,E 37 0 40,E 37 1 41,E 37 2 42,A 2 8 43,W 1 43 40,M 41 6,M 42 7]) (r [⟨.build [z0,z0,e0] [],(some 22),none⟩,W 3 2 22,V e0 3,V (i6 4) 4]<|
 .ret)))))<|
 q (r [M 7 44,D .neq 44 0 45]<|
 c 45 (r [⟨.build [z0,z0,e0] [],(some 46),none⟩,M 7 47,W 3 2 46,V e0 3,M 47 4]<|
 .ret) k)<|
 q (r [L 3 8 48,C nU [t 48] 49,U 49 50]<|
 c 50 (r [⟨.build [z0,z0,e0] [],(some 51),none⟩,W 3 2 51,V e0 3,V (i6 4) 4]<|
 .ret) k)<|
 r [L 3 8 52,M 6 53,W 3 2 52,M 53 3,V z0 4]<|
 .ret
theorem P2: Of Tryz.prog zG 54 [.cell 2 true 3,.tmp 3,.tmp 4] GK:=aU {} Tryz.func117
def LC: aI:=r [V z0 2]<|
 q (r [M 0 3,⟨.bin .eql (t 3) (.c e0),(some 4),none⟩,M 4 5,MF 0 6 5,⟨.eJ (t 6) (.c z0),(some 7),some (5,false)⟩,CF pH [t 7] 8 5,UF 8 9 5,O 5 9 10]<|
 c 10 (r [V z0 2]<|
 .ret) k)<|
 r [M 0 11,⟨.call false (.c (.fn (.func wV) [] [])) [(t 11),(.c (.fn (.func zO) [] []))],(some 12),none⟩,M 12 2]<|
 .ret
theorem Tm: Of Tryz.prog yJ 13 [.tmp 2] LC:=aU {} Tryz.func118
def CV: aI:=r [V (.bool false) 2]<|
 q (r [M 0 3]<|
 .block 0 (q (r [⟨.bin .eql (t 3) (.c (.str [97,110,100])),(some 5),none⟩,M 5 4]<|
 c 4 k (r [⟨.bin .eql (t 3) (.c (.str [111,114])),(some 6),none⟩,M 6 4]<|
 c 4 k (r [⟨.bin .eql (t 3) (.c (.str [110,111,116])),(some 7),none⟩,M 7 4]<|
 c 4 k (r [⟨.bin .eql (t 3) (.c (.str [105,102])),(some 8),none⟩,M 8 4]<|
 c 4 k (r [⟨.bin .eql (t 3) (.c (.str [116,104,101,110])),(some 9),none⟩,M 9 4]<|
 c 4 k (r [⟨.bin .eql (t 3) (.c (.str [101,108,115,101])),(some 10),none⟩,M 10 4]<|
 c 4 k (r [⟨.bin .eql (t 3) (.c (.str [116,114,117,101])),(some 11),none⟩,M 11 4]<|
 c 4 k (r [⟨.bin .eql (t 3) (.c (.str [102,97,108,115,101])),(some 12),none⟩,M 12 4]<|
 c 4 k (R [⟨.bin .eql (t 3) (.c (.str [110,117,108,108])),(some 13),none⟩,M 13 4])))))))))<|
 c 4 (r [V (.bool true) 2]<|
 .ret) k))<|
 r [V (.bool false) 2]<|
 .ret
theorem LD: Of Tryz.prog vF 14 [.tmp 2] CV:=aU {} Tryz.func119
def Fc: aI:=r [X 0 1,V z0 2]<|
 r [V (.bool false) 3]<|
 q (r [A 0 1 4,K 4 5]<|
 .block 0 (r [D .eql 5 0 7,M 7 6]<|
 c 6 (R [L 3 1 8,⟨.build [z0,z0,e0] [],(some 9),none⟩,⟨.ni false true [.i,.i,.s] (t 8) (t 9),(some 10),none⟩,M 10 3]) (r [D .eql 5 1 12,M 12 11]<|
 c 11 (R [A 2 1 13,K 13 14,⟨.bin .eql (t 14) (.c e0),(some 15),none⟩,M 15 3]) (r [D .eql 5 2 17,M 17 16]<|
 c 16 (R [A 1 1 18,K 18 19,D .eql 19 0 20,M 20 21,AT 2 1 22 21,KT 22 23 21,CT xK [t 23] 24 21,P 21 24 25,M 25 3]) (r [D .eql 5 3 27,M 27 26]<|
 c 26 (R [A 2 1 28,K 28 29,⟨.bin .eql (t 29) (.c e0),(some 30),none⟩,M 30 31,AT 1 1 32 31,KT 32 33 31,DT .andNot 33 1 34 31,DT .eql 34 0 35 31,P 31 35 36,M 36 3]) k)))))<|
 q (r [M 3 37,U 37 38]<|
 c 38 (r [V (i6 2) 2]<|
 .ret) k)<|
 r [V z0 2]<|
 .ret
theorem NB: Of Tryz.prog jX 39 [.tmp 2] Fc:=aU {} Tryz.func122
def GL: aI:=r [V z0 4,V e0 5,V z0 6]<|
 r [M 0 11,C iF [t 11] 12,M 12 10,E 10 0 13,E 10 1 14,E 10 2 15,M 13 7,M 14 8,M 15 9]<|
 q (.block 0 (r [M 9 17,D .neq 17 0 18,M 18 16]<|
 c 16 (r [M 9 19,V z0 4,V e0 5,M 19 6]<|
 .ret) (r [M 7 21,D .lss 21 0 22,M 22 20]<|
 c 20 (r [V z0 4,V e0 5,V (i6 4) 6]<|
 .ret) (r [M 7 24,M 1 25,B .gtr 24 25 26,M 26 23]<|
 c 23 (r [V z0 4,V e0 5,V (i6 5) 6]<|
 .ret) k))))<|
 r [M 7 27,M 8 28,M 27 4,M 28 5,V z0 6]<|
 .ret
theorem P3: Of Tryz.prog zH 29 [.tmp 4,.tmp 5,.tmp 6] GL:=aU {} Tryz.func123
def GM: aI:=r [V (.int .u64 0) 2]<|
 q (r [M 0 3,D .lss 3 0 4]<|
 c 4 (r [M 0 5,⟨.bin .sub (.c (i6 (-1))) (t 5),(some 6),none⟩,⟨.gW .u64 (t 6),(some 7),none⟩,⟨.bin .mul (.c (.int .u64 2)) (t 7),(some 8),none⟩,⟨.bin .add (t 8) (.c (.int .u64 1)),(some 9),none⟩,M 9 2]<|
 .ret) k)<|
 r [M 0 10,⟨.gW .u64 (t 10),(some 11),none⟩,⟨.bin .mul (.c (.int .u64 2)) (t 11),(some 12),none⟩,M 12 2]<|
 .ret
theorem P4: Of Tryz.prog zI 13 [.tmp 2] GM:=aU {} Tryz.func124
def td: aI:=r [V (.bool false) 4]<|
 q (r [M 0 6,N 6 7,M 1 8,N 8 9,B .neq 7 9 10]<|
 c 10 (r [V (.bool false) 4]<|
 .ret) k)<|
 q (r [M 0 11,N 11 12,V z0 13]<|
 .block 0 (.loop (r [B .lss 13 12 14]<|
 q (c 14 k (.exit 0))<|
 q (.block 1 (r [M 13 15,M 15 5]<|
 q (.draw [M 0 16,M 5 17,I false 1 16 17 18,K 18 19,M 1 20,M 5 21,I false 1 20 21 22,K 22 23,B .neq 19 23 24] [])<|
 c 24 (r [V (.bool false) 4]<|
 .ret) k))<|
 R [D .add 13 1 25,M 25 13])))<|
 r [V (.bool true) 4]<|
 .ret
theorem B8: Of Tryz.prog jN 26 [.tmp 4] td:=aU {} Tryz.func125
def x7: aI:=r [X 0 1,V z0 2]<|
 q (r [A 0 1 5,K 5 6,C mO [t 6] 7,U 7 8]<|
 c 8 (r [V (i6 13) 2]<|
 .ret) k)<|
 q (r [A 1 1 9,K 9 10,⟨.call false (.c (.fn (.func oT) [] [])) [(t 10),(.c (.bool false))],(some 11),none⟩,M 11 3]<|
 r [M 3 12,D .neq 12 0 13]<|
 c 13 (r [M 3 14,M 14 2]<|
 .ret) k)<|
 q (r [A 2 1 15,K 15 16,A 3 1 17,K 17 18,D .eql 18 3 19,C oT [t 16,t 19] 20,M 20 4]<|
 r [M 4 21,D .neq 21 0 22]<|
 c 22 (r [M 4 23,M 23 2]<|
 .ret) k)<|
 q (.block 0 (r [L 6 1 25,C qD [t 25] 26,U 26 27,M 27 24]<|
 c 24 (r [V (i6 17) 2]<|
 .ret) (r [A 5 1 29,K 29 30,N 30 31,D .gtr 31 24 32,M 32 28]<|
 c 28 (r [V (i6 24) 2]<|
 .ret) k)))<|
 r [V z0 2]<|
 .ret
theorem CW: Of Tryz.prog xH 33 [.tmp 2] x7:=aU {} Tryz.func126
def Ad: aI:=r [X 0 2,X 1 3,J [.ae,.ae] 4,V z0 5,V z0 6]<|
 r [⟨.build [.ae,.ae] [],(some 17),none⟩,J [.ae,.ae] 7,W 2 7 17]<|
 q (r [A 0 3 18,K 18 19,N 19 20,A 1 2 21,K 21 22,N 22 23,B .neq 20 23 24,M 24 25,AF 1 3 26 25,KF 26 27 25,NF 27 28 25,AF 2 2 29 25,KF 29 30 25,NF 30 31 25,BF .neq 28 31 32 25,O 25 32 33]<|
 c 33 (r [L 2 7 34,W 2 4 34,V z0 5,V (i6 17) 6]<|
 .ret) k)<|
 q (r [V z0 8]<|
 .block 0 (.loop (q (r [M 8 35,A 0 3 36,K 36 37,N 37 38,B .lss 35 38 39]<|
 c 39 k (.exit 0))<|
 q (.block 1 (r [A 0 3 43,K 43 44,M 8 45,I false 1 44 45 46,K 46 47,C xL [t 47] 48,M 48 42,E 42 0 49,E 42 1 50,E 42 2 51,J [(.bool false),(.bool false),.ae] 9,W 3 9 49,M 50 10,M 51 11]<|
 q (r [M 11 52,D .eql 52 0 53]<|
 c 53 (.draw [L 3 9 54,A 1 2 55,K 55 56,M 8 57,I true 3 56 57 58,A 1 58 59,K 59 60,A 1 2 61,K 61 62,Q xM [t 54,t 60,t 62] 63,M 63 11] []) k)<|
 q (r [M 11 64,D .neq 64 0 65]<|
 c 65 (r [L 2 7 66,M 8 67,M 11 68,W 2 4 66,M 67 5,M 68 6]<|
 .ret) k)<|
 R [A 0 7 69,K 69 70,L 3 9 71,⟨.bD false ⟨true,3⟩ (.agg [(.bool false),(.bool false),.ae]) 1 [(0,(t 71))],(some 72),none⟩,⟨.app none ⟨true,3⟩ (t 70) (t 72),(some 73),none⟩,A 0 7 74,W 1 74 73]))<|
 R [M 8 40,D .add 40 1 41,M 41 8])))<|
 q (r [V z0 12]<|
 .block 2 (.loop (q (r [M 12 75,A 1 3 76,K 76 77,N 77 78,B .lss 75 78 79]<|
 c 79 k (.exit 2))<|
 q (.block 3 (r [A 1 3 83,K 83 84,M 12 85,I false 1 84 85 86,K 86 87,C xN [t 87] 88,M 88 82,E 82 0 89,E 82 1 90,E 82 2 91,J [z0,z0,z0,e0,e0,.ae] 13,W 6 13 89,M 90 14,M 91 15]<|
 r [V z0 16]<|
 q (r [M 15 92,D .eql 92 0 93]<|
 c 93 (R [L 6 13 95,A 1 2 96,K 96 97,C mP [t 95,t 97] 98,M 98 94,E 94 0 99,E 94 1 100,M 99 16,M 100 15]) k)<|
 q (r [M 15 101,D .eql 101 0 102,M 102 103,MT 16 104 103,AT 2 2 105 103,KT 105 106 103,MT 12 107 103,IT true 3 106 107 108 103,AT 1 108 109 103,KT 109 110 103,CT dY [t 104,t 110] 111 103,UT 111 112 103,P 103 112 113]<|
 c 113 (R [V (i6 14) 15]) k)<|
 q (r [M 15 114,D .neq 114 0 115]<|
 c 115 (q (.draw [L 2 7 116,A 1 2 117,K 117 118,N 118 119,M 12 120,B .add 119 120 121,M 15 122,W 2 4 116,M 121 5,M 122 6] [((t 117),(t 4))])<|
 .ret) k)<|
 R [A 1 7 123,K 123 124,L 6 13 125,⟨.bD false ⟨true,6⟩ (.agg [z0,z0,z0,e0,e0,.ae]) 1 [(0,(t 125))],(some 126),none⟩,⟨.app none ⟨true,6⟩ (t 124) (t 126),(some 127),none⟩,A 1 7 128,W 1 128 127]))<|
 R [M 12 80,D .add 80 1 81,M 81 12])))<|
 r [L 2 7 129,W 2 4 129,V z0 5,V z0 6]<|
 .ret
theorem Fe: Of Tryz.prog zJ 130 [.cell 4 true 2,.tmp 5,.tmp 6] Ad:=aU {} Tryz.func127
def Ff: aI:=r [X 0 1,V (.bool false) 2]<|
 q (r [A 0 1 4,K 4 5]<|
 c 5 (r [A 1 1 6,K 6 7,U 7 8,M 8 9,AT 2 1 10 9,KT 10 11 9,NT 11 12 9,DT .eql 12 0 13 9,P 9 13 14,M 14 2]<|
 .ret) k)<|
 q (r [V z0 3]<|
 .block 0 (.loop (q (r [M 3 15,A 2 1 16,K 16 17,N 17 18,B .lss 15 18 19]<|
 c 19 k (.exit 0))<|
 q (.block 1 (r [A 2 1 22,K 22 23,M 3 24,I true 15 23 24 25,L 15 25 26,C zP [t 26] 27,U 27 28]<|
 c 28 (r [V (.bool false) 2]<|
 .ret) k))<|
 R [M 3 20,D .add 20 1 21,M 21 3])))<|
 r [A 2 1 29,K 29 30,N 30 31,D .geq 31 1 32,M 32 33,AT 2 1 34 33,KT 34 35 33,NT 35 36 33,DT .leq 36 12 37 33,P 33 37 38,M 38 2]<|
 .ret
theorem NC: Of Tryz.prog lP 39 [.tmp 2] Ff:=aU {} Tryz.func128
def uq: aI:=r [X 0 1,V e0 2,V (.bool false) 3]<|
 q (r [A 0 1 15,K 15 16]<|
 c 16 (r [V (.str [45]) 2,V (.bool true) 3]<|
 .ret) k)<|
 r [V e0 4]<|
 q (r [V z0 5]<|
 .block 0 (.loop (q (r [M 5 17,A 2 1 18,K 18 19,N 19 20,B .lss 17 20 21]<|
 c 21 k (.exit 0))<|
 q (.block 1 (r [A 2 1 24,K 24 25,M 5 26,I true 15 25 26 27,L 15 27 28,J [z0,z0,z0,z0,e0,e0,.ae,z0,z0,z0,e0,e0,.ae,(.bool false),(.bool false)] 6,W 15 6 28]<|
 r [A 1 6 29,L 6 29 30,⟨.call false (.c (.fn (.func oU) [] [])) [(t 30),(.c (i6 4))],(some 31),none⟩,M 31 7,V e0 8]<|
 q (r [M 5 32,D .gtr 32 0 33]<|
 c 33 (R [M 4 34,⟨.bin .add (t 34) (.c (.str [44,32])),(some 35),none⟩,M 35 4]) k)<|
 q (r [A 1 6 37,L 6 37 38,C mM [t 38] 39,M 39 36,E 36 0 40,E 36 1 41,M 40 9,M 41 10]<|
 r [M 10 42,D .neq 42 0 43]<|
 c 43 (r [V e0 2,V (.bool false) 3]<|
 .ret) k)<|
 q (r [A 0 6 44,K 44 45,D .eql 45 6 46]<|
 c 46 (q (r [A 7 6 48,L 6 48 49,C mM [t 49] 50,M 50 47,E 47 0 51,E 47 1 52,M 51 11,M 52 12]<|
 r [M 12 53,D .neq 53 0 54]<|
 c 54 (r [V e0 2,V (.bool false) 3]<|
 .ret) k)<|
 R [A 7 6 55,L 6 55 56,⟨.call false (.c (.fn (.func oU) [] [])) [(t 56),(.c (i6 4))],(some 57),none⟩,M 57 8]) k)<|
 .block 2 (r [A 0 6 73,K 73 74,D .eql 74 1 75,M 75 72]<|
 c 72 (R [M 4 76,M 7 77,B .add 76 77 78,M 78 4]) (r [A 0 6 80,K 80 81,D .neq 81 6 82,M 82 79]<|
 c 79 (R [M 4 83,A 0 6 84,K 84 85,C tY [t 85] 86,B .add 83 86 87,⟨.bin .add (t 87) (.c (.str [32])),(some 88),none⟩,M 7 89,B .add 88 89 90,M 90 4]) (r [V (.str [91]) 13,V (.str [93]) 14]<|
 q (r [A 13 6 58,K 58 59]<|
 c 59 (R [V (.str [93]) 13]) k)<|
 q (r [A 14 6 60,K 60 61]<|
 c 61 (R [V (.str [91]) 14]) k)<|
 R [M 4 62,M 13 63,B .add 62 63 64,M 7 65,B .add 64 65 66,⟨.bin .add (t 66) (.c (.str [46,46])),(some 67),none⟩,M 8 68,B .add 67 68 69,M 14 70,B .add 69 70 71,M 71 4])))))<|
 R [M 5 22,D .add 22 1 23,M 23 5])))<|
 q (r [A 1 1 91,K 91 92]<|
 c 92 (r [M 4 93,⟨.bin .add (.c (.str [110,111,116,40])) (t 93),(some 94),none⟩,⟨.bin .add (t 94) (.c (.str [41])),(some 95),none⟩,M 95 2,V (.bool true) 3]<|
 .ret) k)<|
 r [M 4 96,M 96 2,V (.bool true) 3]<|
 .ret
theorem Ae: Of Tryz.prog tU 97 [.tmp 2,.tmp 3] uq:=aU {} Tryz.func129
def Fg: aI:=r [X 0 1,V (.bool false) 2]<|
 q (q (.draw [A 5 1 4,K 4 5,N 5 6,A 0 1 7,K 7 8,Q xO [t 8] 9,B .neq 6 9 10] [])<|
 c 10 (r [V (.bool false) 2]<|
 .ret) k)<|
 q (r [A 0 1 11,K 11 12]<|
 .block 0 (r [D .eql 12 1 14,M 14 13]<|
 c 13 (r [A 4 1 15,K 15 16,⟨.bin .eql (t 16) (.c e0),(some 17),none⟩,M 17 18,AT 1 1 19 18,LT 3 19 20 18,CT nU [t 20] 21 18,P 18 21 22,M 22 23,AT 1 1 24 23,AT 0 24 25 23,KT 25 26 23,DT .neq 26 1 27 23,MT 27 28 23,AF 1 1 29 28,AF 1 29 30 28,KF 30 31 28,DF .geq 31 0 32 28,OT 28 32 33 23,P 23 33 34,M 34 2]<|
 .ret) (r [D .eql 12 2 36,M 36 35]<|
 c 35 (r [A 1 1 37,L 3 37 38,⟨.build [z0,z0,e0] [],(some 39),none⟩,⟨.ni false true [.i,.i,.s] (t 38) (t 39),(some 40),none⟩,M 40 41,AT 4 1 42 41,KT 42 43 41,CT mO [t 43] 44 41,P 41 44 45,M 45 2]<|
 .ret) k)))<|
 q (r [V z0 3]<|
 .block 1 (.loop (q (r [M 3 46,A 5 1 47,K 47 48,N 48 49,B .lss 46 49 50]<|
 c 50 k (.exit 1))<|
 q (.block 2 (r [A 5 1 53,K 53 54,M 3 55,I true 6 54 55 56,L 6 56 57,C lQ [t 57] 58,U 58 59]<|
 c 59 (r [V (.bool false) 2]<|
 .ret) k))<|
 R [M 3 51,D .add 51 1 52,M 52 3])))<|
 r [A 1 1 60,L 3 60 61,⟨.build [z0,z0,e0] [],(some 62),none⟩,⟨.ni false true [.i,.i,.s] (t 61) (t 62),(some 63),none⟩,M 63 64,AT 4 1 65 64,KT 65 66 64,⟨.bin .eql (t 66) (.c e0),(some 67),some (64,true)⟩,P 64 67 68,M 68 2]<|
 .ret
theorem ND: Of Tryz.prog lQ 69 [.tmp 2] Fg:=aU {} Tryz.func130
def GN: aI:=r [X 0 1,V z0 2]<|
 r [V z0 3]<|
 q (r [V z0 4]<|
 .block 0 (.loop (q (r [M 4 6,A 5 1 7,K 7 8,N 8 9,B .lss 6 9 10]<|
 c 10 k (.exit 0))<|
 q (.block 1 (r [A 5 1 13,K 13 14,M 4 15,I true 6 14 15 16,L 6 16 17,C kS [t 17] 18,M 18 5]<|
 r [M 5 19,M 3 20,B .gtr 19 20 21]<|
 c 21 (R [M 5 22,M 22 3]) k))<|
 R [M 4 11,D .add 11 1 12,M 12 4])))<|
 r [M 3 23,D .add 23 1 24,M 24 2]<|
 .ret
theorem P5: Of Tryz.prog kS 25 [.tmp 2] GN:=aU {} Tryz.func131
def iQ: aI:=r [X 0 2,V e0 4]<|
 r [A 0 2 7,K 7 8,C sn [t 8] 9,M 9 5]<|
 q (r [M 5 10,M 1 11,B .lss 10 11 12]<|
 c 12 (r [L 6 2 13,⟨.call false (.c (.fn (.func er) [] [])) [(t 13),(.c z0)],(some 14),none⟩,⟨.bin .add (.c (.str [40])) (t 14),(some 15),none⟩,⟨.bin .add (t 15) (.c (.str [41])),(some 16),none⟩,M 16 4]<|
 .ret) k)<|
 q (.block 0 (r [A 0 2 18,K 18 19,D .eql 19 1 20,M 20 17]<|
 c 17 (r [A 1 2 21,L 3 21 22,C zQ [t 22] 23,M 23 4]<|
 .ret) (r [A 0 2 25,K 25 26,D .eql 26 2 27,M 27 24]<|
 c 24 (r [A 4 2 28,K 28 29,M 29 4]<|
 .ret) (r [A 0 2 31,K 31 32,D .eql 32 3 33,M 33 30]<|
 c 30 (r [A 5 2 34,K 34 35,⟨.bQ ⟨true,6⟩ none (t 35) (.c z0),(some 36),none⟩,L 6 36 37,⟨.call false (.c (.fn (.func er) [] [])) [(t 37),(.c (i6 6))],(some 38),none⟩,⟨.bin .add (.c (.str [45])) (t 38),(some 39),none⟩,M 39 4]<|
 .ret) (r [A 0 2 41,K 41 42,D .eql 42 16 43,M 43 40]<|
 c 40 (q (.draw [A 5 2 44,K 44 45,⟨.bQ ⟨true,6⟩ none (t 45) (.c z0),(some 46),none⟩,L 6 46 47,⟨.call true (.c (.fn (.func er) [] [])) [(t 47),(.c z0)],(some 48),none⟩,⟨.bin .add (.c (.str [105,102,32])) (t 48),(some 49),none⟩,⟨.bin .add (t 49) (.c (.str [32,116,104,101,110,32])),(some 50),none⟩,A 5 2 51,K 51 52,⟨.bQ ⟨true,6⟩ none (t 52) (.c (i6 1)),(some 53),none⟩,L 6 53 54,⟨.call true (.c (.fn (.func er) [] [])) [(t 54),(.c z0)],(some 55),none⟩,B .add 50 55 56,⟨.bin .add (t 56) (.c (.str [32,101,108,115,101,32])),(some 57),none⟩,A 5 2 58,K 58 59,⟨.bQ ⟨true,6⟩ none (t 59) (.c (i6 2)),(some 60),none⟩,L 6 60 61,⟨.call true (.c (.fn (.func er) [] [])) [(t 61),(.c z0)],(some 62),none⟩,B .add 57 62 63,M 63 4] [])<|
 .ret) k)))))<|
 r [M 5 64,M 64 6]<|
 q (r [M 5 65,D .eql 65 3 66]<|
 c 66 (R [V (i6 4) 6]) k)<|
 q (.draw [A 5 2 67,K 67 68,⟨.bQ ⟨true,6⟩ none (t 68) (.c z0),(some 69),none⟩,L 6 69 70,M 6 71,Q er [t 70,t 71] 72,⟨.bin .add (t 72) (.c (.str [32])),(some 73),none⟩,A 0 2 74,K 74 75,Q pI [t 75] 76,B .add 73 76 77,⟨.bin .add (t 77) (.c (.str [32])),(some 78),none⟩,A 5 2 79,K 79 80,⟨.bQ ⟨true,6⟩ none (t 80) (.c (i6 1)),(some 81),none⟩,L 6 81 82,M 5 83,D .add 83 1 84,Q er [t 82,t 84] 85,B .add 78 85 86,M 86 4] [])<|
 .ret
theorem jg: Of Tryz.prog er 87 [.tmp 4] iQ:=aU {} Tryz.func132
def Bp: aI:=r [V (.int .u8 0) 2]<|
 r [M 0 3,⟨.gW .u8 (t 3),(some 4),none⟩,⟨.bin .and (t 4) (.c (.int .u8 127)),(some 5),none⟩,M 5 2]<|
 .ret
theorem Ke: Of Tryz.prog tV 6 [.tmp 2] Bp:=aU {} Tryz.func133
def CX: aI:=r [V z0 2]<|
 r [M 0 3,⟨.bin .shr (t 3) (.c (.int .u64 1)),(some 4),none⟩,⟨.gW .i64 (t 4),(some 5),none⟩,M 0 6,⟨.bin .and (t 6) (.c (.int .u64 1)),(some 7),none⟩,⟨.gW .i64 (t 7),(some 8),none⟩,⟨.un .neg (t 8),(some 9),none⟩,B .xor 5 9 10,M 10 2]<|
 .ret
theorem LG: Of Tryz.prog vG 11 [.tmp 2] CX:=aU {} Tryz.func134
def GO: aI:=r [J [z0,z0,e0] 2,V e0 3,V z0 4]<|
 r [M 0 10,C iF [t 10] 11,M 11 9,E 9 0 12,E 9 1 13,E 9 2 14,M 12 5,M 13 6,M 14 7]<|
 r [M 5 15,⟨.build [z0,z0,e0] [(0,1,(t 15))],(some 16),none⟩,J [z0,z0,e0] 8,W 3 8 16]<|
 q (.block 0 (r [M 7 18,D .neq 18 0 19,M 19 17]<|
 c 17 k (r [A 0 8 21,K 21 22,D .eql 22 0 23,M 23 20]<|
 c 20 k (r [A 0 8 25,K 25 26,D .eql 26 1 27,M 27 28,AF 0 8 29 28,KF 29 30 28,DF .eql 30 3 31 28,O 28 31 32,M 32 24]<|
 c 24 (R [M 6 34,C iF [t 34] 35,M 35 33,E 33 0 36,E 33 1 37,E 33 2 38,A 1 8 39,W 1 39 36,M 37 6,M 38 7]) (r [A 0 8 41,K 41 42,D .eql 42 2 43,M 43 40]<|
 c 40 (R [M 6 45,⟨.call false (.c (.fn (.func nG) [] [])) [(t 45),(.c (i6 40))],(some 46),none⟩,M 46 44,E 44 0 47,E 44 1 48,E 44 2 49,A 2 8 50,W 1 50 47,M 48 6,M 49 7]) (R [V (i6 4) 7]))))))<|
 q (r [M 7 51,D .eql 51 0 52,M 52 53,LT 3 8 54 53,CT jX [t 54] 55 53,DT .neq 55 0 56 53,P 53 56 57]<|
 c 57 (R [V (i6 4) 7]) k)<|
 q (r [M 7 58,D .neq 58 0 59]<|
 c 59 (r [⟨.build [z0,z0,e0] [],(some 60),none⟩,M 7 61,W 3 2 60,V e0 3,M 61 4]<|
 .ret) k)<|
 r [L 3 8 62,M 6 63,W 3 2 62,M 63 3,V z0 4]<|
 .ret
theorem P6: Of Tryz.prog zK 64 [.cell 2 true 3,.tmp 3,.tmp 4] GO:=aU {} Tryz.func135
def Af: aI:=r [X 1 3,V z0 4]<|
 q (r [M 0 6,C sI [t 6] 7,M 7 5]<|
 r [M 5 8,D .neq 8 0 9]<|
 c 9 (r [M 5 10,M 10 4]<|
 .ret) k)<|
 q (r [M 0 11,N 11 12,D .eql 12 0 13,M 13 14,MF 0 15 14,⟨.vy (.func lY) [] [(t 3)],(some 16),some (14,false)⟩,CF je [t 15,t 16] 17 14,O 14 17 18]<|
 c 18 (r [V (i6 17) 4]<|
 .ret) k)<|
 r [V z0 4]<|
 .ret
theorem I1: Of Tryz.prog nH 19 [.tmp 4] Af:=aU {} Tryz.func136
def Bq: aI:=r [X 0 1,V (.bool false) 2]<|
 q (.block 0 (r [A 3 1 5,K 5 6,D .lss 6 1 7,M 7 8,AF 3 1 9 8,KF 9 10 8,DF .gtr 10 6 11 8,O 8 11 12,M 12 4]<|
 c 4 (r [V (.bool false) 2]<|
 .ret) (r [A 4 1 14,K 14 15,D .eql 15 0 16,M 16 13]<|
 c 13 (r [V (.bool true) 2]<|
 .ret) (r [A 3 1 18,K 18 19,D .neq 19 5 20,M 20 21,AF 2 1 22 21,KF 22 23 21,NF 23 24 21,DF .neq 24 1 25 21,O 21 25 26,M 26 17]<|
 c 17 (r [V (.bool false) 2]<|
 .ret) k))))<|
 q (r [A 2 1 27,K 27 28,⟨.bQ ⟨true,3⟩ none (t 28) (.c z0),(some 29),none⟩,A 1 29 30,K 30 31,M 31 3]<|
 r [A 4 1 32,K 32 33]<|
 .block 1 (r [D .eql 33 1 35,M 35 34]<|
 c 34 (r [M 3 36,D .eql 36 1 37,M 37 2]<|
 .ret) (q (r [D .eql 33 2 39,M 39 38]<|
 c 38 k (R [D .eql 33 3 40,M 40 38]))<|
 c 38 (r [M 3 41,D .neq 41 3 42,M 42 2]<|
 .ret) (r [D .eql 33 4 44,M 44 43]<|
 c 43 (r [V (.bool true) 2]<|
 .ret) k))))<|
 r [V (.bool false) 2]<|
 .ret
theorem Kf: Of Tryz.prog oS 45 [.tmp 2] Bq:=aU {} Tryz.func137
def GP: aI:=r [X 0 3,J [(.bool false),(.bool false),.ae] 6,V z0 7]<|
 r [M 2 12,C zR [t 12] 13,M 13 11,E 11 0 14,E 11 1 15,E 11 2 16,J [(.bool false),(.bool false),.ae] 8,W 3 8 14,M 15 9,M 16 10]<|
 q (r [M 10 17,D .eql 17 0 18]<|
 c 18 (.draw [L 3 8 19,A 1 3 20,K 20 21,M 1 22,I true 3 21 22 23,A 1 23 24,K 24 25,A 1 3 26,K 26 27,Q zS [t 19,t 25,t 27] 28,M 28 10] []) k)<|
 r [L 3 8 29,M 10 30,W 3 6 29,M 30 7]<|
 .ret
theorem P7: Of Tryz.prog zL 31 [.cell 6 true 3,.tmp 7] GP:=aU {} Tryz.func138
def Fh: aI:=r [X 0 3,J [z0,z0,z0,e0,e0,.ae] 6,V z0 7]<|
 r [M 2 13,C vK [t 13] 14,M 14 12,E 12 0 15,E 12 1 16,E 12 2 17,J [z0,z0,z0,e0,e0,.ae] 8,W 6 8 15,M 16 9,M 17 10]<|
 q (r [M 10 18,D .neq 18 0 19]<|
 c 19 (r [L 6 8 20,M 10 21,W 6 6 20,M 21 7]<|
 .ret) k)<|
 r [L 6 8 23,A 1 3 24,K 24 25,C nV [t 23,t 25] 26,M 26 22,E 22 0 27,E 22 1 28,M 27 11,M 28 10]<|
 q (r [M 10 29,D .eql 29 0 30,M 30 31,MT 11 32 31,AT 2 3 33 31,KT 33 34 31,MT 1 35 31,IT true 3 34 35 36 31,AT 1 36 37 31,KT 37 38 31,CT gS [t 32,t 38] 39 31,UT 39 40 31,P 31 40 41]<|
 c 41 (R [V (i6 14) 10]) k)<|
 r [L 6 8 42,M 10 43,W 6 6 42,M 43 7]<|
 .ret
theorem NG: Of Tryz.prog xI 44 [.cell 6 true 6,.tmp 7] Fh:=aU {} Tryz.func139
def n5: aI:=r [V (.bool false) 4]<|
 r [M 0 5,M 1 6,C lD [t 5,t 6] 7,D .geq 7 0 8,M 8 4]<|
 .ret
theorem wY: Of Tryz.prog jY 9 [.tmp 4] n5:=aU {} Tryz.func140
def CY: aI:=r [X 0 1,V (.bool false) 2]<|
 r [L 15 1 3,C zM [t 3] 4,U 4 5,M 5 2]<|
 .ret
theorem LH: Of Tryz.prog qC 6 [.tmp 2] CY:=aU {} Tryz.func141
def GQ: aI:=r [X 0 1,V (.bool false) 2]<|
 q (.block 0 (r [A 0 1 4,K 4 5,D .eql 5 6 6,M 6 3]<|
 c 3 (r [A 1 1 7,L 6 7 8,C rH [t 8] 9,M 9 10,AT 7 1 11 10,LT 6 11 12 10,CT rH [t 12] 13 10,P 10 13 14,M 14 2]<|
 .ret) (r [A 0 1 16,K 16 17,D .lss 17 1 18,M 18 19,AF 0 1 20 19,KF 20 21 19,DF .gtr 21 6 22 19,O 19 22 23,M 23 15]<|
 c 15 (r [V (.bool false) 2]<|
 .ret) k)))<|
 r [A 1 1 24,L 6 24 25,C rH [t 25] 26,M 26 27,AT 7 1 28 27,LT 6 28 29 27,⟨.build [z0,z0,z0,e0,e0,.ae] [],(some 30),some (27,true)⟩,CT nW [t 29,t 30] 31 27,P 27 31 32,M 32 33,LT 15 1 34 33,CT GA [t 34] 35 33,⟨.build [(.bool false),(.bool false)] [],(some 36),some (33,true)⟩,⟨.ni false true [.b,.b] (t 35) (t 36),(some 37),some (33,true)⟩,P 33 37 38,M 38 2]<|
 .ret
theorem P8: Of Tryz.prog zM 39 [.tmp 2] GQ:=aU {} Tryz.func142
def ur: aI:=r [X 0 1,V e0 2,V z0 3]<|
 r [L 6 1 7,C lO [t 7] 8,M 8 6,E 6 0 9,E 6 1 10,M 9 4,M 10 5]<|
 q (r [M 5 11,D .eql 11 0 12,M 12 13,AT 0 1 14 13,KT 14 15 13,DT .geq 15 8 16 13,MT 16 17 13,AT 0 1 18 17,KT 18 19 17,DT .leq 19 16 20 17,PT 17 20 21 13,P 13 21 22]<|
 c 22 (R [M 4 23,⟨.bin .add (.c (.str [40])) (t 23),(some 24),none⟩,⟨.bin .add (t 24) (.c (.str [41])),(some 25),none⟩,M 25 4]) k)<|
 r [M 4 26,M 5 27,M 26 2,M 27 3]<|
 .ret
theorem x8: Of Tryz.prog tW 28 [.tmp 2,.tmp 3] ur:=aU {} Tryz.func143
def Jj: aI:=r [V e0 2]<|
 q (r [M 0 3]<|
 .block 0 (r [D .eql 3 2 5,M 5 4]<|
 c 4 (r [V (.str [60]) 2]<|
 .ret) (r [D .eql 3 3 7,M 7 6]<|
 c 6 (r [V (.str [60,61]) 2]<|
 .ret) (r [D .eql 3 4 9,M 9 8]<|
 c 8 (r [V (.str [62]) 2]<|
 .ret) (r [D .eql 3 5 11,M 11 10]<|
 c 10 (r [V (.str [62,61]) 2]<|
 .ret) k)))))<|
 r [V e0 2]<|
 .ret
theorem Ru: Of Tryz.prog wC 12 [.tmp 2] Jj:=aU {} Tryz.func144
def mD: aI:=r [V z0 4,V .lA 5]<|
 r [M 0 6,C fm [t 6] 7]<|
 r [M 0 8,M 0 9,Z 9 10,A 1 10 11,K 11 12,M 1 13,⟨.app (some 5) ⟨false,1⟩ (t 12) (t 13),(some 14),none⟩,Z 8 15,A 1 15 16,W 1 16 14]<|
 r [M 1 17,S 17 18,M 18 4,V .lA 5]<|
 .ret
theorem uu: Of Tryz.prog dN 19 [.tmp 4,.tmp 5] mD:=aU ⟨[],[],[],[14],[],[]⟩ Tryz.func146
def CZ: aI:=r [V z0 2]<|
 q (.block 0 (r [M 0 4,D .eql 4 1 5,M 5 6,MF 0 7 6,DF .eql 7 2 8 6,O 6 8 9,M 9 3]<|
 c 3 (r [V z0 2]<|
 .ret) (r [M 0 11,D .eql 11 3 12,M 12 10]<|
 c 10 (r [V (i6 1) 2]<|
 .ret) (r [M 0 14,D .eql 14 16 15,M 15 13]<|
 c 13 (r [V (i6 3) 2]<|
 .ret) (r [M 0 17,C nT [t 17] 18,⟨.field false 2 1 (t 18),(some 19),none⟩,D .gtr 19 0 20,M 20 16]<|
 c 16 (r [V (i6 2) 2]<|
 .ret) k)))))<|
 r [V (i6 (-1)) 2]<|
 .ret
theorem LI: Of Tryz.prog vH 21 [.tmp 2] CZ:=aU {} Tryz.func147
def n6: aI:=r [V (.bool false) 4]<|
 r [M 0 5,M 1 6,C lE [t 5,t 6] 7,D .geq 7 0 8,M 8 4]<|
 .ret
theorem wZ: Of Tryz.prog jZ 9 [.tmp 4] n6:=aU {} Tryz.func148
def Ag: aI:=r [X 0 1,V (.bool false) 2]<|
 r [L 6 1 3,C kJ [t 3] 4,U 4 5,M 5 2]<|
 .ret
theorem I2: Of Tryz.prog nI 6 [.tmp 2] Ag:=aU {} Tryz.func149
def C0: aI:=r [X 0 1,V z0 2]<|
 q (r [A 0 1 3,K 3 4]<|
 .block 0 (r [D .eql 4 16 6,M 6 5]<|
 c 5 (r [V z0 2]<|
 .ret) (r [D .eql 4 3 8,M 8 7]<|
 c 7 (r [V (i6 6) 2]<|
 .ret) (q (r [D .eql 4 1 10,M 10 9]<|
 c 9 k (R [D .eql 4 2 11,M 11 9]))<|
 c 9 (r [V (i6 7) 2]<|
 .ret) k))))<|
 r [A 0 1 12,K 12 13,C nT [t 13] 14,⟨.field false 2 1 (t 14),(some 15),none⟩,M 15 2]<|
 .ret
theorem LJ: Of Tryz.prog vI 16 [.tmp 2] C0:=aU {} Tryz.func150
def nk: aI:=r [V .lA 4]<|
 r [M 0 5,C fm [t 5] 6]<|
 r [M 0 7,M 0 8,Z 8 9,A 1 9 10,K 10 11,M 1 12,⟨.bD false ⟨false,1⟩ (.int .u8 0) 1 [(0,(t 12))],(some 13),none⟩,⟨.app (some 5) ⟨false,1⟩ (t 11) (t 13),(some 14),none⟩,Z 7 15,A 1 15 16,W 1 16 14]<|
 r [V .lA 4]<|
 .ret
theorem vP: Of Tryz.prog cV 17 [.tmp 4] nk:=aU ⟨[],[],[],[14],[],[]⟩ Tryz.func151
def Ah: aI:=r [X 0 1,V e0 2,V z0 3]<|
 q (r [L 3 1 5,C jX [t 5] 6,M 6 4]<|
 r [M 4 7,D .neq 7 0 8]<|
 c 8 (r [M 4 9,V e0 2,M 9 3]<|
 .ret) k)<|
 q (r [A 0 1 10,K 10 11]<|
 .block 0 (r [D .eql 11 1 13,M 13 12]<|
 c 12 (r [A 1 1 14,K 14 15,C CD [t 15] 16,M 16 2,V z0 3]<|
 .ret) (r [D .eql 11 2 18,M 18 17]<|
 c 17 (r [A 2 1 19,K 19 20,C sq [t 20] 21,M 21 2,V z0 3]<|
 .ret) (r [D .eql 11 3 23,M 23 22]<|
 c 22 (r [A 1 1 24,K 24 25,D .eql 25 1 26,C tZ [t 26] 27,M 27 2,V z0 3]<|
 .ret) k))))<|
 r [V (.str [110,117,108,108]) 2,V z0 3]<|
 .ret
theorem Fi: Of Tryz.prog zN 28 [.tmp 2,.tmp 3] Ah:=aU {} Tryz.func152
def Fj: aI:=r [J [z0,e0,z0] 2]<|
 q (r [C mG [] 5,N 5 6,V z0 7]<|
 .block 0 (.loop (r [B .lss 7 6 8]<|
 q (c 8 k (.exit 0))<|
 q (.block 1 (r [I true 3 5 7 9,L 3 9 10,J [z0,e0,z0] 4,W 3 4 10]<|
 r [A 0 4 11,K 11 12,M 0 13,B .eql 12 13 14]<|
 c 14 (r [L 3 4 15,W 3 2 15]<|
 .ret) k))<|
 R [D .add 7 1 16,M 16 7])))<|
 r [⟨.build [z0,e0,z0] [],(some 17),none⟩,W 3 2 17]<|
 .ret
theorem NH: Of Tryz.prog nT 18 [.cell 2 true 3] Fj:=aU {} Tryz.func153
def GR: aI:=r [V z0 2]<|
 r [V z0 3]<|
 q (.block 0 (.loop (q (r [M 3 4,M 0 5,S 5 6,B .lss 4 6 7,M 7 8,MT 0 9 8,MT 3 10 8,⟨.eJ (t 9) (t 10),(some 11),some (8,true)⟩,CT qE [t 11] 12 8,MT 12 13 8,MF 3 14 13,DF .gtr 14 0 15 13,MF 15 16 13,MT 0 17 16,MT 3 18 16,⟨.eJ (t 17) (t 18),(some 19),some (16,true)⟩,CT nX [t 19] 20 16,PF 16 20 21 13,OT 13 21 22 8,P 8 22 23]<|
 c 23 k (.exit 0))<|
 .block 1 (R [M 3 24,D .add 24 1 25,M 25 3]))))<|
 r [M 3 26,M 26 2]<|
 .ret
theorem P9: Of Tryz.prog tX 27 [.tmp 2] GR:=aU {} Tryz.func154
def Ai: aI:=r [V (.bool false) 2]<|
 r [⟨.bD false ⟨false,1⟩ e0 9 [(0,(.c (.str [97,110,100]))),(1,(.c (.str [111,114]))),(2,(.c (.str [110,111,116]))),(3,(.c (.str [105,102]))),(4,(.c (.str [116,104,101,110]))),(5,(.c (.str [101,108,115,101]))),(6,(.c (.str [116,114,117,101]))),(7,(.c (.str [102,97,108,115,101]))),(8,(.c (.str [110,117,108,108])))],(some 5),none⟩,M 5 3]<|
 q (r [V z0 4]<|
 .block 0 (.loop (q (r [M 4 6,M 3 7,N 7 8,B .lss 6 8 9]<|
 c 9 k (.exit 0))<|
 q (.block 1 (r [M 3 12,M 4 13,I false 1 12 13 14,K 14 15,M 0 16,B .eql 15 16 17]<|
 c 17 (r [V (.bool true) 2]<|
 .ret) k))<|
 R [M 4 10,D .add 10 1 11,M 11 4])))<|
 r [V (.bool false) 2]<|
 .ret
theorem I3: Of Tryz.prog sH 18 [.tmp 2] Ai:=aU {} Tryz.func155
def Fk: aI:=r [X 0 1,V (.bool false) 2]<|
 q (r [A 0 1 3,K 3 4]<|
 .block 0 (r [D .eql 4 0 6,M 6 5]<|
 c 5 (r [A 1 1 7,K 7 8,D .eql 8 0 9,M 9 10,AT 2 1 11 10,KT 11 12 10,⟨.bin .eql (t 12) (.c e0),(some 13),some (10,true)⟩,P 10 13 14,M 14 2]<|
 .ret) (r [D .eql 4 1 16,M 16 15]<|
 c 15 (r [A 2 1 17,K 17 18,⟨.bin .eql (t 18) (.c e0),(some 19),none⟩,M 19 2]<|
 .ret) (r [D .eql 4 2 21,M 21 20]<|
 c 20 (r [A 1 1 22,K 22 23,D .eql 23 0 24,M 24 25,AT 2 1 26 25,KT 26 27 25,CT xP [t 27] 28 25,P 25 28 29,M 29 2]<|
 .ret) (r [D .eql 4 3 31,M 31 30]<|
 c 30 (r [A 2 1 32,K 32 33,⟨.bin .eql (t 33) (.c e0),(some 34),none⟩,M 34 35,AT 1 1 36 35,KT 36 37 35,DT .eql 37 0 38 35,MT 38 39 35,AF 1 1 40 39,KF 40 41 39,DF .eql 41 1 42 39,OT 39 42 43 35,P 35 43 44,M 44 2]<|
 .ret) k)))))<|
 r [V (.bool false) 2]<|
 .ret
theorem NI: Of Tryz.prog nU 45 [.tmp 2] Fk:=aU {} Tryz.func156
def Fl: aI:=r [X 0 1,V e0 2]<|
 r [A 0 1 4,K 4 5,C gN [t 5] 6,M 6 3]<|
 q (r [A 0 1 7,K 7 8]<|
 .block 0 (q (r [D .eql 8 1 10,M 10 9]<|
 c 9 k (R [D .eql 8 3 11,M 11 9]))<|
 c 9 (r [M 3 12,A 1 1 13,K 13 14,C gN [t 14] 15,B .add 12 15 16,M 16 2]<|
 .ret) (r [D .eql 8 2 18,M 18 17]<|
 c 17 (r [M 3 19,A 2 1 20,K 20 21,C kR [t 21] 22,B .add 19 22 23,M 23 2]<|
 .ret) k)))<|
 r [M 3 24,M 24 2]<|
 .ret
theorem NJ: Of Tryz.prog xJ 25 [.tmp 2] Fl:=aU {} Tryz.func157
def GS: aI:=r [V (.bool false) 2]<|
 r [M 0 3,⟨.bin .or (t 3) (.c (.int .u8 32)),(some 4),none⟩,⟨.bin .geq (t 4) (.c (.int .u8 97)),(some 5),none⟩,M 5 6,MT 0 7 6,⟨.bin .or (t 7) (.c (.int .u8 32)),(some 8),some (6,true)⟩,⟨.bin .leq (t 8) (.c (.int .u8 122)),(some 9),some (6,true)⟩,P 6 9 10,M 10 11,MF 0 12 11,⟨.bin .eql (t 12) (.c (.int .u8 95)),(some 13),some (11,false)⟩,O 11 13 14,M 14 2]<|
 .ret
theorem P_: Of Tryz.prog pH 15 [.tmp 2] GS:=aU {} Tryz.func158
def OW: aI:=r [V z0 4]<|
 q (r [M 0 6,S 6 7,V z0 8]<|
 .block 0 (.loop (r [B .lss 8 7 9]<|
 q (c 9 k (.exit 0))<|
 q (.block 1 (r [M 8 10,M 10 5]<|
 r [M 1 11,M 0 12,M 5 13,⟨.eJ (t 12) (t 13),(some 14),none⟩,⟨.call false (t 11) [(t 14)],(some 15),none⟩,U 15 16]<|
 c 16 (r [M 5 17,M 17 4]<|
 .ret) k))<|
 R [D .add 8 1 18,M 18 8])))<|
 r [M 0 19,S 19 20,M 20 4]<|
 .ret
theorem VF: Of Tryz.prog wV 21 [.tmp 4] OW:=aU {} Tryz.func159
def GU: aI:=r [V (.bool false) 2]<|
 r [M 0 3,C pH [t 3] 4,M 4 5,MF 0 6 5,CF ov [t 6] 7 5,O 5 7 8,M 8 2]<|
 .ret
theorem Qa: Of Tryz.prog zO 9 [.tmp 2] GU:=aU {} Tryz.func160
def Jk: aI:=r [V (.bool false) 2]<|
 r [M 0 3,⟨.bin .geq (t 3) (.c (.int .u8 48)),(some 4),none⟩,M 4 5,MT 0 6 5,⟨.bin .leq (t 6) (.c (.int .u8 57)),(some 7),some (5,true)⟩,P 5 7 8,M 8 2]<|
 .ret
theorem Rv: Of Tryz.prog ov 9 [.tmp 2] Jk:=aU {} Tryz.func161
def Fm: aI:=r [V (.bool false) 2]<|
 q (r [M 0 5,S 5 6,D .gtr 6 40 7]<|
 c 7 (r [V (.bool false) 2]<|
 .ret) k)<|
 q (r [M 0 8,⟨.JW (t 8),(some 9),none⟩]<|
 .block 0 (.loop (r [⟨.JX (t 9),(some 10),none⟩,E 10 0 11]<|
 q (c 11 k (.exit 0))<|
 .block 1 (r [E 10 2 12,M 12 4]<|
 r [M 4 13,⟨.bin .lss (t 13) (.c (.int .i32 32)),(some 14),none⟩,M 14 15,MF 4 16 15,⟨.bin .gtr (t 16) (.c (.int .i32 126)),(some 17),some (15,false)⟩,O 15 17 18]<|
 c 18 (r [V (.bool false) 2]<|
 .ret) k))))<|
 r [V (.bool true) 2]<|
 .ret
theorem NL: Of Tryz.prog xK 19 [.tmp 2] Fm:=aU {} Tryz.func163
def Br: aI:=r [V z0 4]<|
 q (r [M 0 7,C t_ [t 7] 8,M 8 5]<|
 r [M 5 9,D .neq 9 0 10]<|
 c 10 (r [M 5 11,M 11 4]<|
 .ret) k)<|
 q (r [V z0 6]<|
 .block 0 (.loop (q (r [M 6 12,M 0 13,N 13 14,B .lss 12 14 15]<|
 c 15 k (.exit 0))<|
 q (.block 1 (r [M 0 18,M 6 19,I true 3 18 19 20,L 3 20 21,M 1 22,C xQ [t 21,t 22] 23,U 23 24]<|
 c 24 (r [V (i6 17) 4]<|
 .ret) k))<|
 R [M 6 16,D .add 16 1 17,M 17 6])))<|
 q (r [M 0 25,N 25 26,D .eql 26 0 27]<|
 c 27 (r [V (i6 17) 4]<|
 .ret) k)<|
 r [V z0 4]<|
 .ret
theorem Kg: Of Tryz.prog oT 28 [.tmp 4] Br:=aU {} Tryz.func164
def C1: aI:=r [X 0 1,V (.bool false) 2]<|
 q (r [A 3 1 4,K 4 5,D .lss 5 1 6,M 6 7,AF 3 1 8 7,KF 8 9 7,DF .gtr 9 6 10 7,O 7 10 11]<|
 c 11 (r [V (.bool false) 2]<|
 .ret) k)<|
 q (r [A 4 1 12,K 12 13,D .eql 13 0 14]<|
 c 14 (r [V (.bool true) 2]<|
 .ret) k)<|
 q (r [A 3 1 15,K 15 16,D .neq 16 5 17,M 17 18,AF 4 1 19 18,KF 19 20 18,DF .lss 20 1 21 18,O 18 21 22,M 22 23,AF 4 1 24 23,KF 24 25 23,DF .gtr 25 4 26 23,O 23 26 27,M 27 28,AF 2 1 29 28,KF 29 30 28,NF 30 31 28,DF .neq 31 1 32 28,O 28 32 33]<|
 c 33 (r [V (.bool false) 2]<|
 .ret) k)<|
 r [A 2 1 34,K 34 35,⟨.bQ ⟨true,3⟩ none (t 35) (.c z0),(some 36),none⟩,A 1 36 37,K 37 38,M 38 3]<|
 r [A 4 1 39,K 39 40,D .eql 40 4 41,M 41 42,MF 3 43 42,DF .eql 43 1 44 42,O 42 44 45,M 45 46,MF 3 47 46,DF .eql 47 2 48 46,MF 48 49 46,AT 4 1 50 49,KT 50 51 49,DT .neq 51 1 52 49,PF 49 52 53 46,O 46 53 54,M 54 2]<|
 .ret
theorem LK: Of Tryz.prog qD 55 [.tmp 2] C1:=aU {} Tryz.func165
end Go.Proofs.YtmbgnaoilncbnaaGreatDoor
