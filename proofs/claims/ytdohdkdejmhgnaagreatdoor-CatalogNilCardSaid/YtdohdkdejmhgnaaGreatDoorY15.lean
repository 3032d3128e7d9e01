/- Part. -/
import Derived.Test.YtdohdkdejmhgnaaGreatDoorY14
set_option linter.all false
set_option maxHeartbeats 8000000
namespace Go.Proofs.YtdohdkdejmhgnaaGreatDoor
open Go.AM
set_option maxRecDepth 100000
def ma1: List AV:=[.agg [.str (List.replicate 512 0),.str (List.replicate 512 0)]]
def mr1: AV:= .bg [.agg [.int .i64 (0),.int .i64 (0),.int .i64 (0),.str []],.int .i64 (-1)]
def mm1: aA aM 361 ma1 mr1:=aA.bM 80 rfl rfl b_
def sR: List (List AV × AV):=[(ma1,mr1)]
def yl: ∀ p ∈ sR,aA aM 361 p.1 p.2:=List.forall_mem_cons.2 ⟨mm1,fun _ h=>by cases h⟩
def ma2: List AV:=[.agg [.str (List.replicate 512 0),.str (List.replicate 512 0)]]
def mr2: AV:= .int .i64 (6)
def mm2: aA aM 362 ma2 mr2:=aA.bM 80 rfl rfl b_
def rT: List (List AV × AV):=[(ma2,mr2)]
def x3: ∀ p ∈ rT,aA aM 362 p.1 p.2:=List.forall_mem_cons.2 ⟨mm2,fun _ h=>by cases h⟩
def ma3: List AV:=[.str [116],.int .i64 (1)]
def mr3: AV:= .bg [.str [116,116,0,0,0,0,0,0,0,0,0,0,0,0,0,0,0,0,0,0,1],.int .i64 (0)]
def mm3: aA aM 20 ma3 mr3:=aA.bM 80 rfl rfl b_
def x4: List (List AV × AV):=[(ma3,mr3)]
def C7: ∀ p ∈ x4,aA aM 20 p.1 p.2:=List.forall_mem_cons.2 ⟨mm3,fun _ h=>by cases h⟩
def ma4: List AV:=[.str [2]]
def mr4: AV:= .bg [.int .i64 (1),.int .i64 (0)]
def mm4: aA aM 50 ma4 mr4:=aA.bM 80 rfl rfl b_
def sS: List (List AV × AV):=[(ma4,mr4)]
def ym: ∀ p ∈ sS,aA aM 50 p.1 p.2:=List.forall_mem_cons.2 ⟨mm4,fun _ h=>by cases h⟩
def ma5: List AV:=[.agg [.int .i64 (2),.int .i64 (1),.int .i64 (1),.int .i64 (5),.str [],.str [],.aP,.int .i64 (0),.int .i64 (0),.int .i64 (0),.str [],.str [],.aP,.bool false,.bool false]]
def mr5: AV:= .bool false
def mm5: aA aM 269 ma5 mr5:=aA.bM 80 rfl rfl b_
def vS: List (List AV × AV):=[(ma5,mr5)]
def Cm: ∀ p ∈ vS,aA aM 269 p.1 p.2:=List.forall_mem_cons.2 ⟨mm5,fun _ h=>by cases h⟩
def ma6: List AV:=[.agg [.bool false,.bool false,.aH false ⟨true,15⟩ [.agg [.int .i64 (2),.int .i64 (1),.int .i64 (1),.int .i64 (5),.str [],.str [],.aP,.int .i64 (0),.int .i64 (0),.int .i64 (0),.str [],.str [],.aP,.bool false,.bool false]]],.int .i64 (1),.aH true ⟨true,3⟩ [.agg [.str [97],.int .i64 (1),.aP]]]
def mr6: AV:= .int .i64 (0)
def mm6: aA aM 346 ma6 mr6:=aA.bM 80 rfl rfl b_
def ma7: List AV:=[.agg [.bool false,.bool false,.aH false ⟨true,15⟩ [.agg [.int .i64 (2),.int .i64 (1),.int .i64 (1),.int .i64 (5),.str [],.str [],.aP,.int .i64 (0),.int .i64 (0),.int .i64 (0),.str [],.str [],.aP,.bool false,.bool false]]],.int .i64 (1),.aH false ⟨true,3⟩ [.agg [.str [97],.int .i64 (1),.aP]]]
def mr7: AV:= .int .i64 (0)
def mm7: aA aM 346 ma7 mr7:=aA.bM 80 rfl rfl b_
def zd: List (List AV × AV):=[(ma6,mr6),(ma7,mr7)]
def Fj: ∀ p ∈ zd,aA aM 346 p.1 p.2:=List.forall_mem_cons.2 ⟨mm6,List.forall_mem_cons.2 ⟨mm7,fun _ h=>by cases h⟩⟩
def ma8: List AV:=[.agg [.int .i64 (2),.int .i64 (1),.int .i64 (1),.int .i64 (5),.str [],.str [],.aP,.int .i64 (0),.int .i64 (0),.int .i64 (0),.str [],.str [],.aP,.bool false,.bool false]]
def mr8: AV:= .bg [.str [60,32,53],.int .i64 (0)]
def mm8: aA aM 183 ma8 mr8:=aA.bM 80 rfl rfl b_
def A5: List (List AV × AV):=[(ma8,mr8)]
def Gj: ∀ p ∈ A5,aA aM 183 p.1 p.2:=List.forall_mem_cons.2 ⟨mm8,fun _ h=>by cases h⟩
def ma9: List AV:=[.str [60,53]]
def mr9: AV:= .bg [.agg [.int .i64 (4),.str [60],.int .i64 (0),.int .i64 (0)],.int .i64 (1),.int .i64 (0)]
def mm9: aA aM 385 ma9 mr9:=aA.bM 80 rfl rfl b_
def afD: List AV:=[.str [53]]
def afE: AV:= .bg [.agg [.int .i64 (2),.str [],.int .i64 (5),.int .i64 (0)],.int .i64 (1),.int .i64 (0)]
def alU: aA aM 385 afD afE:=aA.bM 80 rfl rfl b_
def A6: List (List AV × AV):=[(ma9,mr9),(afD,afE)]
def Gk: ∀ p ∈ A6,aA aM 385 p.1 p.2:=List.forall_mem_cons.2 ⟨mm9,List.forall_mem_cons.2 ⟨alU,fun _ h=>by cases h⟩⟩
def afF: List AV:=[.str [97]]
def afG: AV:= .bg [.agg [.int .i64 (2),.int .i64 (0),.int .i64 (0),.str [],.str [97],.aP],.int .i64 (0),.int .i64 (0)]
def alV: aA aM 248 afF afG:=aA.bM 80 rfl rfl b_
def x5: List (List AV × AV):=[(afF,afG)]
def C8: ∀ p ∈ x5,aA aM 248 p.1 p.2:=List.forall_mem_cons.2 ⟨alV,fun _ h=>by cases h⟩
def afH: List AV:=[.aH false ⟨true,4⟩ [.agg [.int .i64 (4),.str [60],.int .i64 (0),.int .i64 (0)],.agg [.int .i64 (2),.str [],.int .i64 (5),.int .i64 (1)]],.int .i64 (1),.int .i64 (4)]
def afI: AV:= .bg [.agg [.int .i64 (1),.int .i64 (1),.int .i64 (5),.str [],.str [],.aP],.int .i64 (2),.int .i64 (0)]
def alW: aA aM 329 afH afI:=aA.bM 80 rfl rfl b_
def ze: List (List AV × AV):=[(afH,afI)]
def Fk: ∀ p ∈ ze,aA aM 329 p.1 p.2:=List.forall_mem_cons.2 ⟨alW,fun _ h=>by cases h⟩
def afJ: List AV:=[.agg [.int .i64 (2),.int .i64 (0),.int .i64 (0),.str [],.str [97],.aP]]
def afK: AV:= .bg [.str [97],.int .i64 (0)]
def alX: aA aM 94 afJ afK:=aA.bM 80 rfl rfl b_
def zg: List (List AV × AV):=[(afJ,afK)]
def Fl: ∀ p ∈ zg,aA aM 94 p.1 p.2:=List.forall_mem_cons.2 ⟨alX,fun _ h=>by cases h⟩
def afL: List AV:=[.agg [.int .i64 (2),.int .i64 (0),.int .i64 (0),.str [],.str [97],.aP],.aH true ⟨true,3⟩ [.agg [.str [97],.int .i64 (1),.aP]]]
def afM: AV:= .bg [.int .i64 (1),.int .i64 (0)]
def alY: aA aM 249 afL afM:=aA.bM 80 rfl rfl b_
def zh: List (List AV × AV):=[(afL,afM)]
def Fm: ∀ p ∈ zh,aA aM 249 p.1 p.2:=List.forall_mem_cons.2 ⟨alY,fun _ h=>by cases h⟩
def afN: List AV:=[.agg [.bool false,.bool false,.aH false ⟨true,15⟩ [.agg [.int .i64 (2),.int .i64 (1),.int .i64 (1),.int .i64 (5),.str [],.str [],.aP,.int .i64 (0),.int .i64 (0),.int .i64 (0),.str [],.str [],.aP,.bool false,.bool false]]]]
def afO: AV:= .bg [.str [60,32,53],.int .i64 (0)]
def alZ: aA aM 93 afN afO:=aA.bM 80 rfl rfl b_
def zi: List (List AV × AV):=[(afN,afO)]
def Fo: ∀ p ∈ zi,aA aM 93 p.1 p.2:=List.forall_mem_cons.2 ⟨alZ,fun _ h=>by cases h⟩
def afP: List AV:=[.agg [.bool false,.bool false,.aH false ⟨true,15⟩ [.agg [.int .i64 (2),.int .i64 (1),.int .i64 (1),.int .i64 (5),.str [],.str [],.aP,.int .i64 (0),.int .i64 (0),.int .i64 (0),.str [],.str [],.aP,.bool false,.bool false]]],.int .i64 (1),.aH true ⟨true,3⟩ [.agg [.str [97],.int .i64 (1),.aP]]]
def afQ: AV:= .int .i64 (0)
def al0: aA aM 247 afP afQ:=aA.bM 80 rfl rfl b_
def x6: List (List AV × AV):=[(afP,afQ)]
def C9: ∀ p ∈ x6,aA aM 247 p.1 p.2:=List.forall_mem_cons.2 ⟨al0,fun _ h=>by cases h⟩
def afR: List AV:=[.agg [.int .i64 (2),.int .i64 (1),.int .i64 (1),.int .i64 (5),.str [],.str [],.aP,.int .i64 (0),.int .i64 (0),.int .i64 (0),.str [],.str [],.aP,.bool false,.bool false]]
def afS: AV:= .bool true
def al1: aA aM 251 afR afS:=aA.bM 80 rfl rfl b_
def zj: List (List AV × AV):=[(afR,afS)]
def Fp: ∀ p ∈ zj,aA aM 251 p.1 p.2:=List.forall_mem_cons.2 ⟨al1,fun _ h=>by cases h⟩
def afT: List AV:=[.agg [.str [116],.aH false ⟨true,3⟩ [.agg [.str [97],.int .i64 (1),.aP]],.aH false ⟨true,3⟩ [.agg [.str [111],.int .i64 (1),.aH false ⟨true,3⟩ []]],.int .i64 (2),.int .i64 (0),.aH false ⟨true,2⟩ [.agg [.aH false ⟨false,1⟩ [.str [60,32,53]],.aH false ⟨false,1⟩ [.str [97]]]]],.agg [.str [116],.aH true ⟨true,3⟩ [.agg [.str [97],.int .i64 (1),.aP]],.aH true ⟨true,3⟩ [.agg [.str [111],.int .i64 (1),.aP]],.int .i64 (2),.int .i64 (0),.aH false ⟨true,2⟩ [.agg [.aH false ⟨false,1⟩ [.str [60,32,53]],.aH false ⟨false,1⟩ [.str [97]]]]]]
def afU: AV:= .bool true
def al2: aA aM 44 afT afU:=aA.bM 80 rfl rfl b_
def afV: List AV:=[.agg [.str [116],.aH false ⟨true,3⟩ [.agg [.str [97],.int .i64 (1),.aP]],.aH false ⟨true,3⟩ [.agg [.str [111],.int .i64 (1),.aH false ⟨true,3⟩ []]],.int .i64 (2),.int .i64 (0),.aH false ⟨true,2⟩ [.agg [.aH false ⟨false,1⟩ [.str [60,32,53]],.aH false ⟨false,1⟩ [.str [97]]]]],.agg [.str [116],.aH true ⟨true,3⟩ [.agg [.str [97],.int .i64 (1),.aP]],.aH true ⟨true,3⟩ [.agg [.str [111],.int .i64 (1),.aP]],.int .i64 (2),.int .i64 (0),.aH true ⟨true,2⟩ [.agg [.aH true ⟨false,1⟩ [.str [60,53]],.aH true ⟨false,1⟩ [.str [97]]]]]]
def afW: AV:= .bool false
def al3: aA aM 44 afV afW:=aA.bM 80 rfl rfl b_
def zk: List (List AV × AV):=[(afT,afU),(afV,afW)]
def Fq: ∀ p ∈ zk,aA aM 44 p.1 p.2:=List.forall_mem_cons.2 ⟨al2,List.forall_mem_cons.2 ⟨al3,fun _ h=>by cases h⟩⟩
def afX: List AV:=[.agg [.str [116],.aH true ⟨true,3⟩ [.agg [.str [97],.int .i64 (1),.aP]],.aH true ⟨true,3⟩ [.agg [.str [111],.int .i64 (1),.aP]],.int .i64 (2),.int .i64 (0),.aH true ⟨true,2⟩ [.agg [.aH true ⟨false,1⟩ [.str [60,53]],.aH true ⟨false,1⟩ [.str [97]]]]]]
def afY: AV:= .int .i64 (0)
def al4: aA aM 164 afX afY:=aA.bM 80 rfl rfl b_
def x7: List (List AV × AV):=[(afX,afY)]
def C_: ∀ p ∈ x7,aA aM 164 p.1 p.2:=List.forall_mem_cons.2 ⟨al4,fun _ h=>by cases h⟩
def afZ: List AV:=[.aH true ⟨true,3⟩ [.agg [.str [97],.int .i64 (1),.aP]],.bool false]
def af0: AV:= .int .i64 (0)
def al5: aA aM 264 afZ af0:=aA.bM 80 rfl rfl b_
def af1: List AV:=[.aH true ⟨true,3⟩ [.agg [.str [111],.int .i64 (1),.aP]],.bool false]
def af2: AV:= .int .i64 (0)
def al6: aA aM 264 af1 af2:=aA.bM 80 rfl rfl b_
def s_: List (List AV × AV):=[(afZ,af0),(af1,af2)]
def zV: ∀ p ∈ s_,aA aM 264 p.1 p.2:=List.forall_mem_cons.2 ⟨al5,List.forall_mem_cons.2 ⟨al6,fun _ h=>by cases h⟩⟩
def af3: List AV:=[.agg [.str [116],.aH true ⟨true,3⟩ [.agg [.str [97],.int .i64 (1),.aP]],.aH true ⟨true,3⟩ [.agg [.str [111],.int .i64 (1),.aP]],.int .i64 (2),.int .i64 (0),.aH true ⟨true,2⟩ [.agg [.aH true ⟨false,1⟩ [.str [60,53]],.aH true ⟨false,1⟩ [.str [97]]]]]]
def af4: AV:= .int .i64 (0)
def al7: aA aM 180 af3 af4:=aA.bM 80 rfl rfl b_
def vT: List (List AV × AV):=[(af3,af4)]
def Cn: ∀ p ∈ vT,aA aM 180 p.1 p.2:=List.forall_mem_cons.2 ⟨al7,fun _ h=>by cases h⟩
def af5: List AV:=[.agg [.str [97],.int .i64 (1),.aP],.agg [.str [97],.int .i64 (1),.aP]]
def af6: AV:= .bool true
def al8: aA aM 189 af5 af6:=aA.bM 80 rfl rfl b_
def qW: List (List AV × AV):=[(af5,af6)]
def wJ: ∀ p ∈ qW,aA aM 189 p.1 p.2:=List.forall_mem_cons.2 ⟨al8,fun _ h=>by cases h⟩
def af7: List AV:=[.agg [.str [116],.aH true ⟨true,3⟩ [.agg [.str [97],.int .i64 (1),.aP]],.aH true ⟨true,3⟩ [.agg [.str [111],.int .i64 (1),.aP]],.int .i64 (2),.int .i64 (0),.aH true ⟨true,2⟩ [.agg [.aH true ⟨false,1⟩ [.str [60,53]],.aH true ⟨false,1⟩ [.str [97]]]]],.int .i64 (0),.str [97]]
def af8: AV:= .bg [.agg [.int .i64 (2),.int .i64 (0),.int .i64 (0),.str [],.str [97],.aP],.int .i64 (0)]
def al9: aA aM 267 af7 af8:=aA.bM 80 rfl rfl b_
def x8: List (List AV × AV):=[(af7,af8)]
def Da: ∀ p ∈ x8,aA aM 267 p.1 p.2:=List.forall_mem_cons.2 ⟨al9,fun _ h=>by cases h⟩
def af9: List AV:=[.agg [.int .i64 (1),.int .i64 (0),.int .i64 (0),.str []]]
def af_: AV:= .bg [.str [0,0,0],.int .i64 (0)]
def al_: aA aM 364 af9 af_:=aA.bM 80 rfl rfl b_
def x9: List (List AV × AV):=[(af9,af_)]
def Db: ∀ p ∈ x9,aA aM 364 p.1 p.2:=List.forall_mem_cons.2 ⟨al_,fun _ h=>by cases h⟩
def aga: List AV:=[.str [116]]
def agb: AV:= .bool true
def ama: aA aM 45 aga agb:=aA.bM 80 rfl rfl b_
def agc: List AV:=[.str [97]]
def agd: AV:= .bool true
def amb: aA aM 45 agc agd:=aA.bM 80 rfl rfl b_
def age: List AV:=[.str [111]]
def agf: AV:= .bool true
def amc: aA aM 45 age agf:=aA.bM 80 rfl rfl b_
def CW: List (List AV × AV):=[(aga,agb),(agc,agd),(age,agf)]
def Ic: ∀ p ∈ CW,aA aM 45 p.1 p.2:=List.forall_mem_cons.2 ⟨ama,List.forall_mem_cons.2 ⟨amb,List.forall_mem_cons.2 ⟨amc,fun _ h=>by cases h⟩⟩⟩
def agh: List AV:=[.str [60,32,53]]
def agi: AV:= .bg [.agg [.int .i64 (4),.str [60],.int .i64 (0),.int .i64 (0),.int .i64 (1)],.int .i64 (0)]
def amd: aA aM 432 agh agi:=aA.bM 80 rfl rfl b_
def agj: List AV:=[.str [60,53]]
def agk: AV:= .bg [.agg [.int .i64 (4),.str [60],.int .i64 (0),.int .i64 (0),.int .i64 (1)],.int .i64 (0)]
def ame: aA aM 432 agj agk:=aA.bM 80 rfl rfl b_
def agl: List AV:=[.str [53]]
def agm: AV:= .bg [.agg [.int .i64 (2),.str [],.int .i64 (5),.int .i64 (0),.int .i64 (1)],.int .i64 (0)]
def amf: aA aM 432 agl agm:=aA.bM 80 rfl rfl b_
def CX: List (List AV × AV):=[(agh,agi),(agj,agk),(agl,agm)]
def Ie: ∀ p ∈ CX,aA aM 432 p.1 p.2:=List.forall_mem_cons.2 ⟨amd,List.forall_mem_cons.2 ⟨ame,List.forall_mem_cons.2 ⟨amf,fun _ h=>by cases h⟩⟩⟩
def agn: List AV:=[.agg [.bool true,.aH false ⟨true,2⟩ [.agg [.str [110,116,0,0,0,0,0,0,0,0,0,0,0,0,0,0,0],.str [2]],.agg [.str [116,116,0,0,0,0,0,0,0,0,0,0,0,0,0,0,0,0,0,0,1,0,0],.str [2,116,4,0,2,2,97,2,2,2,111,2,0,2,6,60,32,53,2,97]]]],.str [116,116,0,0,0,0,0,0,0,0,0,0,0,0,0,0,0,0,0,0,1,0,0]]
def ago: AV:= .bg [.int .i64 (1),.bool true]
def amg: aA aM 73 agn ago:=aA.bM 80 rfl rfl b_
def agp: List AV:=[.agg [.bool true,.aH false ⟨true,2⟩ [.agg [.str [116,116,0,0,0,0,0,0,0,0,0,0,0,0,0,0,0,0,0,0,1,0,0],.str [2,116,4,0,2,2,97,2,2,2,111,2,0,2,6,60,32,53,2,97]]]],.str [110,116,0,0,0,0,0,0,0,0,0,0,0,0,0,0,0]]
def agq: AV:= .bg [.int .i64 (-1),.bool false]
def amh: aA aM 73 agp agq:=aA.bM 80 rfl rfl b_
def A7: List (List AV × AV):=[(agn,ago),(agp,agq)]
def Gl: ∀ p ∈ A7,aA aM 73 p.1 p.2:=List.forall_mem_cons.2 ⟨amg,List.forall_mem_cons.2 ⟨amh,fun _ h=>by cases h⟩⟩
def agr: List AV:=[.agg [.bool true,.aH false ⟨true,2⟩ [.agg [.str [110,116,0,0,0,0,0,0,0,0,0,0,0,0,0,0,0],.str [2]],.agg [.str [116,116,0,0,0,0,0,0,0,0,0,0,0,0,0,0,0,0,0,0,1,0,0],.str [2,116,4,0,2,2,97,2,2,2,111,2,0,2,6,60,32,53,2,97]]]]]
def ags: AV:= .bg [.str [1,4,34,110,116,0,0,0,0,0,0,0,0,0,0,0,0,0,0,0,2,2,46,116,116,0,0,0,0,0,0,0,0,0,0,0,0,0,0,0,0,0,0,1,0,0,40,2,116,4,0,2,2,97,2,2,2,111,2,0,2,6,60,32,53,2,97,0,0,0,0,0,0,0,0,0,0,0,0,0,0,0,0,0,0,0,0,0,0,0,0,0,0,0,0,0,0,0,0,0,0,0,0,0,0,0,0,0,0,0,0,0,0,0,0,0,0,0,0,0,0,0,0,0,0,0,0,0,0,0,0,0,0,0,0,0,0,0,0,0,0,0,0,0,0,0,0,0,0,0,0,0,0,0,0,0,0,0,0,0,0,0,0,0,0,0,0,0,0,0,0,0,0,0,0,0,0,0,0,0,0,0,0,0,0,0,0,0,0,0,0,0,0,0,0,0,0,0,0,0,0,0,0,0,0,0,0,0,0,0,0,0,0,0,0,0,0,0,0,0,0,0,0,0,0,0,0,0,0,0,0,0,0,0,0,0,0,0,0,0,0,0,0,0,0,0,0,0,0,0,0,0,0,0,0,0,0,0,0,0,0,0,0,0,0,0,0,0,0,0,0,0,0,0,0,0,0,0,0,0,0,0,0,0,0,0,0,0,0,0,0,0,0,0,0,0,0,0,0,0,0,0,0,0,0,0,0,0,0,0,0,0,0,0,0,0,0,0,0,0,0,0,0,0,0,0,0,0,0,0,0,0,0,0,0,0,0,0,0,0,0,0,0,0,0,0,0,0,0,0,0,0,0,0,0,0,0,0,0,0,0,0,0,0,0,0,0,0,0,0,0,0,0,0,0,0,0,0,0,0,0,0,0,0,0,0,0,0,0,0,0,0,0,0,0,0,0,0,0,0,0,0,0,0,0,0,0,0,0,0,0,0,0,0,0,0,0,0,0,0,0,0,0,0,0,0,0,0,0,0,0,0,0,0,0,0,0,0,0,0,0,0,0,0,0,0,0,0,0,0,0,0,0,0,0,0,0,0,0,0,0,0,0,0,0,0,0,0,0,0,0,0,0,0,0,0,0,0,0,0],.int .i64 (0)]
def ami: aA aM 133 agr ags:=aA.bM 80 rfl rfl b_
def CY: List (List AV × AV):=[(agr,ags)]
def Ig: ∀ p ∈ CY,aA aM 133 p.1 p.2:=List.forall_mem_cons.2 ⟨ami,fun _ h=>by cases h⟩
def agt: List AV:=[.agg [.str [116,116,0,0,0,0,0,0,0,0,0,0,0,0,0,0,0,0,0,0,1,0,0],.str [2,116,4,0,2,2,97,2,2,2,111,2,0,2,6,60,32,53,2,97]]]
def agu: AV:= .int .i64 (45)
def amj: aA aM 293 agt agu:=aA.bM 80 rfl rfl b_
def agv: List AV:=[.agg [.str [110,116,0,0,0,0,0,0,0,0,0,0,0,0,0,0,0],.str [2]]]
def agw: AV:= .int .i64 (20)
def amk: aA aM 293 agv agw:=aA.bM 80 rfl rfl b_
def A8: List (List AV × AV):=[(agt,agu),(agv,agw)]
def Gm: ∀ p ∈ A8,aA aM 293 p.1 p.2:=List.forall_mem_cons.2 ⟨amj,List.forall_mem_cons.2 ⟨amk,fun _ h=>by cases h⟩⟩
def agx: List AV:=[.int .i64 (1),.int .i64 (4)]
def agy: AV:= .str [0,0,0,1]
def aml: aA aM 56 agx agy:=aA.bM 80 rfl rfl b_
def agz: List AV:=[.int .i64 (0),.int .i64 (2)]
def agA: AV:= .str [0,0]
def amm: aA aM 56 agz agA:=aA.bM 80 rfl rfl b_
def agB: List AV:=[.int .i64 (0),.int .i64 (4)]
def agC: AV:= .str [0,0,0,0]
def amn: aA aM 56 agB agC:=aA.bM 80 rfl rfl b_
def ya: List (List AV × AV):=[(agx,agy),(agz,agA),(agB,agC)]
def Dc: ∀ p ∈ ya,aA aM 56 p.1 p.2:=List.forall_mem_cons.2 ⟨aml,List.forall_mem_cons.2 ⟨amm,List.forall_mem_cons.2 ⟨amn,fun _ h=>by cases h⟩⟩⟩
def agD: List AV:=[.int .i64 (1)]
def agE: AV:= .str [2]
def amo: aA aM 55 agD agE:=aA.bM 80 rfl rfl b_
def agF: List AV:=[.int .i64 (2)]
def agG: AV:= .str [4]
def amq: aA aM 55 agF agG:=aA.bM 80 rfl rfl b_
def A9: List (List AV × AV):=[(agD,agE),(agF,agG)]
def Gn: ∀ p ∈ A9,aA aM 55 p.1 p.2:=List.forall_mem_cons.2 ⟨amo,List.forall_mem_cons.2 ⟨amq,fun _ h=>by cases h⟩⟩
def agH: List AV:=[.str [0,0,0,0]]
def agI: AV:= .int .i64 (0)
def amr: aA aM 146 agH agI:=aA.bM 80 rfl rfl b_
def zl: List (List AV × AV):=[(agH,agI)]
def Fs: ∀ p ∈ zl,aA aM 146 p.1 p.2:=List.forall_mem_cons.2 ⟨amr,fun _ h=>by cases h⟩
def agJ: List AV:=[.str [4,34,110,116,0,0,0,0,0,0,0,0,0,0,0,0,0,0,0,2,2,46,116,116,0,0,0,0,0,0,0,0,0,0,0,0,0,0,0,0,0,0,1,0,0,40,2,116,4,0,2,2,97,2,2,2,111,2,0,2,6,60,32,53,2,97,0,0,0,0,0,0,0,0,0,0,0,0,0,0,0,0,0,0,0,0,0,0,0,0,0,0,0,0,0,0,0,0,0,0,0,0,0,0,0,0,0,0,0,0,0,0,0,0,0,0,0,0,0,0,0,0,0,0,0,0,0,0,0,0,0,0,0,0,0,0,0,0,0,0,0,0,0,0,0,0,0,0,0,0,0,0,0,0,0,0,0,0,0,0,0,0,0,0,0,0,0,0,0,0,0,0,0,0,0,0,0,0,0,0,0,0,0,0,0,0,0,0,0,0,0,0,0,0,0,0,0,0,0,0,0,0,0,0,0,0,0,0,0,0,0,0,0,0,0,0,0,0,0,0,0,0,0,0,0,0,0,0,0,0,0,0,0,0,0,0,0,0,0,0,0,0,0,0,0,0,0,0,0,0,0,0,0,0,0,0,0,0,0,0,0,0,0,0,0,0,0,0,0,0,0,0,0,0,0,0,0,0,0,0,0,0,0,0,0,0,0,0,0,0,0,0,0,0,0,0,0,0,0,0,0,0,0,0,0,0,0,0,0,0,0,0,0,0,0,0,0,0,0,0,0,0,0,0,0,0,0,0,0,0,0,0,0,0,0,0,0,0,0,0,0,0,0,0,0,0,0,0,0,0,0,0,0,0,0,0,0,0,0,0,0,0,0,0,0,0,0,0,0,0,0,0,0,0,0,0,0,0,0,0,0,0,0,0,0,0,0,0,0,0,0,0,0,0,0,0,0,0,0,0,0,0,0,0,0,0,0,0,0,0,0,0,0,0,0,0,0,0,0,0,0,0,0,0,0,0,0,0,0,0,0,0,0,0,0,0,0,0,0,0,0,0,0,0,0,0,0,0,0,0,0,0,0,0,0,0,0,0,0,0,0,0,0,0,0,0,0,0,0,0,0,0,0,0,0,0,0,0,0]]
def agK: AV:= .bg [.int .i64 (2),.str [34,110,116,0,0,0,0,0,0,0,0,0,0,0,0,0,0,0,2,2,46,116,116,0,0,0,0,0,0,0,0,0,0,0,0,0,0,0,0,0,0,1,0,0,40,2,116,4,0,2,2,97,2,2,2,111,2,0,2,6,60,32,53,2,97,0,0,0,0,0,0,0,0,0,0,0,0,0,0,0,0,0,0,0,0,0,0,0,0,0,0,0,0,0,0,0,0,0,0,0,0,0,0,0,0,0,0,0,0,0,0,0,0,0,0,0,0,0,0,0,0,0,0,0,0,0,0,0,0,0,0,0,0,0,0,0,0,0,0,0,0,0,0,0,0,0,0,0,0,0,0,0,0,0,0,0,0,0,0,0,0,0,0,0,0,0,0,0,0,0,0,0,0,0,0,0,0,0,0,0,0,0,0,0,0,0,0,0,0,0,0,0,0,0,0,0,0,0,0,0,0,0,0,0,0,0,0,0,0,0,0,0,0,0,0,0,0,0,0,0,0,0,0,0,0,0,0,0,0,0,0,0,0,0,0,0,0,0,0,0,0,0,0,0,0,0,0,0,0,0,0,0,0,0,0,0,0,0,0,0,0,0,0,0,0,0,0,0,0,0,0,0,0,0,0,0,0,0,0,0,0,0,0,0,0,0,0,0,0,0,0,0,0,0,0,0,0,0,0,0,0,0,0,0,0,0,0,0,0,0,0,0,0,0,0,0,0,0,0,0,0,0,0,0,0,0,0,0,0,0,0,0,0,0,0,0,0,0,0,0,0,0,0,0,0,0,0,0,0,0,0,0,0,0,0,0,0,0,0,0,0,0,0,0,0,0,0,0,0,0,0,0,0,0,0,0,0,0,0,0,0,0,0,0,0,0,0,0,0,0,0,0,0,0,0,0,0,0,0,0,0,0,0,0,0,0,0,0,0,0,0,0,0,0,0,0,0,0,0,0,0,0,0,0,0,0,0,0,0,0,0,0,0,0,0,0,0,0,0,0,0,0,0,0,0,0,0,0,0,0,0,0,0,0,0,0,0,0,0,0,0,0,0,0,0,0,0,0,0,0,0,0,0,0,0,0,0,0],.int .i64 (0)]
def ams: aA aM 76 agJ agK:=aA.bM 80 rfl rfl b_
def agL: List AV:=[.str [4,0,2,2,97,2,2,2,111,2,0,2,6,60,32,53,2,97]]
def agM: AV:= .bg [.int .i64 (2),.str [0,2,2,97,2,2,2,111,2,0,2,6,60,32,53,2,97],.int .i64 (0)]
def amt: aA aM 76 agL agM:=aA.bM 80 rfl rfl b_
def agN: List AV:=[.str [0,2,2,97,2,2,2,111,2,0,2,6,60,32,53,2,97]]
def agO: AV:= .bg [.int .i64 (0),.str [2,2,97,2,2,2,111,2,0,2,6,60,32,53,2,97],.int .i64 (0)]
def amu: aA aM 76 agN agO:=aA.bM 80 rfl rfl b_
def agP: List AV:=[.str [2,2,97,2,2,2,111,2,0,2,6,60,32,53,2,97]]
def agQ: AV:= .bg [.int .i64 (1),.str [2,97,2,2,2,111,2,0,2,6,60,32,53,2,97],.int .i64 (0)]
def amv: aA aM 76 agP agQ:=aA.bM 80 rfl rfl b_
def agR: List AV:=[.str [2,2,2,111,2,0,2,6,60,32,53,2,97]]
def agS: AV:= .bg [.int .i64 (1),.str [2,2,111,2,0,2,6,60,32,53,2,97],.int .i64 (0)]
def amw: aA aM 76 agR agS:=aA.bM 80 rfl rfl b_
def agT: List AV:=[.str [2,2,111,2,0,2,6,60,32,53,2,97]]
def agU: AV:= .bg [.int .i64 (1),.str [2,111,2,0,2,6,60,32,53,2,97],.int .i64 (0)]
def amx: aA aM 76 agT agU:=aA.bM 80 rfl rfl b_
def agV: List AV:=[.str [2,0,2,6,60,32,53,2,97]]
def agW: AV:= .bg [.int .i64 (1),.str [0,2,6,60,32,53,2,97],.int .i64 (0)]
def amy: aA aM 76 agV agW:=aA.bM 80 rfl rfl b_
def agX: List AV:=[.str [0,2,6,60,32,53,2,97]]
def agY: AV:= .bg [.int .i64 (0),.str [2,6,60,32,53,2,97],.int .i64 (0)]
def amA: aA aM 76 agX agY:=aA.bM 80 rfl rfl b_
def agZ: List AV:=[.str [2,6,60,32,53,2,97]]
def ag0: AV:= .bg [.int .i64 (1),.str [6,60,32,53,2,97],.int .i64 (0)]
def amB: aA aM 76 agZ ag0:=aA.bM 80 rfl rfl b_
def ve: List (List AV × AV):=[(agJ,agK),(agL,agM),(agN,agO),(agP,agQ),(agR,agS),(agT,agU),(agV,agW),(agX,agY),(agZ,ag0)]
def A_: ∀ p ∈ ve,aA aM 76 p.1 p.2:=List.forall_mem_cons.2 ⟨ams,List.forall_mem_cons.2 ⟨amt,List.forall_mem_cons.2 ⟨amu,List.forall_mem_cons.2 ⟨amv,List.forall_mem_cons.2 ⟨amw,List.forall_mem_cons.2 ⟨amx,List.forall_mem_cons.2 ⟨amy,List.forall_mem_cons.2 ⟨amA,List.forall_mem_cons.2 ⟨amB,fun _ h=>by cases h⟩⟩⟩⟩⟩⟩⟩⟩⟩
def ag1: List AV:=[.str [34,110,116,0,0,0,0,0,0,0,0,0,0,0,0,0,0,0,2,2,46,116,116,0,0,0,0,0,0,0,0,0,0,0,0,0,0,0,0,0,0,1,0,0,40,2,116,4,0,2,2,97,2,2,2,111,2,0,2,6,60,32,53,2,97,0,0,0,0,0,0,0,0,0,0,0,0,0,0,0,0,0,0,0,0,0,0,0,0,0,0,0,0,0,0,0,0,0,0,0,0,0,0,0,0,0,0,0,0,0,0,0,0,0,0,0,0,0,0,0,0,0,0,0,0,0,0,0,0,0,0,0,0,0,0,0,0,0,0,0,0,0,0,0,0,0,0,0,0,0,0,0,0,0,0,0,0,0,0,0,0,0,0,0,0,0,0,0,0,0,0,0,0,0,0,0,0,0,0,0,0,0,0,0,0,0,0,0,0,0,0,0,0,0,0,0,0,0,0,0,0,0,0,0,0,0,0,0,0,0,0,0,0,0,0,0,0,0,0,0,0,0,0,0,0,0,0,0,0,0,0,0,0,0,0,0,0,0,0,0,0,0,0,0,0,0,0,0,0,0,0,0,0,0,0,0,0,0,0,0,0,0,0,0,0,0,0,0,0,0,0,0,0,0,0,0,0,0,0,0,0,0,0,0,0,0,0,0,0,0,0,0,0,0,0,0,0,0,0,0,0,0,0,0,0,0,0,0,0,0,0,0,0,0,0,0,0,0,0,0,0,0,0,0,0,0,0,0,0,0,0,0,0,0,0,0,0,0,0,0,0,0,0,0,0,0,0,0,0,0,0,0,0,0,0,0,0,0,0,0,0,0,0,0,0,0,0,0,0,0,0,0,0,0,0,0,0,0,0,0,0,0,0,0,0,0,0,0,0,0,0,0,0,0,0,0,0,0,0,0,0,0,0,0,0,0,0,0,0,0,0,0,0,0,0,0,0,0,0,0,0,0,0,0,0,0,0,0,0,0,0,0,0,0,0,0,0,0,0,0,0,0,0,0,0,0,0,0,0,0,0,0,0,0,0,0,0,0,0,0,0,0,0,0,0,0,0,0,0,0,0,0,0,0,0,0,0,0],.int .i64 (160)]
def ag2: AV:= .bg [.str [110,116,0,0,0,0,0,0,0,0,0,0,0,0,0,0,0],.str [2,2,46,116,116,0,0,0,0,0,0,0,0,0,0,0,0,0,0,0,0,0,0,1,0,0,40,2,116,4,0,2,2,97,2,2,2,111,2,0,2,6,60,32,53,2,97,0,0,0,0,0,0,0,0,0,0,0,0,0,0,0,0,0,0,0,0,0,0,0,0,0,0,0,0,0,0,0,0,0,0,0,0,0,0,0,0,0,0,0,0,0,0,0,0,0,0,0,0,0,0,0,0,0,0,0,0,0,0,0,0,0,0,0,0,0,0,0,0,0,0,0,0,0,0,0,0,0,0,0,0,0,0,0,0,0,0,0,0,0,0,0,0,0,0,0,0,0,0,0,0,0,0,0,0,0,0,0,0,0,0,0,0,0,0,0,0,0,0,0,0,0,0,0,0,0,0,0,0,0,0,0,0,0,0,0,0,0,0,0,0,0,0,0,0,0,0,0,0,0,0,0,0,0,0,0,0,0,0,0,0,0,0,0,0,0,0,0,0,0,0,0,0,0,0,0,0,0,0,0,0,0,0,0,0,0,0,0,0,0,0,0,0,0,0,0,0,0,0,0,0,0,0,0,0,0,0,0,0,0,0,0,0,0,0,0,0,0,0,0,0,0,0,0,0,0,0,0,0,0,0,0,0,0,0,0,0,0,0,0,0,0,0,0,0,0,0,0,0,0,0,0,0,0,0,0,0,0,0,0,0,0,0,0,0,0,0,0,0,0,0,0,0,0,0,0,0,0,0,0,0,0,0,0,0,0,0,0,0,0,0,0,0,0,0,0,0,0,0,0,0,0,0,0,0,0,0,0,0,0,0,0,0,0,0,0,0,0,0,0,0,0,0,0,0,0,0,0,0,0,0,0,0,0,0,0,0,0,0,0,0,0,0,0,0,0,0,0,0,0,0,0,0,0,0,0,0,0,0,0,0,0,0,0,0,0,0,0,0,0,0,0,0,0,0,0,0,0,0,0,0,0,0,0,0,0,0,0,0,0,0,0,0,0,0,0,0,0,0,0,0,0,0,0,0,0,0,0,0,0],.int .i64 (0)]
def amC: aA aM 77 ag1 ag2:=aA.bM 80 rfl rfl b_
def ag3: List AV:=[.str [2,2,46,116,116,0,0,0,0,0,0,0,0,0,0,0,0,0,0,0,0,0,0,1,0,0,40,2,116,4,0,2,2,97,2,2,2,111,2,0,2,6,60,32,53,2,97,0,0,0,0,0,0,0,0,0,0,0,0,0,0,0,0,0,0,0,0,0,0,0,0,0,0,0,0,0,0,0,0,0,0,0,0,0,0,0,0,0,0,0,0,0,0,0,0,0,0,0,0,0,0,0,0,0,0,0,0,0,0,0,0,0,0,0,0,0,0,0,0,0,0,0,0,0,0,0,0,0,0,0,0,0,0,0,0,0,0,0,0,0,0,0,0,0,0,0,0,0,0,0,0,0,0,0,0,0,0,0,0,0,0,0,0,0,0,0,0,0,0,0,0,0,0,0,0,0,0,0,0,0,0,0,0,0,0,0,0,0,0,0,0,0,0,0,0,0,0,0,0,0,0,0,0,0,0,0,0,0,0,0,0,0,0,0,0,0,0,0,0,0,0,0,0,0,0,0,0,0,0,0,0,0,0,0,0,0,0,0,0,0,0,0,0,0,0,0,0,0,0,0,0,0,0,0,0,0,0,0,0,0,0,0,0,0,0,0,0,0,0,0,0,0,0,0,0,0,0,0,0,0,0,0,0,0,0,0,0,0,0,0,0,0,0,0,0,0,0,0,0,0,0,0,0,0,0,0,0,0,0,0,0,0,0,0,0,0,0,0,0,0,0,0,0,0,0,0,0,0,0,0,0,0,0,0,0,0,0,0,0,0,0,0,0,0,0,0,0,0,0,0,0,0,0,0,0,0,0,0,0,0,0,0,0,0,0,0,0,0,0,0,0,0,0,0,0,0,0,0,0,0,0,0,0,0,0,0,0,0,0,0,0,0,0,0,0,0,0,0,0,0,0,0,0,0,0,0,0,0,0,0,0,0,0,0,0,0,0,0,0,0,0,0,0,0,0,0,0,0,0,0,0,0,0,0,0,0,0,0,0,0,0,0,0,0,0,0,0,0,0,0,0,0,0,0,0,0,0,0,0,0],.int .i64 (160)]
def ag4: AV:= .bg [.str [2],.str [46,116,116,0,0,0,0,0,0,0,0,0,0,0,0,0,0,0,0,0,0,1,0,0,40,2,116,4,0,2,2,97,2,2,2,111,2,0,2,6,60,32,53,2,97,0,0,0,0,0,0,0,0,0,0,0,0,0,0,0,0,0,0,0,0,0,0,0,0,0,0,0,0,0,0,0,0,0,0,0,0,0,0,0,0,0,0,0,0,0,0,0,0,0,0,0,0,0,0,0,0,0,0,0,0,0,0,0,0,0,0,0,0,0,0,0,0,0,0,0,0,0,0,0,0,0,0,0,0,0,0,0,0,0,0,0,0,0,0,0,0,0,0,0,0,0,0,0,0,0,0,0,0,0,0,0,0,0,0,0,0,0,0,0,0,0,0,0,0,0,0,0,0,0,0,0,0,0,0,0,0,0,0,0,0,0,0,0,0,0,0,0,0,0,0,0,0,0,0,0,0,0,0,0,0,0,0,0,0,0,0,0,0,0,0,0,0,0,0,0,0,0,0,0,0,0,0,0,0,0,0,0,0,0,0,0,0,0,0,0,0,0,0,0,0,0,0,0,0,0,0,0,0,0,0,0,0,0,0,0,0,0,0,0,0,0,0,0,0,0,0,0,0,0,0,0,0,0,0,0,0,0,0,0,0,0,0,0,0,0,0,0,0,0,0,0,0,0,0,0,0,0,0,0,0,0,0,0,0,0,0,0,0,0,0,0,0,0,0,0,0,0,0,0,0,0,0,0,0,0,0,0,0,0,0,0,0,0,0,0,0,0,0,0,0,0,0,0,0,0,0,0,0,0,0,0,0,0,0,0,0,0,0,0,0,0,0,0,0,0,0,0,0,0,0,0,0,0,0,0,0,0,0,0,0,0,0,0,0,0,0,0,0,0,0,0,0,0,0,0,0,0,0,0,0,0,0,0,0,0,0,0,0,0,0,0,0,0,0,0,0,0,0,0,0,0,0,0,0,0,0,0,0,0,0,0,0,0,0,0,0,0,0,0,0,0,0,0,0,0,0,0,0,0,0,0,0,0],.int .i64 (0)]
def amD: aA aM 77 ag3 ag4:=aA.bM 80 rfl rfl b_
def ag5: List AV:=[.str [46,116,116,0,0,0,0,0,0,0,0,0,0,0,0,0,0,0,0,0,0,1,0,0,40,2,116,4,0,2,2,97,2,2,2,111,2,0,2,6,60,32,53,2,97,0,0,0,0,0,0,0,0,0,0,0,0,0,0,0,0,0,0,0,0,0,0,0,0,0,0,0,0,0,0,0,0,0,0,0,0,0,0,0,0,0,0,0,0,0,0,0,0,0,0,0,0,0,0,0,0,0,0,0,0,0,0,0,0,0,0,0,0,0,0,0,0,0,0,0,0,0,0,0,0,0,0,0,0,0,0,0,0,0,0,0,0,0,0,0,0,0,0,0,0,0,0,0,0,0,0,0,0,0,0,0,0,0,0,0,0,0,0,0,0,0,0,0,0,0,0,0,0,0,0,0,0,0,0,0,0,0,0,0,0,0,0,0,0,0,0,0,0,0,0,0,0,0,0,0,0,0,0,0,0,0,0,0,0,0,0,0,0,0,0,0,0,0,0,0,0,0,0,0,0,0,0,0,0,0,0,0,0,0,0,0,0,0,0,0,0,0,0,0,0,0,0,0,0,0,0,0,0,0,0,0,0,0,0,0,0,0,0,0,0,0,0,0,0,0,0,0,0,0,0,0,0,0,0,0,0,0,0,0,0,0,0,0,0,0,0,0,0,0,0,0,0,0,0,0,0,0,0,0,0,0,0,0,0,0,0,0,0,0,0,0,0,0,0,0,0,0,0,0,0,0,0,0,0,0,0,0,0,0,0,0,0,0,0,0,0,0,0,0,0,0,0,0,0,0,0,0,0,0,0,0,0,0,0,0,0,0,0,0,0,0,0,0,0,0,0,0,0,0,0,0,0,0,0,0,0,0,0,0,0,0,0,0,0,0,0,0,0,0,0,0,0,0,0,0,0,0,0,0,0,0,0,0,0,0,0,0,0,0,0,0,0,0,0,0,0,0,0,0,0,0,0,0,0,0,0,0,0,0,0,0,0,0,0,0,0,0,0,0,0,0,0,0,0,0,0,0,0,0,0,0,0,0],.int .i64 (160)]
def ag6: AV:= .bg [.str [116,116,0,0,0,0,0,0,0,0,0,0,0,0,0,0,0,0,0,0,1,0,0],.str [40,2,116,4,0,2,2,97,2,2,2,111,2,0,2,6,60,32,53,2,97,0,0,0,0,0,0,0,0,0,0,0,0,0,0,0,0,0,0,0,0,0,0,0,0,0,0,0,0,0,0,0,0,0,0,0,0,0,0,0,0,0,0,0,0,0,0,0,0,0,0,0,0,0,0,0,0,0,0,0,0,0,0,0,0,0,0,0,0,0,0,0,0,0,0,0,0,0,0,0,0,0,0,0,0,0,0,0,0,0,0,0,0,0,0,0,0,0,0,0,0,0,0,0,0,0,0,0,0,0,0,0,0,0,0,0,0,0,0,0,0,0,0,0,0,0,0,0,0,0,0,0,0,0,0,0,0,0,0,0,0,0,0,0,0,0,0,0,0,0,0,0,0,0,0,0,0,0,0,0,0,0,0,0,0,0,0,0,0,0,0,0,0,0,0,0,0,0,0,0,0,0,0,0,0,0,0,0,0,0,0,0,0,0,0,0,0,0,0,0,0,0,0,0,0,0,0,0,0,0,0,0,0,0,0,0,0,0,0,0,0,0,0,0,0,0,0,0,0,0,0,0,0,0,0,0,0,0,0,0,0,0,0,0,0,0,0,0,0,0,0,0,0,0,0,0,0,0,0,0,0,0,0,0,0,0,0,0,0,0,0,0,0,0,0,0,0,0,0,0,0,0,0,0,0,0,0,0,0,0,0,0,0,0,0,0,0,0,0,0,0,0,0,0,0,0,0,0,0,0,0,0,0,0,0,0,0,0,0,0,0,0,0,0,0,0,0,0,0,0,0,0,0,0,0,0,0,0,0,0,0,0,0,0,0,0,0,0,0,0,0,0,0,0,0,0,0,0,0,0,0,0,0,0,0,0,0,0,0,0,0,0,0,0,0,0,0,0,0,0,0,0,0,0,0,0,0,0,0,0,0,0,0,0,0,0,0,0,0,0,0,0,0,0,0,0,0,0,0,0,0,0,0,0],.int .i64 (0)]
def amE: aA aM 77 ag5 ag6:=aA.bM 80 rfl rfl b_
def ag7: List AV:=[.str [40,2,116,4,0,2,2,97,2,2,2,111,2,0,2,6,60,32,53,2,97,0,0,0,0,0,0,0,0,0,0,0,0,0,0,0,0,0,0,0,0,0,0,0,0,0,0,0,0,0,0,0,0,0,0,0,0,0,0,0,0,0,0,0,0,0,0,0,0,0,0,0,0,0,0,0,0,0,0,0,0,0,0,0,0,0,0,0,0,0,0,0,0,0,0,0,0,0,0,0,0,0,0,0,0,0,0,0,0,0,0,0,0,0,0,0,0,0,0,0,0,0,0,0,0,0,0,0,0,0,0,0,0,0,0,0,0,0,0,0,0,0,0,0,0,0,0,0,0,0,0,0,0,0,0,0,0,0,0,0,0,0,0,0,0,0,0,0,0,0,0,0,0,0,0,0,0,0,0,0,0,0,0,0,0,0,0,0,0,0,0,0,0,0,0,0,0,0,0,0,0,0,0,0,0,0,0,0,0,0,0,0,0,0,0,0,0,0,0,0,0,0,0,0,0,0,0,0,0,0,0,0,0,0,0,0,0,0,0,0,0,0,0,0,0,0,0,0,0,0,0,0,0,0,0,0,0,0,0,0,0,0,0,0,0,0,0,0,0,0,0,0,0,0,0,0,0,0,0,0,0,0,0,0,0,0,0,0,0,0,0,0,0,0,0,0,0,0,0,0,0,0,0,0,0,0,0,0,0,0,0,0,0,0,0,0,0,0,0,0,0,0,0,0,0,0,0,0,0,0,0,0,0,0,0,0,0,0,0,0,0,0,0,0,0,0,0,0,0,0,0,0,0,0,0,0,0,0,0,0,0,0,0,0,0,0,0,0,0,0,0,0,0,0,0,0,0,0,0,0,0,0,0,0,0,0,0,0,0,0,0,0,0,0,0,0,0,0,0,0,0,0,0,0,0,0,0,0,0,0,0,0,0,0,0,0,0,0,0,0,0,0,0,0,0,0,0,0,0,0,0,0,0,0],.int .i64 (160)]
def ag8: AV:= .bg [.str [2,116,4,0,2,2,97,2,2,2,111,2,0,2,6,60,32,53,2,97],.str (List.replicate 413 0),.int .i64 (0)]
def amF: aA aM 77 ag7 ag8:=aA.bM 80 rfl rfl b_
def ag9: List AV:=[.str [2,116,4,0,2,2,97,2,2,2,111,2,0,2,6,60,32,53,2,97],.int .i64 (1400)]
def ag_: AV:= .bg [.str [116],.str [4,0,2,2,97,2,2,2,111,2,0,2,6,60,32,53,2,97],.int .i64 (0)]
def amG: aA aM 77 ag9 ag_:=aA.bM 80 rfl rfl b_
def aha: List AV:=[.str [2,97,2,2,2,111,2,0,2,6,60,32,53,2,97],.int .i64 (1400)]
def ahb: AV:= .bg [.str [97],.str [2,2,2,111,2,0,2,6,60,32,53,2,97],.int .i64 (0)]
def amH: aA aM 77 aha ahb:=aA.bM 80 rfl rfl b_
def ahc: List AV:=[.str [2,111,2,0,2,6,60,32,53,2,97],.int .i64 (1400)]
def ahd: AV:= .bg [.str [111],.str [2,0,2,6,60,32,53,2,97],.int .i64 (0)]
def amI: aA aM 77 ahc ahd:=aA.bM 80 rfl rfl b_
def ahe: List AV:=[.str [6,60,32,53,2,97],.int .i64 (1400)]
def ahf: AV:= .bg [.str [60,32,53],.str [2,97],.int .i64 (0)]
def amJ: aA aM 77 ahe ahf:=aA.bM 80 rfl rfl b_
def ahg: List AV:=[.str [2,97],.int .i64 (1400)]
def ahh: AV:= .bg [.str [97],.str [],.int .i64 (0)]
def amK: aA aM 77 ahg ahh:=aA.bM 80 rfl rfl b_
def td: List (List AV × AV):=[(ag1,ag2),(ag3,ag4),(ag5,ag6),(ag7,ag8),(ag9,ag_),(aha,ahb),(ahc,ahd),(ahe,ahf),(ahg,ahh)]
def zW: ∀ p ∈ td,aA aM 77 p.1 p.2:=List.forall_mem_cons.2 ⟨amC,List.forall_mem_cons.2 ⟨amD,List.forall_mem_cons.2 ⟨amE,List.forall_mem_cons.2 ⟨amF,List.forall_mem_cons.2 ⟨amG,List.forall_mem_cons.2 ⟨amH,List.forall_mem_cons.2 ⟨amI,List.forall_mem_cons.2 ⟨amJ,List.forall_mem_cons.2 ⟨amK,fun _ h=>by cases h⟩⟩⟩⟩⟩⟩⟩⟩⟩
def ahi: List AV:=[.str [116]]
def ahj: AV:= .str [2,116]
def amL: aA aM 116 ahi ahj:=aA.bM 80 rfl rfl b_
def ahk: List AV:=[.str [97]]
def ahl: AV:= .str [2,97]
def amM: aA aM 116 ahk ahl:=aA.bM 80 rfl rfl b_
def ahm: List AV:=[.str [111]]
def ahn: AV:= .str [2,111]
def amN: aA aM 116 ahm ahn:=aA.bM 80 rfl rfl b_
def aho: List AV:=[.str [110,116,0,0,0,0,0,0,0,0,0,0,0,0,0,0,0]]
def ahp: AV:= .str [34,110,116,0,0,0,0,0,0,0,0,0,0,0,0,0,0,0]
def amO: aA aM 116 aho ahp:=aA.bM 80 rfl rfl b_
def ahq: List AV:=[.str [2]]
def ahr: AV:= .str [2,2]
def amP: aA aM 116 ahq ahr:=aA.bM 80 rfl rfl b_
def ahs: List AV:=[.str [116,116,0,0,0,0,0,0,0,0,0,0,0,0,0,0,0,0,0,0,1,0,0]]
def aht: AV:= .str [46,116,116,0,0,0,0,0,0,0,0,0,0,0,0,0,0,0,0,0,0,1,0,0]
def amQ: aA aM 116 ahs aht:=aA.bM 80 rfl rfl b_
def ahu: List AV:=[.str [2,116,4,0,2,2,97,2,2,2,111,2,0,2,6,60,32,53,2,97]]
def ahv: AV:= .str [40,2,116,4,0,2,2,97,2,2,2,111,2,0,2,6,60,32,53,2,97]
def amR: aA aM 116 ahu ahv:=aA.bM 80 rfl rfl b_
def zm: List (List AV × AV):=[(ahi,ahj),(ahk,ahl),(ahm,ahn),(aho,ahp),(ahq,ahr),(ahs,aht),(ahu,ahv)]
def Ft: ∀ p ∈ zm,aA aM 116 p.1 p.2:=List.forall_mem_cons.2 ⟨amL,List.forall_mem_cons.2 ⟨amM,List.forall_mem_cons.2 ⟨amN,List.forall_mem_cons.2 ⟨amO,List.forall_mem_cons.2 ⟨amP,List.forall_mem_cons.2 ⟨amQ,List.forall_mem_cons.2 ⟨amR,fun _ h=>by cases h⟩⟩⟩⟩⟩⟩⟩
def ahw: List AV:=[.str (List.replicate 512 0)]
def ahx: AV:= .bg [.int .i64 (0),.int .i64 (0)]
def amS: aA aM 408 ahw ahx:=aA.bM 80 rfl rfl b_
def yb: List (List AV × AV):=[(ahw,ahx)]
def Dd: ∀ p ∈ yb,aA aM 408 p.1 p.2:=List.forall_mem_cons.2 ⟨amS,fun _ h=>by cases h⟩
def ahy: List AV:=[.int .i64 (1),.str [0,0,0]]
def ahz: AV:= .bg [.str [0,0,0,0,0,0,0,1,0,3,0,0,0,0,0,0,0,0,0,0,0,0,0,0,0,0,0,0,0,0,0,0,0,0,0,0,0,0,0,0,0,0,0,0,0,0,0,0,0,0,0,0,0,0,0,0,0,0,0,0,0,0,0,0,0,0,0,0,0,0,0,0,0,0,0,0,0,0,0,0,0,0,0,0,0,0,0,0,0,0,0,0,0,0,0,0,0,0,0,0,0,0,0,0,0,0,0,0,0,0,0,0,0,0,0,0,0,0,0,0,0,0,0,0,0,0,0,0,0,0,0,0,0,0,0,0,0,0,0,0,0,0,0,0,0,0,0,0,0,0,0,0,0,0,0,0,0,0,0,0,0,0,0,0,0,0,0,0,0,0,0,0,0,0,0,0,0,0,0,0,0,0,0,0,0,0,0,0,0,0,0,0,0,0,0,0,0,0,0,0,0,0,0,0,0,0,0,0,0,0,0,0,0,0,0,0,0,0,0,0,0,0,0,0,0,0,0,0,0,0,0,0,0,0,0,0,0,0,0,0,0,0,0,0,0,0,0,0,0,0,0,0,0,0,0,0,0,0,0,0,0,0,0,1,0,0,0,0,0,0,0,0,0,0,0,0,0,0,0,0,0,0,0,0,0,0,0,0,0,0,0,0,0,0,0,0,0,0,0,0,0,0,0,0,0,0,0,0,0,0,0,0,0,0,0,0,0,0,0,0,0,0,0,0,0,0,0,0,0,0,0,0,0,0,0,0,0,0,0,0,0,0,0,0,0,0,0,0,0,0,0,0,0,0,0,0,0,0,0,0,0,0,0,0,0,0,0,0,0,0,0,0,0,0,0,0,0,0,0,0,0,0,0,0,0,0,0,0,0,0,0,0,0,0,0,0,0,0,0,0,0,0,0,0,0,0,0,0,0,0,0,0,0,0,0,0,0,0,0,0,0,0,0,0,0,0,0,0,0,0,0,0,0,0,0,0,0,0,0,0,0,0,0,0,0,0,0,0,0,0,0,0,0,0,0,0,0,0,0,0,0,0,0,0,0,0,0,0,0,0,0,0,0,0,0,0,0,0,0,0,0,0,0,0,0,0,0,0,0,0,0,0,0,0,0,0,0,0,0,0,0,0,0,0,0,0,0,0,209,235,174,185],.int .i64 (0)]
def amT: aA aM 310 ahy ahz:=aA.bM 80 rfl rfl b_
def ahA: List AV:=[.int .i64 (1),.str [0,0,0,1,1,4,34,110,116,0,0,0,0,0,0,0,0,0,0,0,0,0,0,0,2,2,46,116,116,0,0,0,0,0,0,0,0,0,0,0,0,0,0,0,0,0,0,1,0,0,40,2,116,4,0,2,2,97,2,2,2,111,2,0,2,6,60,32,53,2,97,0,0,0,0,0,0,0,0,0,0,0,0,0,0,0,0,0,0,0,0,0,0,0,0,0,0,0,0,0,0,0,0,0,0,0,0,0,0,0,0,0,0,0,0,0,0,0,0,0,0,0,0,0,0,0,0,0,0,0,0,0,0,0,0,0,0,0,0,0,0,0,0,0,0,0,0,0,0,0,0,0,0,0,0,0,0,0,0,0,0,0,0,0,0,0,0,0,0,0,0,0,0,0,0,0,0,0,0,0,0,0,0,0,0,0,0,0,0,0,0,0,0,0,0,0,0,0,0,0,0,0,0,0,0,0,0,0,0,0,0,0,0,0,0,0,0,0,0,0,0,0,0,0,0,0,0,0,0,0,0,0,0,0,0,0,0,0,0,0,0,0,0,0,0,0,0,0,0,0,0,0,0,0,0,0,0,0,0,0,0,0,0,0,0,0,0,0,0,0,0,0,0,0,0,0,0,0,0,0,0,0,0,0,0,0,0,0,0,0,0,0,0,0,0,0,0,0,0,0,0,0,0,0,0,0,0,0,0,0,0,0,0,0,0,0,0,0,0,0,0,0,0,0,0,0,0,0,0,0,0,0,0,0,0,0,0,0,0,0,0,0,0,0,0,0,0,0,0,0,0,0,0,0,0,0,0,0,0,0,0,0,0,0,0,0,0,0,0,0,0,0,0,0,0,0,0,0,0,0,0,0,0,0,0,0,0,0,0,0,0,0,0,0,0,0,0,0,0,0,0,0,0,0,0,0,0,0,0,0,0,0,0,0,0,0,0,0,0,0,0,0,0,0,0,0,0,0,0,0,0,0,0,0,0,0,0,0,0,0,0,0,0,0,0,0,0,0,0,0,0,0,0,0,0,0,0,0,0,0,0,0,0,0,0,0,0,0,0,0,0,0,0,0,0,0,0,0,0,0,0,0,0,0]]
def ahB: AV:= .bg [.str [0,0,0,0,0,0,0,1,1,228,0,0,0,1,1,4,34,110,116,0,0,0,0,0,0,0,0,0,0,0,0,0,0,0,2,2,46,116,116,0,0,0,0,0,0,0,0,0,0,0,0,0,0,0,0,0,0,1,0,0,40,2,116,4,0,2,2,97,2,2,2,111,2,0,2,6,60,32,53,2,97,0,0,0,0,0,0,0,0,0,0,0,0,0,0,0,0,0,0,0,0,0,0,0,0,0,0,0,0,0,0,0,0,0,0,0,0,0,0,0,0,0,0,0,0,0,0,0,0,0,0,0,0,0,0,0,0,0,0,0,0,0,0,0,0,0,0,0,0,0,0,0,0,0,0,0,0,0,0,0,0,0,0,0,0,0,0,0,0,0,0,0,0,0,0,0,0,0,0,0,0,0,0,0,0,0,0,0,0,0,0,0,0,0,0,0,0,0,0,0,0,0,0,0,0,0,0,0,0,0,0,0,0,0,0,0,0,0,0,0,0,0,0,0,0,0,0,0,0,0,0,0,0,0,0,0,0,0,0,0,0,0,0,0,0,0,0,0,0,0,0,0,0,0,0,0,0,0,0,0,0,0,0,1,0,0,0,0,0,0,0,0,0,0,0,0,0,0,0,0,0,0,0,0,0,0,0,0,0,0,0,0,0,0,0,0,0,0,0,0,0,0,0,0,0,0,0,0,0,0,0,0,0,0,0,0,0,0,0,0,0,0,0,0,0,0,0,0,0,0,0,0,0,0,0,0,0,0,0,0,0,0,0,0,0,0,0,0,0,0,0,0,0,0,0,0,0,0,0,0,0,0,0,0,0,0,0,0,0,0,0,0,0,0,0,0,0,0,0,0,0,0,0,0,0,0,0,0,0,0,0,0,0,0,0,0,0,0,0,0,0,0,0,0,0,0,0,0,0,0,0,0,0,0,0,0,0,0,0,0,0,0,0,0,0,0,0,0,0,0,0,0,0,0,0,0,0,0,0,0,0,0,0,0,0,0,0,0,0,0,0,0,0,0,0,0,0,0,0,0,0,0,0,0,0,0,0,0,0,0,0,0,0,0,0,0,0,0,0,0,0,0,0,0,0,0,0,0,0,0,0,0,0,0,0,0,0,0,0,0,0,0,0,0,0,0,0,0,156,219,56,85],.int .i64 (0)]
def amU: aA aM 310 ahA ahB:=aA.bM 80 rfl rfl b_
def ahC: List AV:=[.int .i64 (2),.str [0,0,0,0,0,0,0,1]]
def ahD: AV:= .bg [.str [0,0,0,0,0,0,0,2,0,8,0,0,0,0,0,0,0,1,0,0,0,0,0,0,0,0,0,0,0,0,0,0,0,0,0,0,0,0,0,0,0,0,0,0,0,0,0,0,0,0,0,0,0,0,0,0,0,0,0,0,0,0,0,0,0,0,0,0,0,0,0,0,0,0,0,0,0,0,0,0,0,0,0,0,0,0,0,0,0,0,0,0,0,0,0,0,0,0,0,0,0,0,0,0,0,0,0,0,0,0,0,0,0,0,0,0,0,0,0,0,0,0,0,0,0,0,0,0,0,0,0,0,0,0,0,0,0,0,0,0,0,0,0,0,0,0,0,0,0,0,0,0,0,0,0,0,0,0,0,0,0,0,0,0,0,0,0,0,0,0,0,0,0,0,0,0,0,0,0,0,0,0,0,0,0,0,0,0,0,0,0,0,0,0,0,0,0,0,0,0,0,0,0,0,0,0,0,0,0,0,0,0,0,0,0,0,0,0,0,0,0,0,0,0,0,0,0,0,0,0,0,0,0,0,0,0,0,0,0,0,0,0,0,0,0,0,0,0,0,0,0,0,0,0,0,0,0,0,0,0,0,0,0,2,0,0,0,0,0,0,0,0,0,0,0,0,0,0,0,0,0,0,0,0,0,0,0,0,0,0,0,0,0,0,0,0,0,0,0,0,0,0,0,0,0,0,0,0,0,0,0,0,0,0,0,0,0,0,0,0,0,0,0,0,0,0,0,0,0,0,0,0,0,0,0,0,0,0,0,0,0,0,0,0,0,0,0,0,0,0,0,0,0,0,0,0,0,0,0,0,0,0,0,0,0,0,0,0,0,0,0,0,0,0,0,0,0,0,0,0,0,0,0,0,0,0,0,0,0,0,0,0,0,0,0,0,0,0,0,0,0,0,0,0,0,0,0,0,0,0,0,0,0,0,0,0,0,0,0,0,0,0,0,0,0,0,0,0,0,0,0,0,0,0,0,0,0,0,0,0,0,0,0,0,0,0,0,0,0,0,0,0,0,0,0,0,0,0,0,0,0,0,0,0,0,0,0,0,0,0,0,0,0,0,0,0,0,0,0,0,0,0,0,0,0,0,0,0,0,0,0,0,0,0,0,0,0,0,0,0,0,0,0,0,0,0,0,0,30,58,102,219],.int .i64 (0)]
def amV: aA aM 310 ahC ahD:=aA.bM 80 rfl rfl b_
def CZ: List (List AV × AV):=[(ahy,ahz),(ahA,ahB),(ahC,ahD)]
def Ih: ∀ p ∈ CZ,aA aM 310 p.1 p.2:=List.forall_mem_cons.2 ⟨amT,List.forall_mem_cons.2 ⟨amU,List.forall_mem_cons.2 ⟨amV,fun _ h=>by cases h⟩⟩⟩
def ahE: List AV:=[.agg [.int .i64 (2),.int .i64 (0),.int .i64 (0),.str [],.str [97],.aP]]
def ahF: AV:= .int .i64 (0)
def amW: aA aM 399 ahE ahF:=aA.bM 80 rfl rfl b_
def vU: List (List AV × AV):=[(ahE,ahF)]
def Co: ∀ p ∈ vU,aA aM 399 p.1 p.2:=List.forall_mem_cons.2 ⟨amW,fun _ h=>by cases h⟩
def ahG: List AV:=[.str [97]]
def ahH: AV:= .bg [.agg [.int .i64 (2),.int .i64 (0),.int .i64 (0),.str [],.str [97],.aP],.int .i64 (0),.int .i64 (0)]
def amX: aA aM 347 ahG ahH:=aA.bM 80 rfl rfl b_
def vV: List (List AV × AV):=[(ahG,ahH)]
def Cp: ∀ p ∈ vV,aA aM 347 p.1 p.2:=List.forall_mem_cons.2 ⟨amX,fun _ h=>by cases h⟩
def ahI: List AV:=[.aH false ⟨true,4⟩ [.agg [.int .i64 (4),.str [60],.int .i64 (0),.int .i64 (0)],.agg [.int .i64 (2),.str [],.int .i64 (5),.int .i64 (2)]],.int .i64 (1),.int .i64 (4)]
def ahJ: AV:= .bg [.agg [.int .i64 (1),.int .i64 (1),.int .i64 (5),.str [],.str [],.aP],.int .i64 (2),.int .i64 (0)]
def amY: aA aM 398 ahI ahJ:=aA.bM 80 rfl rfl b_
def ahK: List AV:=[.aH false ⟨true,4⟩ [.agg [.int .i64 (4),.str [60],.int .i64 (0),.int .i64 (0)],.agg [.int .i64 (2),.str [],.int .i64 (5),.int .i64 (1)]],.int .i64 (1),.int .i64 (4)]
def ahL: AV:= .bg [.agg [.int .i64 (1),.int .i64 (1),.int .i64 (5),.str [],.str [],.aP],.int .i64 (2),.int .i64 (0)]
def amZ: aA aM 398 ahK ahL:=aA.bM 80 rfl rfl b_
def yc: List (List AV × AV):=[(ahI,ahJ),(ahK,ahL)]
def De: ∀ p ∈ yc,aA aM 398 p.1 p.2:=List.forall_mem_cons.2 ⟨amY,List.forall_mem_cons.2 ⟨amZ,fun _ h=>by cases h⟩⟩
def ahM: List AV:=[.agg [.int .i64 (2),.int .i64 (0),.int .i64 (0),.str [],.str [97],.aP]]
def ahN: AV:= .bg [.str [97],.int .i64 (0)]
def am0: aA aM 114 ahM ahN:=aA.bM 80 rfl rfl b_
def yd: List (List AV × AV):=[(ahM,ahN)]
def Df: ∀ p ∈ yd,aA aM 114 p.1 p.2:=List.forall_mem_cons.2 ⟨am0,fun _ h=>by cases h⟩
def ahO: List AV:=[.aH false ⟨false,1⟩ [.str [60,32,53]]]
def ahP: AV:= .str [6,60,32,53]
def am1: aA aM 120 ahO ahP:=aA.bM 80 rfl rfl b_
def ahQ: List AV:=[.aH false ⟨false,1⟩ [.str [97]]]
def ahR: AV:= .str [2,97]
def am2: aA aM 120 ahQ ahR:=aA.bM 80 rfl rfl b_
def vW: List (List AV × AV):=[(ahO,ahP),(ahQ,ahR)]
def Cq: ∀ p ∈ vW,aA aM 120 p.1 p.2:=List.forall_mem_cons.2 ⟨am1,List.forall_mem_cons.2 ⟨am2,fun _ h=>by cases h⟩⟩
def ahS: List AV:=[.agg [.int .i64 (2),.int .i64 (0),.int .i64 (0),.str [],.str [97],.aP],.aH true ⟨true,3⟩ [.agg [.str [97],.int .i64 (1),.aP]]]
def ahT: AV:= .bg [.int .i64 (1),.int .i64 (0)]
def am3: aA aM 348 ahS ahT:=aA.bM 80 rfl rfl b_
def ye: List (List AV × AV):=[(ahS,ahT)]
def Dg: ∀ p ∈ ye,aA aM 348 p.1 p.2:=List.forall_mem_cons.2 ⟨am3,fun _ h=>by cases h⟩
def ahU: List AV:=[.str (List.replicate 476 0),.str [0]]
def ahV: AV:= .str []
def am4: aA aM 289 ahU ahV:=aA.bM 80 rfl rfl b_
def vX: List (List AV × AV):=[(ahU,ahV)]
def Cr: ∀ p ∈ vX,aA aM 289 p.1 p.2:=List.forall_mem_cons.2 ⟨am4,fun _ h=>by cases h⟩
noncomputable def ahW (n:FuncId):Option B.pY:=iZ n 289 (some (B.er vX))<| iZ n 348 (some (B.er ye))<| iZ n 120 (some (B.er vW))<| iZ n 114 (some (B.er yd))<| iZ n 398 (some (B.er yc))<| iZ n 347 (some (B.er vV))<| iZ n 399 (some (B.er vU))<| iZ n 310 (some (B.er CZ))<| iZ n 408 (some (B.er yb))<| iZ n 116 (some (B.er zm))<| iZ n 77 (some (B.er td))<| iZ n 76 (some (B.er ve))<| iZ n 146 (some (B.er zl))<| iZ n 55 (some (B.er A9))<| iZ n 56 (some (B.er ya))<| iZ n 293 (some (B.er A8))<| iZ n 133 (some (B.er CY))<| iZ n 73 (some (B.er A7))<| iZ n 432 (some (B.er CX))<| iZ n 45 (some (B.er CW))<| iZ n 364 (some (B.er x9))<| iZ n 267 (some (B.er x8))<| iZ n 189 (some (B.er qW))<| iZ n 180 (some (B.er vT))<| iZ n 264 (some (B.er s_))<| iZ n 164 (some (B.er x7))<| iZ n 44 (some (B.er zk))<| iZ n 251 (some (B.er zj))<| iZ n 247 (some (B.er x6))<| iZ n 93 (some (B.er zi))<| iZ n 249 (some (B.er zh))<| iZ n 94 (some (B.er zg))<| iZ n 329 (some (B.er ze))<| iZ n 248 (some (B.er x5))<| iZ n 385 (some (B.er A6))<| iZ n 183 (some (B.er A5))<| iZ n 346 (some (B.er zd))<| iZ n 269 (some (B.er vS))<| iZ n 50 (some (B.er sS))<| iZ n 20 (some (B.er x4))<| iZ n 362 (some (B.er rT))<| iZ n 361 (some (B.er sR))<| Vl n
def ac5: B.NW Tryz.prog ahW:=by
 intro n f h V args s K y hk;rcases bX h with⟨rfl,h⟩|h
 ·cases h;exact B.cH Cr args s K y hk
 rcases bX h with⟨rfl,h⟩|h
 ·cases h;exact B.cH Dg args s K y hk
 rcases bX h with⟨rfl,h⟩|h
 ·cases h;exact B.cH Cq args s K y hk
 rcases bX h with⟨rfl,h⟩|h
 ·cases h;exact B.cH Df args s K y hk
 rcases bX h with⟨rfl,h⟩|h
 ·cases h;exact B.cH De args s K y hk
 rcases bX h with⟨rfl,h⟩|h
 ·cases h;exact B.cH Cp args s K y hk
 rcases bX h with⟨rfl,h⟩|h
 ·cases h;exact B.cH Co args s K y hk
 rcases bX h with⟨rfl,h⟩|h
 ·cases h;exact B.cH Ih args s K y hk
 rcases bX h with⟨rfl,h⟩|h
 ·cases h;exact B.cH Dd args s K y hk
 rcases bX h with⟨rfl,h⟩|h
 ·cases h;exact B.cH Ft args s K y hk
 rcases bX h with⟨rfl,h⟩|h
 ·cases h;exact B.cH zW args s K y hk
 rcases bX h with⟨rfl,h⟩|h
 ·cases h;exact B.cH A_ args s K y hk
 rcases bX h with⟨rfl,h⟩|h
 ·cases h;exact B.cH Fs args s K y hk
 rcases bX h with⟨rfl,h⟩|h
 ·cases h;exact B.cH Gn args s K y hk
 rcases bX h with⟨rfl,h⟩|h
 ·cases h;exact B.cH Dc args s K y hk
 rcases bX h with⟨rfl,h⟩|h
 ·cases h;exact B.cH Gm args s K y hk
 rcases bX h with⟨rfl,h⟩|h
 ·cases h;exact B.cH Ig args s K y hk
 rcases bX h with⟨rfl,h⟩|h
 ·cases h;exact B.cH Gl args s K y hk
 rcases bX h with⟨rfl,h⟩|h
 ·cases h;exact B.cH Ie args s K y hk
 rcases bX h with⟨rfl,h⟩|h
 ·cases h;exact B.cH Ic args s K y hk
 rcases bX h with⟨rfl,h⟩|h
 ·cases h;exact B.cH Db args s K y hk
 rcases bX h with⟨rfl,h⟩|h
 ·cases h;exact B.cH Da args s K y hk
 rcases bX h with⟨rfl,h⟩|h
 ·cases h;exact B.cH wJ args s K y hk
 rcases bX h with⟨rfl,h⟩|h
 ·cases h;exact B.cH Cn args s K y hk
 rcases bX h with⟨rfl,h⟩|h
 ·cases h;exact B.cH zV args s K y hk
 rcases bX h with⟨rfl,h⟩|h
 ·cases h;exact B.cH C_ args s K y hk
 rcases bX h with⟨rfl,h⟩|h
 ·cases h;exact B.cH Fq args s K y hk
 rcases bX h with⟨rfl,h⟩|h
 ·cases h;exact B.cH Fp args s K y hk
 rcases bX h with⟨rfl,h⟩|h
 ·cases h;exact B.cH C9 args s K y hk
 rcases bX h with⟨rfl,h⟩|h
 ·cases h;exact B.cH Fo args s K y hk
 rcases bX h with⟨rfl,h⟩|h
 ·cases h;exact B.cH Fm args s K y hk
 rcases bX h with⟨rfl,h⟩|h
 ·cases h;exact B.cH Fl args s K y hk
 rcases bX h with⟨rfl,h⟩|h
 ·cases h;exact B.cH Fk args s K y hk
 rcases bX h with⟨rfl,h⟩|h
 ·cases h;exact B.cH C8 args s K y hk
 rcases bX h with⟨rfl,h⟩|h
 ·cases h;exact B.cH Gk args s K y hk
 rcases bX h with⟨rfl,h⟩|h
 ·cases h;exact B.cH Gj args s K y hk
 rcases bX h with⟨rfl,h⟩|h
 ·cases h;exact B.cH Fj args s K y hk
 rcases bX h with⟨rfl,h⟩|h
 ·cases h;exact B.cH Cm args s K y hk
 rcases bX h with⟨rfl,h⟩|h
 ·cases h;exact B.cH ym args s K y hk
 rcases bX h with⟨rfl,h⟩|h
 ·cases h;exact B.cH C7 args s K y hk
 rcases bX h with⟨rfl,h⟩|h
 ·cases h;exact B.cH x3 args s K y hk
 rcases bX h with⟨rfl,h⟩|h
 ·cases h;exact B.cH yl args s K y hk
 exact Ln n f h V args s K y hk
def aA.ac6 {n : FuncId} {args : List AV} {r : AV} (f : Nat) (hp : AV.cK args = true) (hr : r.dU = true)
    (h:B.pD Tryz.prog Ye za zb ahW f [] n args ⟨0,.nil⟩ (fun o _=>B.uB o fun v=>B.rN 9 v r)=true):aA aM n args r:=by
 obtain⟨o,s',h1,h2⟩:=B.BA J3 za zb ac5 h;refine aA.wq (h2.mono ?_) hp;rintro o' σ' ⟨rfl,rfl⟩;cases o' with
 | panic v=>exact absurd (show false=true from h1) gP
 | ret v=>obtain rfl:=B.u9 9 v r h1;exact⟨_,rfl,View.refl _ hr⟩
set_option maxRecDepth 1000000 in
def RI: aA aM 15 [] (.bool true):=aA.ac6 80 rfl rfl b_
def Lo(c:Nat): Nat->bj
 | 0=>[]
 | i+1=>UInt8.ofNat (c / 256 ^ i)::Lo c i
@[simp] def Ii (c m : Nat) : (Lo c m).length = m := by
  induction m with
  | zero=>rfl
  | succ m ih=>simp[Lo,ih]
def QB(n k:Int): bj:=Lo (n % 18446744073709551616).toNat (min (max k 0) 8).toNat
def Yk(j i:Nat)(h:j=i+1)(x:AV)(t:List AV): (List.replicate j (AV.int .u8 0)++t).set i x=List.replicate i (AV.int .u8 0)++x::t:=by
 subst h;rw[List.replicate_succ'];simp
def aaI(n:Int)(h1 : -9223372036854775808<=n)(h2:n<=9223372036854775807)(i:Nat)(hi:i<8): dQ .u8 (n.fdiv (2 ^ (8*i)))=((UInt8.ofNat ((n % 18446744073709551616).toNat / 256 ^ i)).toNat:Int):=by
 have hw:∀ x:Int,dQ .u8 x=x % 256:=fun x=>rfl;rw[hw,UInt8.toNat_ofNat'];rw[eW _ (Int.le_of_lt (Int.pow_pos dV))];obtain rfl|rfl|rfl|rfl|rfl|rfl|rfl|rfl:i=0\/i=1\/i=2\/i=3\/i=4\/i=5\/i=6\/i=7:=ae;all_goals (simp only[Nat.reduceMul,Nat.reducePow,Int.reducePow,Nat.mul_zero,Nat.pow_zero,Int.pow_zero];omega)
def RJ(n k:Int)(h1 : -9223372036854775808<=n)(h2:n<=9223372036854775807)(h3 : -9223372036854775808<=k)(h4:k<=9223372036854775807): aA aM 56 [I n,I k] (.str (QB n k)):=by
 obtain⟨c,hc⟩:=gi ((n % 18446744073709551616).toNat);have hm:(if(8:Int)<(if k<(0:Int)then (0:Int)else k)then (8:Int)else (if k<0 then 0 else k))=(((min (max k 0) 8).toNat:Nat):Int):=by split<;>split<;>omega
 have hsh:=aaI n h1 h2;rw[hc]at hsh;unfold QB;rw[hc];obtain⟨m,Gz⟩:=gi ((min (max k 0) 8).toNat);have hm8:m<=8:=ae;rw[Gz]at hm |-;refine bB KG ?_;intro Q aX aY aZ;repeat' first|refine fy hm ?_|refine aQ ?_|refine aR ?_ ?_<;>intro hw<;>try omega|fail
 with_reducible refine dA [6,1,13,16] (fun i:Nat=>[(13,I i)]) (fun i=>[.vec E1 (List.replicate (m-i) (AV.int .u8 0)++jH (Lo c i))]) (fun i=>i<=m) (fun i=>m-i) (0) ?_ ?_ ?_ ?_
 ·simp
 ·simp[Lo]
 ·exact at_
 rintro i r hi;by_cases hin:i<m
 ·have r8:=Yk (m-i) (m-(i+1)) ae;have hs:=hsh i ae;have he:Nat.min ((8*(i:Int)).toNat) 64=8*i:=by show min _ 64=_;omega
  have hj:((m:Int)-1-(i:Int)).toNat=m-(i+1):=ae;repeat' first|simp (disch:=omega) only[go_sem,aX,aY,aZ,cz,Ii,he,hs,hj,r8]|refine aQ ?_|refine aR ?_ ?_<;>intro hw<;>try omega|fail
  refine⟨i+1,?_,?_,by first|rfl|(simp[go_sem];done),fU,at_⟩<;>(try dsimp only)
  ·omega
  omega
 have hz:m-i=0:=ae;have sV:i=m:=ae;repeat' first|simp (disch:=omega) only[go_sem,aX,aY,aZ,cz,Ii,hz,sV,Nat.sub_self,List.replicate_zero]|refine aQ ?_|refine aR ?_ ?_<;>intro hw<;>try omega|fail
 all_goals refine bu ?_ rfl
 all_goals rfl
structure ahX where
 key:bj
 value:bj
 cut:Bool
 til:bj
deriving DecidableEq,Inhabited
def J5(x:ahX): AV:= .agg [.str x.key,.str x.value,.bool x.cut,.str x.til]
attribute [go_sem] J5
def J6(p:bj): Bool:=decide (1<=p.length) && decide (p.length<=40)
def J7(pf:bj): ahX × Int:=if J6 pf then(⟨pf++[0,0],[],true,pf++[255,255]⟩,0)else (⟨[],[],false,[]⟩,2)
def G3(p:bj)(h:p.length<=2^62): aA aM 160 [.str p] (.bool (J6 p)):=by
 refine bB KE ?_;intro Q aX aY aZ;repeat' first|refine aQ ?_|refine aR ?_ ?_<;>intro hw<;>try omega|fail
 all_goals refine bu ?_ rfl
 all_goals (refine congrArg AV.bool ?_;unfold J6;clear aX aY aZ;cases p<;>(rw[Bool.eq_iff_iff];simp_all<;>omega))
def RL(p:bj)(h:p.length<=2^61): aA aM 83 [.str p] (.bg [J5 (J7 p).1,I (J7 p).2]):=by
 refine bB KD ?_;intro Q aX aY aZ;repeat' first|refine aQ ?_|with_reducible refine Ag (G3 _ ae) ?_|with_reducible refine Ah (G3 _ ae) ?_|refine aR ?_ ?_<;>intro hw<;>try omega|fail
 all_goals refine c6 ?_ rfl
 all_goals (unfold J7;simp_all[J5])
def Yl(c:Cell): (FP c).1.length<=200:=by
 unfold FP;repeat' split
 all_goals (dsimp only;first|(simp;done)|omega)
def Ym(x:Expr): (yV x).1.length<=200:=by
 unfold yV o9;repeat' split
 all_goals (dsimp only;first|(simp;done)|(simp_all;done)|(simp_all;omega))
def aaJ{t:Table}(h:qt t): qt (jk t).1:=by
 have ok0:qt xH:=⟨dV,⟨dV,fun c hc=>(by cases hc)⟩,⟨dV,fun c hc=>(by cases hc)⟩,dV,fun c hc=>(by cases hc)⟩;by_cases he:(fQ t).2.2.2=0
 ·unfold jk;rw[aq ae];split
  ·exact ok0
  obtain⟨a,b,c,d⟩:=h;obtain⟨h1,h2⟩:=zP ⟨a,b,c,d⟩ he;refine⟨a,b,c,?_,fun r hr=>?_⟩
  ·dsimp only;rw[uX];have:=d.1;omega
  obtain⟨k,_,rfl⟩:=eL.1 hr;have hk:=h2 k;unfold oA;rw[PN];refine⟨⟨?_,fun s hs=>?_⟩,?_,fun s hs=>?_⟩
  ·dsimp only;rw[B0];have:=hk.1.1;omega
  ·obtain⟨m,_,rfl⟩:=eL.1 hs;have:=Yl ((B3 t k).cells.getD m default);unfold mq;omega
  ·dsimp only;rw[ED];have:=hk.2.1;omega
  obtain⟨m,_,rfl⟩:=eL.1 hs;have:=Ym ((B3 t k).outs.getD m default);unfold pB;omega
 rw[uw he];exact ok0
def Vm {P : Program} {σ : ai} {K Kp : AV -> ai -> Prop} {l m n : Nat} {xs : List AV} (s : bj) (h : σ[l]? = some (.vec ⟨false, 1⟩ xs)) (hm : m = xs.length) (hn : n <= m) :
    xT P (.copy ⟨false,1⟩) [.own ⟨false,1⟩ l m 0 n,.str s] σ (.mk:Tg (K,Kp))=K (.int .i64 (min s.length n:Nat)) (σ.set l (.vec ⟨false,1⟩ (dm xs 0 ((jH s).take n)))):=by
 have DN:(jH s).all (fun a=>a.fits ⟨false,1⟩)=true:=by simp[AV.fits]
 show(_=_/\(_/\(_=_/\_)))=_;rw[h];simp only[true_and,DN,c8];simp only[eq_iff_iff];exact⟨fun h=>h.2.2,fun h=>⟨hm,ae,h⟩⟩
def ND(s:bj): ∀(k:Nat) (t:bj),k+s.length<=t.length-> ∃ u:bj,dm (jH t) k (jH s)=jH u:=by
 induction s with
 | nil=>intro k t _;exact⟨t,rfl⟩
 | cons b s ih =>
   intro k t h;obtain⟨u,hu⟩:=ih (k+1) (t.set k b) (by simp at h |-;omega);refine⟨u,?_⟩;rw[<-hu];show dm ((jH t).set k (.int .u8 b.toNat)) (k+1) (jH s)=_;simp only[jH,List.map_set]
def zn(s:bj)(hs:s.length<=2^60): ∃ u:bj,u.length<=16/\aA aM 49 [.str s] (.str u):=by
 have hz:(List.replicate 16 (AV.int .u8 0))=jH (List.replicate 16 0):=rfl;obtain⟨u,hu⟩:=ND (s.take 16) 0 (List.replicate 16 0) (by simp;omega);have IJ:dm (List.replicate 16 (AV.int .u8 0)) 0 ((jH s).take 16)=jH u:=by rw[<-hu,hz];simp[List.map_take]
 have G2:u.length=16:=by
  have:=bC List.length hu;rw[fq]at this;simp at this;omega
 refine⟨u,ae,aA.wq (D4.go ?_) rfl⟩;unfold iC;intro Q aX aY aZ;repeat' first|refine aQ ?_|refine aR ?_ ?_<;>intro hw<;>try omega|fail
 refine Eq.mpr (Vm (l:=0) (m:=16) (n:=16) (xs:=List.replicate 16 (AV.int .u8 0)) s rfl rfl (aV _)) ?_;rw[IJ];refine aQ ?_;refine I4 u rfl (by rw[c8,G2];rfl) (by rw[c8,G2];rfl) ?_;repeat' first|refine aQ ?_|refine aR ?_ ?_<;>intro hw<;>try omega|fail
 all_goals first|exact eu|exact bu rfl rfl
def G4(s:bj)(v:Int)(hs:s.length<=2^60)(hv:rE v): ∃(u:bj) (f:Int),u.length<=40/\(jb s=false->f=13)/\(jb s=true->v=1->f=0)/\aA aM 20 [.str s,I v] (.bg [.str u,I f]):=by
 have c1:=rB s ae;obtain⟨w,hw,c2⟩:=zn s hs;have c3:=RJ v 4 hv.1 hv.2 dV dV;have hz:(QB v 4).length=4:=by unfold QB;rw[Ii];rfl
 generalize QB v 4=z at c3 hz;generalize jb s=b at c1;cases b
 ·refine⟨[],13,aT,fun _=>rfl,fun h=>(by cases h),?_⟩;refine bB tD ?_;intro Q aX aY aZ;repeat' first|refine aQ ?_|refine aR ?_ ?_<;>intro hw<;>try omega|fail
  all_goals first|exact eu|exact bu rfl rfl
 by_cases Sx:v<1\/2147483648<v
 ·refine⟨[],2,aT,fun h=>(by cases h),fun _ h=>ae,?_⟩;refine bB tD ?_;intro Q aX aY aZ;repeat' first|refine aQ ?_|refine aR ?_ ?_<;>intro hw<;>try omega|fail
  all_goals first|exact eu|exact bu rfl rfl|(exfalso;omega)
 refine⟨[116]++w++z,0,by simp;omega,fun h=>(by cases h),fun _ _=>rfl,?_⟩;refine bB tD ?_;intro Q aX aY aZ;repeat' first|refine aQ ?_|refine aR ?_ ?_<;>intro hw<;>try omega|fail
 all_goals first|exact eu|exact bu rfl rfl|(exfalso;omega)
def aaK(k:bj): aA aM 27 [.ew,.str k] (.bg [.str [],I 1]):=aA.bM 9 rfl rfl b_
def aaL(a b:bj): aA aM 51 [.ew,.str a,.str b,I (-1)] (.bg [.aP,I 1]):=aA.bM 9 rfl rfl b_
def aaM: aA aM 18 [.ew] (.bg [.aP,I 1]):=aA.bM 9 rfl rfl b_
def Ij(s:bj)(hs:s.length<=2^60): aA aM 17 [.ew,.str s] (.bg [I 0,I (if jb s then 1 else 13)]):=by
 have c1:=rB s ae;obtain⟨w,_,c2⟩:=zn s hs;have c3:=aaK (110::w);generalize jb s=b at *;cases b
 ·show aA _ _ _ (.bg [I 0,I 13]);refine bB yJ ?_;intro Q aX aY aZ;repeat' first|refine aQ ?_|refine aR ?_ ?_<;>intro hw<;>try omega|fail
  all_goals first|exact eu|exact bu rfl rfl
 show aA _ _ _ (.bg [I 0,I 1]);refine bB yJ ?_;intro Q aX aY aZ;repeat' first|refine aQ ?_|refine aR ?_ ?_<;>intro hw<;>try omega|fail
 all_goals first|exact eu|exact bu rfl rfl
def aaN(k:bj)(hk:k.length<=40): ∃ f:Int,f≠0/\f≠4/\aA aM 47 [.ew,.str k] (.bg [.str [],I f]):=by
 have c1:=RL k ae;have c2:=aaL (k++[0,0]) (k++[255,255]);unfold J7 at c1;by_cases h:J6 k=true
 ·rw[aB h]at c1;refine⟨1,dV,dV,?_⟩;simp only[J5]at c1;refine bB CL ?_;intro Q aX aY aZ;repeat' first|refine aQ ?_|refine aR ?_ ?_<;>intro hw<;>try omega|fail
  all_goals first|exact eu|exact bu rfl rfl
 rw[aq h]at c1;refine⟨2,dV,dV,?_⟩;simp only[J5]at c1;refine bB CL ?_;intro Q aX aY aZ;repeat' first|refine aQ ?_|refine aR ?_ ?_<;>intro hw<;>try omega|fail
 all_goals first|exact eu|exact bu rfl rfl
def Yn(s:bj)(v:Int)(hs:s.length<=2^60)(hn:jb s=true): aA aM 46 [.ew,.str s,I v] (.bg [I v,I (if v=0 then 1 else 0)]):=by
 have c1:=Ij s hs;rw[hn]at c1;simp only[if_true]at c1;by_cases h:v=0
 ·subst h;show aA _ _ _ (.bg [I 0,I 1]);refine bB xq ?_;intro Q aX aY aZ;repeat' first|refine aQ ?_|refine aR ?_ ?_<;>intro hw<;>try omega|fail
  all_goals first|exact eu|exact bu rfl rfl
 rw[aq h];refine bB xq ?_;intro Q aX aY aZ;repeat' first|refine aQ ?_|refine aR ?_ ?_<;>intro hw<;>try omega|fail
 all_goals first|exact eu|exact bu rfl rfl
def Vn: AV:= .agg [.str [],.aP,.aP,I 0,I 0,.aP]
def aaO(s:bj)(v:Int)(hs:s.length<=2^60)(hv:rE v): ∃ f:Int,f≠0/\(jb s=false->f=13)/\aA aM 16 [.ew,.str s,I v] (.bg [Vn,I f]):=by
 have c1:=rB s ae;unfold Vn;by_cases hn:jb s=true
 ·have c2:=Yn s v hs hn;obtain⟨u,g,hu,_,_,c3⟩:=G4 s v hs hv;obtain⟨f,hf,hf4,c4⟩:=aaN u hu;rw[hn]at c1 |-;by_cases h:v=0
  ·subst h;simp only[if_true]at c2;refine⟨1,dV,fun h=>(by cases h),?_⟩;refine bB qf ?_;intro Q aX aY aZ;repeat' first|refine aQ ?_|refine aR ?_ ?_<;>intro hw<;>try omega|fail
   all_goals first|exact eu|exact bu rfl rfl
  rw[aq h]at c2;by_cases hg:g=0
  ·subst hg;refine⟨f,hf,fun h=>(by cases h),?_⟩;refine bB qf ?_;intro Q aX aY aZ;repeat' first|refine aQ ?_|refine aR ?_ ?_<;>intro hw<;>try omega|fail
   all_goals first|exact eu|exact bu rfl rfl
  refine⟨6,dV,fun h=>(by cases h),?_⟩;refine bB qf ?_;intro Q aX aY aZ;repeat' first|refine aQ ?_|refine aR ?_ ?_<;>intro hw<;>try omega|fail
  all_goals first|exact eu|exact bu rfl rfl
 rw[gN]at hn;rw[hn]at c1 |-;refine⟨13,dV,fun _=>rfl,?_⟩;refine bB qf ?_;intro Q aX aY aZ;repeat' first|refine aQ ?_|refine aR ?_ ?_<;>intro hw<;>try omega|fail
 all_goals first|exact eu|exact bu rfl rfl
def aaP(t:Table)(ok:qt t): ∃ f:Int,f≠0/\aA aM 19 [.ew,fV t] (.bg [.aP,I 0,I f]):=by
 have c1:=EE t ok;have okc:=aaJ ok;have c2:=P4 (jk t).1 okc;have c3:=Ij (jk t).1.name (bS okc.1 dV);generalize jk t=C at *;obtain⟨c,a,b,e⟩:=C;dsimp only at c1 c2 c3 okc;generalize JK c=B at c2;obtain⟨bs,be⟩:=B;obtain⟨g,hg,hg2⟩:∃ g:Int,(if jb c.name then(1:Int)else 13)=g/\g≠0:=⟨_,rfl,by split<;>decide⟩;rw[hg]at c3;clear okc ok hg;obtain⟨A,I1,I2,D,F,G⟩:=c;simp only[eT4,eB,fV,kI,ei,jj]at c1 c2 c3 |-;by_cases he:e=0
 ·subst he;by_cases hb:be=0
  ·subst hb;refine⟨g,hg2,aA.wq (tC.go ?_) aT⟩;unfold iC;intro Q aX aY aZ;repeat' first|refine aQ ?_|refine aR ?_ ?_<;>intro hw<;>try omega|fail
   all_goals first|exact eu|exact bu rfl rfl
  refine⟨be,hb,aA.wq (tC.go ?_) aT⟩;unfold iC;intro Q aX aY aZ;repeat' first|refine aQ ?_|refine aR ?_ ?_<;>intro hw<;>try omega|fail
  all_goals first|exact eu|exact bu rfl rfl
 refine⟨e,he,aA.wq (tC.go ?_) aT⟩;unfold iC;intro Q aX aY aZ;repeat' first|refine aQ ?_|refine aR ?_ ?_<;>intro hw<;>try omega|fail
 all_goals first|exact eu|exact bu rfl rfl
def G5(t:Table)(s:bj)(v:Int)(hr:D2 t)(hv:rE v): aA aM 4 [fV t,.str s,I v] (.bool true):=by
 have c0:=Rx t;have cL:=RI;by_cases h0:AJ t=true/\s.length<=300
 ·obtain⟨ht,hs⟩:=h0;rw[ht]at c0;obtain⟨f1,hf1,aaQ,p1⟩:=aaO s v ae hv;have p2:=Ij s ae;have p3:=aaM;obtain⟨f4,hf4,p4⟩:=aaP t (ZM ht hr);obtain⟨u,f5,_,DR,yA,p5⟩:=G4 s 1 ae ⟨dV,dV⟩;clear ht hr hv;by_cases hn:jb s=true
  ·obtain rfl:f5=0:=yA hn rfl;rw[hn]at p2;simp only[if_true]at p2;clear DR yA aaQ hn;obtain⟨A,I1,I2,D,F,G⟩:=t;simp only[fV,kI,ei,jj,Vn]at c0 p1 p4 |-;refine bB o8 ?_;intro Q aX aY aZ;repeat' first|refine aQ ?_|refine jS c0 ?_|refine aR ?_ ?_<;>intro hw<;>try omega|fail
   all_goals first|exact eu|exact bu rfl rfl|(exfalso;omega)
  rw[gN]at hn;obtain rfl:f5=13:=DR hn;obtain rfl:f1=13:=aaQ hn;rw[hn]at p2;simp only[aN,if_false]at p2;clear DR yA aaQ hn;obtain⟨A,I1,I2,D,F,G⟩:=t;simp only[fV,kI,ei,jj,Vn]at c0 p1 p4 |-;refine bB o8 ?_;intro Q aX aY aZ;repeat' first|refine aQ ?_|refine jS c0 ?_|refine aR ?_ ?_<;>intro hw<;>try omega|fail
  all_goals first|exact eu|exact bu rfl rfl|(exfalso;omega)
 obtain⟨A,I1,I2,D,F,G⟩:=t;simp only[fV,kI,ei,jj]at c0 |-;refine bB o8 ?_;intro Q aX aY aZ;repeat' first|refine aQ ?_|refine jS c0 ?_|refine aR ?_ ?_<;>intro hw<;>try omega|fail
 all_goals first|exact eu|exact bu rfl rfl|(exfalso;apply h0;refine⟨by simp_all,ae⟩)
