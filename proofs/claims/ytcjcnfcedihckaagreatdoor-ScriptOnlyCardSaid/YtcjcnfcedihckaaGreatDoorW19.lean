/- Part. -/
import Derived.Test.YtcjcnfcedihckaaGreatDoorW18
import Derived.KernelRfl
set_option linter.all false
namespace Go.Proofs.YtcjcnfcedihckaaGreatDoor
open Go.AM Go.AM.W
set_option maxRecDepth 10000
def PO: Of aK 302 9 [.tmp 4] (r [V z0 4]<|
 gR [M 0 5,D .eql 5 0 6] 6 [M 1 7,M 7 4]<|
 r [M 0 8,M 8 4]<|
 .ret):=bV Tryz.func302
def Nz: Of aK 303 2 [.tmp 0] (r [V .au 0]<|
 r [gB false 1 e0 16 [(0,gS [46,46]),(1,gS [33,61]),(2,gS [60,61]),(3,gS [62,61]),(4,gS [40]),(5,gS [41]),(6,gS [91]),(7,gS [93]),(8,gS [44]),(9,gS [43]),(10,gS [45]),(11,gS [42]),(12,gS [47]),(13,gS [61]),(14,gS [60]),(15,gS [62])] 1,M 1 0]<|
 .ret):=bV Tryz.func303
def vI: Of aK 304 19 [.tmp 4] (r [V z0 4]<|
 q (r [M 0 6,N 6 7,V z0 8]<|
 .block 0 (.loop (r [B .lss 8 7 9]<|
 q (c 9 k (.exit 0))<|
 q (.block 1 (r [M 8 10,M 10 5]<|
 r [M 1 11,M 0 12,M 5 13,I false 1 12 13 14,K 14 15,bw (.call false (t 11) [t 15]) 16]<|
 c 16 (r [M 5 17,M 17 4]<|
 .ret) k))<|
 R [D .add 8 1 18,M 18 8])))<|
 r [V (i6 (-1)) 4]<|
 .ret):=bV Tryz.func304
def Ms: Of aK 305 7 [.tmp 3] (r [gF 3]<|
 r [K 1 4,M 0 5,C 61 [t 4,t 5] 6,M 6 3]<|
 .ret):=bV Tryz.func305
def tV: Of aK 309 37 [.cell 2 true 6] (r [J [z0,z0,z0,e0,e0,.au] 2]<|
 gR [M 0 6,Z 6 7,A 2 7 8,K 8 9] 9 [gU [z0,z0,z0,e0,e0,.au] [] 10,W 6 2 10]<|
 q (.draw [M 0 12,Z 12 13,A 0 13 14,A 0 14 15,K 15 16,M 0 17,Z 17 18,A 0 18 19,A 1 19 20,K 20 21,Q 268 [t 16,t 21,gJ 4] 22,M 22 11,E 11 0 23,E 11 1 24,E 11 2 25,J [z0,z0,z0,e0,e0,.au] 3,W 6 3 23,M 24 4,M 25 5] [])<|
 r [M 0 26,M 0 27,M 4 28,M 5 29,D .neq 29 0 30,Z 26 31,A 0 31 32,A 1 32 33,W 1 33 28,Z 27 34,A 2 34 35,W 1 35 30]<|
 r [L 6 3 36,W 6 2 36]<|
 .ret):=bV Tryz.func309
def BP: Of aK 310 27 [.tmp 6] (r [gF 6]<|
 r [M 0 8,C 319 [t 8] 9,J [z0,e0,z0,z0] 7,W 4 7 9]<|
 gR [A 0 7 10,K 10 11,M 1 12,B .neq 11 12 13,M 13 14,AF 1 7 15 14,KF 15 16 14,MF 2 17 14,BF .neq 16 17 18 14,O 14 18 19] 19 [gF 6]<|
 r [M 0 20,Z 20 21,A 1 21 22,K 22 23,D .add 23 1 24,Z 20 25,A 1 25 26,W 1 26 24]<|
 r [gT 6]<|
 .ret):=bV Tryz.func310
def xN: Of aK 311 19 [.cell 2 true 6] (r [J [z0,z0,z0,e0,e0,.au] 2]<|
 r [M 0 5,C 292 [t 5,.c z0] 6,J [z0,z0,z0,e0,e0,.au] 3,W 6 3 6]<|
 r [M 0 7,C 320 [t 7,gJ 1,gS [116,104,101,110]] 8]<|
 r [M 0 9,C 292 [t 9,.c z0] 10,J [z0,z0,z0,e0,e0,.au] 4,W 6 4 10]<|
 r [M 0 11,C 320 [t 11,gJ 1,gS [101,108,115,101]] 12]<|
 q (.draw [L 6 3 13,L 6 4 14,M 0 15,bw (.rL (.c (.fn (.func 292) [] [])) [t 15,.c z0]) 16,gB true 6 (.agg [z0,z0,z0,e0,e0,.au]) 3 [(0,t 13),(1,t 14),(2,t 16)] 17,gU [z0,z0,z0,e0,e0,.au] [(0,1,gJ 16),(5,1,t 17)] 18,W 6 2 18] [(t 3,t 15),(t 4,t 15)])<|
 .ret):=pN ⟨[],[],[],[],[16],[]⟩ Tryz.func311
def ik: Of aK 312 71 [.cell 2 true 6] (r [J [z0,z0,z0,e0,e0,.au] 2]<|
 q (r [M 0 8,C 310 [t 8,gJ 4,gS [40]] 9]<|
 c 9 (r [M 0 10,C 292 [t 10,.c z0] 11,J [z0,z0,z0,e0,e0,.au] 3,W 6 3 11]<|
 r [M 0 12,C 320 [t 12,gJ 4,gS [41]] 13]<|
 r [L 6 3 14,W 6 2 14]<|
 .ret) k)<|
 r [M 0 15,C 319 [t 15] 16,J [z0,e0,z0,z0] 4,W 4 4 16]<|
 r [gU [z0,z0,z0,e0,e0,.au] [(0,1,gJ 1)] 17,J [z0,z0,z0,e0,e0,.au] 5,W 6 5 17]<|
 q (r [A 0 4 18,K 18 19]<|
 .block 0 (r [D .eql 19 2 25,M 25 24]<|
 c 24 (R [A 2 4 26,K 26 27,gU [z0,z0,e0] [(0,1,gJ 1),(1,1,t 27)] 28,A 1 5 29,W 3 29 28]) (r [D .eql 19 3 31,M 31 30]<|
 c 30 (R [A 1 4 32,K 32 33,gU [z0,z0,e0] [(0,1,gJ 2),(2,1,t 33)] 34,A 1 5 35,W 3 35 34]) (r [D .eql 19 1 37,M 37 36]<|
 c 36 (r [A 1 4 39,K 39 40,C 321 [t 40] 41,M 41 38,E 38 0 42,E 38 1 43,J [z0,z0,e0] 6,W 3 6 42,M 43 7]<|
 q (r [M 7 44,U 44 45,M 45 46,AT 1 4 47 46,KT 47 48 46,CT 38 [t 48] 49 46,UT 49 50 46,P 46 50 51]<|
 c 51 (r [M 0 52,Z 52 53,A 2 53 54,⟨.store 1 (t 54) (.c (.bool true)),none,none⟩]<|
 r [gU [z0,z0,z0,e0,e0,.au] [] 55,W 6 2 55]<|
 .ret) k)<|
 r [L 3 6 56,A 1 5 57,W 3 57 56]<|
 r [M 7 58,U 58 59]<|
 c 59 (R [A 1 4 60,K 60 61,gU [z0,z0,z0,e0,e0,.au] [(0,1,gJ 2),(4,1,t 61)] 62,W 6 5 62]) k) (r [M 0 20,Z 20 21,A 2 21 22,⟨.store 1 (t 22) (.c (.bool true)),none,none⟩]<|
 r [gU [z0,z0,z0,e0,e0,.au] [] 23,W 6 2 23]<|
 .ret)))))<|
 r [M 0 63,Z 63 64,A 1 64 65,K 65 66,D .add 66 1 67,Z 63 68,A 1 68 69,W 1 69 67]<|
 r [L 6 5 70,W 6 2 70]<|
 .ret):=bV Tryz.func312
def xO: Of aK 313 31 [.tmp 4] (r [V z0 4]<|
 q (r [C 241 [] 8,N 8 9,V z0 10]<|
 .block 0 (.loop (r [B .lss 10 9 11]<|
 q (c 11 k (.exit 0))<|
 q (.block 1 (r [I true 3 8 10 12,L 3 12 13,J [z0,e0,z0] 6,W 3 6 13]<|
 r [V (i6 4) 7]<|
 q (r [A 2 6 14,K 14 15,D .lss 15 3 16]<|
 c 16 (R [V (i6 1) 7]) k)<|
 r [A 2 6 17,K 17 18,M 1 19,B .eql 18 19 20,M 20 21,MT 0 22 21,MT 7 23 21,AT 1 6 24 21,KT 24 25 21,CT 310 [t 22,t 23,t 25] 26 21,P 21 26 27]<|
 c 27 (r [A 0 6 28,K 28 29,M 29 4]<|
 .ret) k))<|
 R [D .add 10 1 30,M 30 10])))<|
 r [V z0 4]<|
 .ret):=bV Tryz.func313
def Mt: Of aK 314 18 [.tmp 4] (r [gF 4]<|
 q (r [M 1 7,N 7 8,V z0 9]<|
 .block 0 (.loop (r [B .lss 9 8 10]<|
 q (c 10 k (.exit 0))<|
 q (.block 1 (r [I false 1 7 9 11,K 11 12,M 12 6]<|
 r [M 6 13,M 0 14,C 235 [t 13,t 14] 15,U 15 16]<|
 c 16 (r [gF 4]<|
 .ret) k))<|
 R [D .add 9 1 17,M 17 9])))<|
 r [gT 4]<|
 .ret):=bV Tryz.func314
def zp: Of aK 315 11 [.tmp 4] (r [V z0 4]<|
 r [V z0 5]<|
 gR [M 0 6,M 5 7,B .neq 6 7 8] 8 [M 0 9,M 9 4]<|
 r [M 1 10,M 10 4]<|
 .ret):=bV Tryz.func315
def xP: Of aK 316 9 [.tmp 4] (r [gF 4]<|
 r [M 0 5,M 1 6,C 322 [t 5,t 6] 7,D .geq 7 0 8,M 8 4]<|
 .ret):=bV Tryz.func316
def Ar: Of aK 319 30 [.cell 2 true 4] (r [J [z0,e0,z0,z0] 2]<|
 q (q (.draw [M 0 3,Z 3 4,A 2 4 5,K 5 6,M 6 7,MF 0 8 7,ZF 8 9 7,AF 1 9 10 7,KF 10 11 7,MF 0 12 7,ZF 12 13 7,AF 0 13 14 7,KF 14 15 7,NF 15 16 7,BF .geq 11 16 17 7,O 7 17 18] [])<|
 c 18 (r [gU [z0,e0,z0,z0] [] 19,W 4 2 19]<|
 .ret) k)<|
 q (.draw [M 0 20,Z 20 21,A 0 21 22,K 22 23,M 0 24,Z 24 25,A 1 25 26,K 26 27,I true 4 23 27 28,L 4 28 29,W 4 2 29] [])<|
 .ret):=bV Tryz.func319
def zq: Of aK 320 14 [] (r [M 0 6,M 1 7,M 2 8,C 310 [t 6,t 7,t 8] 9,U 9 10]<|
 c 10 (R [M 0 11,Z 11 12,A 2 12 13,⟨.store 1 (t 13) (.c (.bool true)),none,none⟩]) k):=bV Tryz.func320
def Js: Of aK 321 15 [.cell 2 true 3,.tmp 3] (r [J [z0,z0,e0] 2,gF 3]<|
 q (r [M 0 4]<|
 .block 0 (r [bw (.bin .eql (t 4) (gS [110,117,108,108])) 6,M 6 5]<|
 c 5 (r [gU [z0,z0,e0] [] 7,W 3 2 7,gT 3]<|
 .ret) (r [bw (.bin .eql (t 4) (gS [102,97,108,115,101])) 9,M 9 8]<|
 c 8 (r [gU [z0,z0,e0] [(0,1,gJ 3)] 10,W 3 2 10,gT 3]<|
 .ret) (r [bw (.bin .eql (t 4) (gS [116,114,117,101])) 12,M 12 11]<|
 c 11 (r [gU [z0,z0,e0] [(0,1,gJ 3),(1,1,gJ 1)] 13,W 3 2 13,gT 3]<|
 .ret) k))))<|
 r [gU [z0,z0,e0] [] 14,W 3 2 14,gF 3]<|
 .ret):=bV Tryz.func321
def As: Of aK 322 19 [.tmp 4] (r [V z0 4]<|
 q (r [M 0 6,N 6 7,V z0 8]<|
 .block 0 (.loop (r [B .lss 8 7 9]<|
 q (c 9 k (.exit 0))<|
 q (.block 1 (r [M 8 10,M 10 5]<|
 r [M 1 11,M 0 12,M 5 13,I false 1 12 13 14,K 14 15,B .eql 11 15 16]<|
 c 16 (r [M 5 17,M 17 4]<|
 .ret) k))<|
 R [D .add 8 1 18,M 18 8])))<|
 r [V (i6 (-1)) 4]<|
 .ret):=bV Tryz.func322
end Go.Proofs.YtcjcnfcedihckaaGreatDoor
namespace Go.AM
variable {P:Program}
def bK{p:Prop}(h:False:=by first|omega|(simp_all;done)|(simp_all;omega)): p:=h.elim
def at_{p:Prop}(h:p:=by simp (disch:=omega) only[iS,gC,and_true,go_sem,x7,FA,Co,Nat.reduceAdd,Nat.reduceBEq,↓reduceIte,Int.natCast_add,Int.cast_ofNat_Int]<;>(try trivial)<;>(try omega)<;>(try (repeat (first|trivial|(refine And.intro ?_ ?_)|(congr 1;omega))))): p:=h
def da{p:Prop}(h:p:=by repeat (first|exact aau _ _ _|refine aav rfl ?_|refine XZ rfl ?_|(simp only[Vg,XU]))): p:=h
def gM{p:Prop}(h:p:=by first|exact bS.refl (by simp)|(repeat (first|exact bS.nil _|refine bS.cons ?_ ?_|exact View.au _|exact View.refl _ (by simp)|exact View.weak _ _ _ (by simp)|exact View.cell _ _ rfl rfl (by simp)|refine View.fnL ?_ ?_|exact View.vec rfl (by simp) (by simp) (by simp)|refine View.aci ?_|refine View.s5 ?_))): p:=h
def bs_{K:AV->Prop}{xs:List AV}{m n:Nat}{s:List UInt8}(hk:K (.str s))(hx:xs=s.map fun b=>AV.int .u8 b.toNat)(hm:m=xs.length)(hn:n=xs.length): SK (some (.vec ⟨false,1⟩ xs)) m 0 n (.mk:Tg K):=SN s hx hm hn hk
def aG {G K : Prop} (k : K) (h : K -> G := by
    first
    |(intro k;simp (disch:=omega) only[go_sem,aC,aD,aE];exact k)
    |(intro k;with_reducible refine ZM ?_ k;first|omega|(simp;done)|(simp;omega)|assumption)
    |(intro k;with_reducible exact XY k)
    |(intro k;with_reducible exact bs_ k rfl (by simp) (by simp))
    |(intro k;with_reducible first|exact DY (by with_reducible_and_instances assumption) k|exact DZ (by with_reducible_and_instances assumption) k)):G:=h k
def gn_ {G K : Prop} (k : K) (h : K -> G := by
    first
    |(intro k;simp (disch:=omega) only[go_sem,aC,aD,aE];exact k)
    |(intro k;with_reducible refine ZM ?_ k;first|omega|(simp;done)|(simp;omega)|assumption)
    |(intro k;with_reducible exact bs_ k rfl (by simp) (by simp))):G:=h k
def cc_{t:Bool}{T E p q:Prop}(h:p->T)(h':q->E)(hp:(t=true)=p)(hq:(t=false)=q): Ag (.bool t) (.mk:Tg (T,E)):=by
 subst hp hq;exact aas h h'
def gk_{t b:Bool}{T E U p q:Prop}(h:p->T)(h':q->E)(hp:(t=b)=p)(hq:(t = !b)=q): mU (.bool t) b (.mk:Tg (T,E,U)):=by
 subst hp hq;exact XQ h h'
def aF {p q T E G : Prop} (h : p -> T) (h' : q -> E) (hg : (p -> T) -> (q -> E) -> G := by
    intro h h';with_reducible first|refine cc_ h h' ?_ ?_|refine gk_ h h' ?_ ?_
    all_goals
     (try simp only[decide_eq_true_eq,decide_eq_false_iff_not,beq_iff_eq,beq_eq_false_iff_ne,cF,Bool.not_eq_false',Bool.not_true,fZ,Int.not_lt,Int.not_le,ne_eq,Int.ofNat_lt,Int.ofNat_le,not_true_eq_false,reduceCtorEq,Int.toNat_zero])
     exact rfl):G:=hg h h'
def eU {n : FuncId} {args : List AV} {r : AV} {K G : Prop} (h : aM P n args r) (k : K) (hg : aM P n args r -> K -> G := by
    intro h k;with_reducible first|exact DY h k|exact DZ h k):G:=hg h k
def ye {n : FuncId} {args : List AV} {r : AV} {K G : Prop} (h : aM P n args r) (k : K) (hg : aM P n args r -> K -> G := by
    intro h k;with_reducible first|refine aaw h ?_ k|refine aax h ?_ k
    exact gM):G:=hg h k
def xj {n : FuncId} {args : List AV} {r : AV} {K G : Prop} (h : aM P n args r) (k : K) (hg : aM P n args r -> K -> G := by
    intro h k;with_reducible first|refine qo h ?_ ?_ k|refine aay h ?_ ?_ k
    ·exact gM
    ·simp[AV.flat,AV.x8]):G:=hg h k
def c8 {f : FuncId} {off : Nat} {args cs ds : List AV} {r : AV} {K G : Prop} (h : c_ P f off args cs ds r) (k : K) (hg : c_ P f off args cs ds r -> K -> G := by
    intro h k;with_reducible first|exact I5 h rfl k|exact I6 h rfl k|exact I7 h rfl k):G:=hg h k
end Go.AM
namespace Go.Proofs.YtcjcnfcedihckaaGreatDoor
open Go.AM
abbrev aI:=List UInt8
structure ez where
 kind:Int
 n:Int
 s:aI
deriving DecidableEq,Inhabited
structure Tok where
 kind:Int
 s:aI
 n:Int
 pos:Int
deriving DecidableEq,Inhabited
inductive Expr where
 | mk (op:Int) (v:ez) (s:aI) (l:List Expr)
instance:Inhabited Expr:=⟨.mk 0 ⟨0,0,[]⟩ [] []⟩
def Expr.op: Expr->Int | .mk op _ _ _=>op
def Expr.v: Expr->ez | .mk _ v _ _=>v
def Expr.s: Expr->aI | .mk _ _ s _=>s
def Expr.l: Expr->List Expr | .mk _ _ _ l=>l
structure Test where
 kind:Int
 a:Expr
 b:Expr
 lo:Bool
 hi:Bool
deriving Inhabited
structure Cell where
 any:Bool
 neg:Bool
 tests:List Test
deriving Inhabited
structure cV where
 name:aI
 kind:Int
 order:List ez
deriving Inhabited
structure eL where
 cells:List aI
 outs:List aI
deriving Inhabited
structure Table where
 name:aI
 ins:List cV
 outs:List cV
 aL:Int
 agg:Int
 rules:List eL
deriving Inhabited
structure kB where
 cells:List Cell
 outs:List Expr
deriving Inhabited
structure Ready where
 table:Table
 lines:List kB
deriving Inhabited
abbrev I(n:Int): AV:= .int .i64 n
abbrev E1: El:=⟨false,1⟩
abbrev EV: El:=⟨true,3⟩
abbrev ET: El:=⟨true,4⟩
abbrev EX: El:=⟨true,6⟩
abbrev ES: El:=⟨true,15⟩
abbrev EC: El:=⟨true,3⟩
abbrev ER: El:=⟨true,2⟩
def fD(v:ez): AV:= .agg [I v.kind,I v.n,.str v.s]
def o8(t:Tok): AV:= .agg [I t.kind,.str t.s,I t.n,I t.pos]
def bB(s:aI): AV:= .str s
def bg: Expr->AV
 | .mk op v s l=> .agg [I op,I v.kind,I v.n,.str v.s,.str s,.aO false EX (l.map bg)]
def dG(l:List Expr): AV:= .aO false EX (l.map bg)
def dH(t:Test): AV:= .agg [I t.kind,I t.a.op,I t.a.v.kind,I t.a.v.n,.str t.a.v.s,.str t.a.s,dG t.a.l,I t.b.op,I t.b.v.kind,I t.b.v.n,.str t.b.v.s,.str t.b.s,dG t.b.l,.bool t.lo,.bool t.hi]
def jL(l:List Test): AV:= .aO false ES (l.map dH)
def dI(c:Cell): AV:= .agg [.bool c.any,.bool c.neg,jL c.tests]
def dh(l:List ez): AV:= .aO false EV (l.map fD)
def tj(l:List Tok): AV:= .aO false ET (l.map o8)
def bM(l:List aI): AV:= .aO false E1 (l.map bB)
def bu(c:cV): AV:= .agg [.str c.name,I c.kind,dh c.order]
def cH(l:List cV): AV:= .aO false EC (l.map bu)
def cu(r:eL): AV:= .agg [bM r.cells,bM r.outs]
def eA(l:List eL): AV:= .aO false ER (l.map cu)
def gQ(t:Table): List AV:=[.str t.name,cH t.ins,cH t.outs,I t.aL,I t.agg,eA t.rules]
def dS(t:Table): AV:= .agg (gQ t)
def qZ(l:List Cell): AV:= .aO false EC (l.map dI)
def ow(l:kB): AV:= .agg [qZ l.cells,dG l.outs]
def Hj(l:List kB): AV:= .aO false ER (l.map ow)
def Cx(r:Ready): AV:= .agg [.str r.table.name,cH r.table.ins,cH r.table.outs,I r.table.aL,I r.table.agg,eA r.table.rules,Hj r.lines]
def bG(x:Expr): bg x = .agg [I x.op,I x.v.kind,I x.v.n,.str x.v.s,.str x.s,.aO false EX (x.l.map bg)]:=by
 cases x;simp only[bg];rfl
def Expr.ind{C:Expr->Prop}(h:∀ op v s l,(∀ y ∈ l,C y)->C (.mk op v s l)): ∀ x,C x
 | .mk op v s l=>h op v s l fun y _=>Expr.ind h y
attribute [go_sem] bG fD o8 dH dI bu cu gQ dS ow Cx bB dG jL dh tj bM cH eA qZ Hj
@[go_sem] def Expr.ZP (op:Int) (v:ez) (s:aI) (l:List Expr):(Expr.mk op v s l).op=op:=_root_.id rfl
@[go_sem] def Expr.acH (op:Int) (v:ez) (s:aI) (l:List Expr):(Expr.mk op v s l).v=v:=_root_.id rfl
@[go_sem] def Expr.acI (op:Int) (v:ez) (s:aI) (l:List Expr):(Expr.mk op v s l).s=s:=_root_.id rfl
@[go_sem] def Expr.acJ (op:Int) (v:ez) (s:aI) (l:List Expr):(Expr.mk op v s l).l=l:=_root_.id rfl
def FN(v:ez): (fD v).dF=true:=rfl
def FO(t:Tok): (o8 t).dF=true:=rfl
def fX(x:Expr): (bg x).dF=true:=by
 induction x using Expr.ind with
 | h op v s l ih =>
   simp only[bg,AV.dF,AV.cB,ew,fW];rw[pM];intro a ha;obtain⟨y,hy,rfl⟩:=cy.1 ha;exact ih y hy
def qt(l:List Expr): (dG l).dF=true:=by simp only[dG,AV.dF];exact iJ _ _ fX
def Cy(t:Test): (dH t).dF=true:=by simp[dH,AV.dF,AV.cB,qt]
def wz(l:List Test): (jL l).dF=true:=by simp only[jL,AV.dF];exact iJ _ _ Cy
def yf(c:Cell): (dI c).dF=true:=by simp[dI,AV.dF,AV.cB,wz]
def KO(l:List ez): (dh l).dF=true:=by simp only[dh,AV.dF];exact iJ _ _ FN
def Vm(l:List Tok): (tj l).dF=true:=by simp only[tj,AV.dF];exact iJ _ _ FO
def Cz(l:List aI): (bM l).dF=true:=by simp only[bM,AV.dF];exact iJ _ _ (fun _=>rfl)
def Au(c:cV): (bu c).dF=true:=by simp[bu,AV.dF,AV.cB,KO]
def jC(l:List cV): (cH l).dF=true:=by simp only[cH,AV.dF];exact iJ _ _ Au
def CA(r:eL): (cu r).dF=true:=by simp[cu,AV.dF,AV.cB,Cz]
def wA(l:List eL): (eA l).dF=true:=by simp only[eA,AV.dF];exact iJ _ _ CA
def Hl(l:List Cell): (qZ l).dF=true:=by simp only[qZ,AV.dF];exact iJ _ _ yf
def KP(l:kB): (ow l).dF=true:=by simp[ow,AV.dF,AV.cB,Hl,qt]
def NA(l:List Expr): AV.cB (l.map bg)=true:=iJ _ _ fX
def Vn(l:List ez): AV.cB (l.map fD)=true:=iJ _ _ FN
def NB(l:List Tok): AV.cB (l.map o8)=true:=iJ _ _ FO
def tq(l:List aI): AV.cB (l.map bB)=true:=iJ _ _ (fun _=>rfl)
def KQ(l:List Test): AV.cB (l.map dH)=true:=iJ _ _ Cy
def sw(l:List Cell): AV.cB (l.map dI)=true:=iJ _ _ yf
def xk(l:List cV): AV.cB (l.map bu)=true:=iJ _ _ Au
def CB(l:List eL): AV.cB (l.map cu)=true:=iJ _ _ CA
def KR(l:List kB): AV.cB (l.map ow)=true:=iJ _ _ KP
attribute [simp] AV.dF AV.cB FN FO fX qt Cy wz yf KO Vm Cz Au jC CA wA Hl KP NA Vn NB tq KQ sw xk CB KR
def bH{α : Type}[Inhabited α]{l:List α}{i:Nat}(h:i<l.length): l.getD i default ∈ l:=by
 rw[aj,aN h];exact cU h
def jY(c:UInt8): Bool:=decide (32<=c.toNat) && decide (c.toNat<=126)
def mK(c:UInt8): Bool:=(decide (97<=c.toNat) && decide (c.toNat<=122)) ||(decide (65<=c.toNat) && decide (c.toNat<=90)) || decide (c.toNat=95)
def ep(c:UInt8): Bool:=decide (48<=c.toNat) && decide (c.toNat<=57)
def pC(c:UInt8): Bool:=mK c || ep c
def gK(s:aI): Bool:=decide (s.length<=40) && s.all jY
def bZ(v:ez): Bool :=
 if v.kind=0 then decide (v.n=0) && decide (v.s=[])
 else if v.kind=1 then decide (v.s=[])
 else if v.kind=2 then decide (v.n=0) && gK v.s
 else if v.kind=3 then decide (v.s=[]) && (decide (v.n=0) || decide (v.n=1))
 else false
end Go.Proofs.YtcjcnfcedihckaaGreatDoor
namespace Go.Proofs.YtcjcnfcedihckaaGreatDoor
open Go.AM
def oz(s:aI): Nat:=match s with
 | []=>0
 | c::_=>if mK c then(s.takeWhile pC).length else 0
structure PR where
 kind:Int
 s:aI
 n:Int
 len:Nat
 e:Int
deriving Inhabited,DecidableEq
def Rb(p:PR): AV:= .bU [.agg [I p.kind,.str p.s,I p.n,I 0,I p.len],I p.e]
attribute [go_sem] Rb
def PR.err(e:Int): PR:=⟨0,[],0,0,e⟩
def yg(s:aI): PR:=if 16<oz s then .err 5 else⟨1,s.take (oz s),0,oz s,0⟩
def nY: aI->Int->Option Int
 | [],v=>some v
 | c::r,v=>if v>(9223372036854775807-((c.toNat:Int)-48)) / 10 then none else nY r (v*10+((c.toNat:Int)-48))
def mL(s:aI): PR :=
 let n:=(s.takeWhile ep).length
 if 1<n/\(s.getD 0 0).toNat=48 then .err 11
 else match nY (s.takeWhile ep) 0 with
  | none=> .err 15
  | some v=>⟨2,[],v,n,0⟩
def j6: aI->aI->Nat->PR
 | [],_,_=> .err 11
 | c :: r, b, i =>
   if c.toNat=34 then(if 40<b.length then .err 5 else⟨3,b,0,i+1,0⟩)
   else if c.toNat=92 then
    match r with
    | []=> .err 11
    | d::r'=>if d.toNat=34\/d.toNat=92 then j6 r' (b++[d]) (i+2)else .err 11
   else if jY c then j6 r (b++[c]) (i+1)else .err 11
def jT (c : UInt8) (r b : aI) (i : Nat) : j6 (c :: r) b i =
    if c.toNat=34 then(if 40<b.length then .err 5 else⟨3,b,0,i+1,0⟩)
    else if c.toNat=92 then
     match r with
     | []=> .err 11
     | d::r'=>if d.toNat=34\/d.toNat=92 then j6 r' (b++[d]) (i+2)else .err 11
    else if jY c then j6 r (b++[c]) (i+1)else .err 11:=by
 rw[j6.eq_def];rfl
def vi: List aI:=[[46,46],[33,61],[60,61],[62,61],[40],[41],[91],[93],[44],[43],[45],[42],[47],[61],[60],[62]]
def tA(s:aI): PR:=match vi.find? (fun m=>m.isPrefixOf s)with
 | some m=>⟨4,m,0,m.length,0⟩
 | none=> .err 11
def iy(s:aI): PR :=
 let c:=s.getD 0 0
 if mK c then yg s else if ep c then mL s else if c.toNat=34 then j6 (s.drop 1) [] 1 else tA s
def pP: Nat->aI->Nat->List Tok->List Tok × Int × Int
 | 0,_,_,acc=>(acc,0,0)
 | _+1,[],_,acc=>(acc,0,0)
 | f + 1, c :: r, pos, acc =>
   if c.toNat=32 then pP f r (pos+1) acc
   else if(iy (c::r)).e=0 then pP f ((c::r).drop (iy (c::r)).len) (pos+(iy (c::r)).len) (acc++[⟨(iy (c::r)).kind,(iy (c::r)).s,(iy (c::r)).n,pos⟩])
   else([],pos,(iy (c::r)).e)
def bN(s:aI): List Tok × Int × Int:=if 200<s.length then([],0,5)else pP (s.length+1) s 0 []
def KS: List aI:=[[97,110,100],[111,114],[110,111,116],[105,102],[116,104,101,110],[101,108,115,101],[116,114,117,101],[102,97,108,115,101],[110,117,108,108]]
def CD(s:aI): Bool:=KS.contains s
def fh(s:aI): Bool:=decide (s≠[]) && decide (oz s=s.length) && decide (s.length<=16) && !CD s
def tB{p:UInt8->Bool}(s:aI): (s.takeWhile p).length<=s.length:=by
 induction s with
 | nil=>simp
 | cons c s ih=>simp only[ek];split<;>simp;omega
def NC(s:aI): oz s<=s.length:=by
 unfold oz;split
 ·simp
 ·split
  ·exact tB _
  ·simp
def Vo{s:aI}(h:mK (s.getD 0 0)=true)(hs:s≠[]): 1<=oz s:=by
 cases s with
 | nil=>exact absurd rfl hs
 | cons c r =>
   simp only[aV]at h;simp only[oz,h,if_true,ek,pC,Bool.true_or];simp
def Vp(r b:aI)(i:Nat): (j6 r b i).e=0->i+1<=(j6 r b i).len/\(j6 r b i).len<=i+r.length:=by
 fun_induction j6 r b i<;>simp_all[PR.err]<;>omega
def PS{s:aI}(h:(mL s).e=0): (mL s).len=(s.takeWhile ep).length:=by
 unfold mL at *;simp only at *;split at h
 ·simp[PR.err]at h
 ·rename_i h1;rw[if_neg h1];split at h
  ·simp[PR.err]at h
  ·rfl
def Vq{s:aI}(h:(tA s).e=0): 1<=(tA s).len/\(tA s).len<=s.length:=by
 unfold tA at *;split at h
 ·rename_i m hm;have h1:=dW hm;have h2:=fS hm;refine⟨?_,(List.isPrefixOf_iff_prefix.1 h1).length_le⟩;show 1<=m.length;simp only[vi,List.mem_cons,List.not_mem_nil,or_false]at h2;rcases h2 with h|h|h|h|h|h|h|h|h|h|h|h|h|h|h|h<;>subst h<;>simp
 ·simp[PR.err]at h
def ND{s:aI}(hs:s≠[])(h:(iy s).e=0): 1<=(iy s).len/\(iy s).len<=s.length:=by
 unfold iy at *;simp only at *;split at h
 ·rename_i h1;rw[if_pos h1];unfold yg at *;split at h
  ·simp[PR.err]at h
  ·rename_i h2;rw[if_neg h2];exact⟨Vo h1 hs,NC s⟩
 ·rename_i h1;rw[if_neg h1];split at h
  ·rename_i h2;rw[if_pos h2,PS h];refine⟨?_,tB _⟩;cases s with
   | nil=>exact absurd rfl hs
   | cons c r=>simp only[aV]at h2;simp[ek,h2]
  ·rename_i h2;rw[if_neg h2];split at h
   ·rename_i h3;rw[if_pos h3];have:=Vp _ _ _ h;have h4:1<=s.length:=by cases s with|nil=>exact absurd rfl hs|cons=>simp
    rw[List.length_drop]at this;omega
   ·rename_i h3;rw[if_neg h3];exact Vq h
end Go.Proofs.YtcjcnfcedihckaaGreatDoor
namespace Go.Proofs.YtcjcnfcedihckaaGreatDoor
open Go.AM
set_option maxRecDepth 4000
def acK(c:UInt8): j5 .or .u8 (c.toNat:Int) 32=((c.toNat ||| 32:Nat):Int):=by
 rw[mz];have h:∀ n:Fin 256,mO .or .u8 (n.val:Int) 32=((n.val ||| 32:Nat):Int):=by decide +kernel
 exact h ⟨c.toNat,c.toNat_lt⟩
def PU(c:UInt8): (decide (97<=c.toNat ||| 32) && decide (c.toNat ||| 32<=122) || decide (c.toNat=95))=mK c:=by
 have h:∀ n:Fin 256,(decide (97<=n.val ||| 32) && decide (n.val ||| 32<=122) || decide (n.val=95))=((decide (97<=n.val) && decide (n.val<=122)) ||(decide (65<=n.val) && decide (n.val<=90)) || decide (n.val=95)):=by decide +kernel
 exact h ⟨c.toNat,c.toNat_lt⟩
def Av(c:UInt8): aM aK 124 [.int .u8 c.toNat] (.bool (mK c)):=by
 rw[<-PU];refine aR Mk ?_;intro Q aC aD aE;repeat' first|refine aG ?_|refine aF ?_ ?_<;>intro hw<;>try omega|fail
 all_goals refine aS ?_ rfl
 all_goals (rw[acK]at *;(refine congrArg AV.bool ?_;rw[a_];simp only[acK,aq,dm,decide_eq_true_eq,beq_iff_eq,cF,decide_eq_false_iff_not,beq_eq_false_iff_ne,ne_eq,true_iff,false_iff,iff_true,iff_false,aB,Bool.true_eq_false,not_and,not_or]at *;omega))
def CH(c:UInt8): aM aK 127 [.int .u8 c.toNat] (.bool (ep c)):=by
 refine aR Nu ?_;intro Q aC aD aE;repeat' first|refine aG ?_|refine aF ?_ ?_<;>intro hw<;>try omega|fail
 all_goals refine aS ?_ rfl
 all_goals (refine congrArg AV.bool ?_;rw[a_];simp only[ep,aq,dm,decide_eq_true_eq,beq_iff_eq,cF,decide_eq_false_iff_not,beq_eq_false_iff_ne,ne_eq,true_iff,false_iff,iff_true,iff_false,aB,Bool.true_eq_false,not_and,not_or]at *;omega)
def CJ{p:UInt8->Bool}{s:aI}{i:Nat}(hi:i<s.length): ((s.drop i).takeWhile p).length=if p (s.getD i 0)then 1+((s.drop (i+1)).takeWhile p).length else 0:=by
 rw[eZ hi,ek,aj,aN hi];simp only[bA];split<;>simp;omega
def Rc (fn : FuncId) (cap : List AV) (hcap : AV.cB cap = true) (p : UInt8 -> Bool) (h : ∀ c : UInt8, aM aK fn (.int .u8 c.toNat :: cap) (.bool (p c))) (s : aI) (hs : s.length <= 2 ^ 62) :
    aM aK 125 [.str s,.fn (.func fn) [] cap] (I (s.takeWhile p).length):=by
 refine aR SQ ?_ (by simp[AV.dF,AV.cB,hcap]);intro Q aC aD aE;repeat' first|refine aG ?_|refine aF ?_ ?_<;>intro hw<;>try omega|fail
 with_reducible refine bX [4,5,8,9,10,11,12,13,14,15,16,17,18] (fun i:Nat=>[(8,I i)]) (fun _=>[]) (fun i=>i<=s.length/\(s.takeWhile p).length=i+((s.drop i).takeWhile p).length) (fun i=>s.length-i) (0) ?_ ?_ ?_ ?_
 ·simp
 ·rfl
 ·exact at_
 ·rintro i r ⟨hi,hp⟩;repeat' first|refine aG ?_|refine eU (h _) ?_|refine aF ?_ ?_<;>intro hw<;>try omega|fail
  ·rw[CJ (by omega)]at hp;rw[hw]at hp;exact aS (by simp at hp;simp[hp]) rfl
  ·rw[CJ (by omega)]at hp;rw[hw]at hp;refine⟨i+1,?_,?_,by first|rfl|(simp[go_sem];done),da,at_⟩<;>(try dsimp only)
   ·simp at hp;exact⟨by omega,by omega⟩
   ·omega
  ·have:i=s.length:=by omega
   subst this;exact aS (by simp at hp;simp[hp]) rfl
def SS(c:UInt8): aM aK 126 [.int .u8 c.toNat] (.bool (pC c)):=by
 refine aR Ml ?_;intro Q aC aD aE;repeat' first|refine aG ?_|refine eU (Av _) ?_|refine eU (CH _) ?_|refine aF ?_ ?_<;>intro hw<;>try omega|fail
 all_goals refine aS ?_ rfl
 all_goals simp_all[pC]
def NG(s:aI)(hs:s.length<=2 ^ 62): aM aK 81 [.str s] (I (oz s)):=by
 refine aR PE ?_;intro Q aC aD aE;cases s with
 | nil =>
   repeat' first|refine aG ?_|refine aF ?_ ?_<;>intro hw<;>try omega|fail
   all_goals (refine aS ?_ ?_<;>rfl)
 | cons c r =>
   repeat' first|refine aG ?_|refine eU (Av _) ?_|refine eU (Rc _ _ rfl pC SS _ hs) ?_|refine aF ?_ ?_<;>intro hw<;>try omega|fail
   all_goals refine aS ?_ rfl
   all_goals simp_all[oz]
def NH(s:aI)(hs:s.length<=2 ^ 62): aM aK 278 [.str s] (Rb (yg s)):=by
 refine aR PK ?_;intro Q aC aD aE;have:=NC s;repeat' first|refine aG ?_|refine eU (NG _ hs) ?_|refine aF ?_ ?_<;>intro hw<;>try omega|fail
 all_goals refine cj ?_ rfl
 all_goals (unfold yg;split<;>first|omega|rfl)
def uw{p:UInt8->Bool}{s:aI}{i:Nat}(hi:i<(s.takeWhile p).length): s.getD i 0=(s.takeWhile p).getD i 0/\p (s.getD i 0)=true:=by
 induction s generalizing i with
 | nil=>simp at hi
 | cons c r ih =>
   simp only[ek]at hi ⊢;split at hi
   ·rename_i hc;simp only[hc,if_true];cases i with
    | zero=>simp[hc]
    | succ i=>simpa using ih (by simpa using hi)
   ·simp at hi
def Ho(s:aI)(hs:s.length<=2 ^ 62): aM aK 279 [.str s] (Rb (mL s)):=by
 refine aR Mr ?_;intro Q aC aD aE;have hle:=tB (p:=ep) s;obtain⟨n,hn⟩:∃ n,(s.takeWhile ep).length=n:=⟨_,rfl⟩;have hrun:aM aK 125 [.str s,.fn (.func 127) [] []] (I n):=hn ▸ Rc _ [] rfl ep CH _ hs
 have hd:∀ i,i<n->48<=(s.getD i 0).toNat/\(s.getD i 0).toNat<=57/\(s.takeWhile ep).drop i=s.getD i 0::(s.takeWhile ep).drop (i+1):=fun i hi=>by
  obtain⟨h1,h2⟩:=uw (s:=s) (p:=ep) (i:=i) (by omega);simp only[ep,aq,decide_eq_true_eq]at h2;refine⟨h2.1,h2.2,?_⟩;rw[eZ (by omega:i<(s.takeWhile ep).length),h1,aj,aN (by omega:i<(s.takeWhile ep).length)];rfl
 repeat' first|refine aG ?_|refine aF ?_ ?_<;>intro hw<;>try omega|fail
 ·refine cj ?_ rfl;unfold mL;rw[hn];simp only;rw[if_pos (by constructor<;>omega)];rfl
 all_goals (
  have hno:¬ (1<n/\(s.getD 0 0).toNat=48):=by omega
  with_reducible refine bX [3,5,6,7,19,20,21,22,23,24,25,26,27,28,29,30,31,32,33,34,35,36,37] (fun p:Nat × Int=>[(19,I p.1),(5,I p.2)]) (fun _=>[.cells [I 0,.str [],I 0,I 0,I 0]]) (fun p=>p.1<=n/\0<=p.2/\p.2<=9223372036854775807/\nY (s.takeWhile ep) 0=nY ((s.takeWhile ep).drop p.1) p.2) (fun p=>n-p.1) (0,0) ?_ ?_ ?_ ?_
  ·simp
  ·rfl
  ·exact at_
  ·rintro⟨i,v⟩ r ⟨hi,hv,Vr,hf⟩;simp only at hi hv Vr hf;by_cases hin:i<n
   ·obtain⟨d1,d2,d3⟩:=hd i hin;rw[d3]at hf;simp only[nY]at hf;repeat' first|refine aG ?_|refine aF ?_ ?_<;>intro hw<;>try omega|fail
    ·rw[if_pos hw]at hf;refine cj ?_ rfl;unfold mL;rw[hn];simp only;rw[if_neg hno,hf];rfl
    ·rw[if_neg (by omega)]at hf;refine⟨(i+1,v*10+(((s.getD i 0).toNat:Int)-48)),?_,?_,by first|rfl|(simp[go_sem];done),da,at_⟩<;>(try dsimp only)
     ·exact⟨by omega,by omega,by omega,hf⟩
     ·omega
   ·have:i=n:=by omega
    subst this;rw[iZ (by omega)]at hf;repeat' first|refine aG ?_|refine aF ?_ ?_<;>intro hw<;>try omega|fail
    ·refine cj ?_ rfl;unfold mL;rw[hn];simp only;rw[if_neg hno,hf];rfl)
def pQ{l:aI}{i:Nat}(h:i<l.length): l.drop i=l.getD i 0::l.drop (i+1):=by
 rw[eZ h,aj,aN h];rfl
abbrev q8(s:aI): List AV:=s.map fun b=>AV.int .u8 b.toNat
def X_(s:aI)(h0:s≠[])(hs:s.length<=2 ^ 30): aM aK 280 [.str s] (Rb (j6 (s.drop 1) [] 1)):=by
 refine aR PL ?_;intro Q aC aD aE;have hl:1<=s.length:=by cases s with|nil=>exact absurd rfl h0|cons=>simp
 generalize hT:j6 (s.drop 1) [] 1=T at *;repeat' first|refine aG ?_|refine aF ?_ ?_<;>intro hw<;>try omega|fail
 with_reducible refine bX [3,4,5,6,7,8,9,10,11,12,13,14,15,16,17,18,19,20,21,22,23,24,25,26,27,28,29,30,31,32,33,34,35,36,37,38,39,40,41,42,43,44,45,46,47,48,49,50,51,52,53,54,55,56,57,58,59,60,61,62,63,64,65,66,67,68,69] (fun p:Nat × aI=>[(5,I p.1),(4,.own E1 1 p.2.length 0 p.2.length)]) (fun p=>[.cells [I 0,.str [],I 0,I 0,I 0],.vec E1 (q8 p.2)]) (fun p=>1<=p.1/\p.1<=s.length/\p.2.length<=p.1/\T=j6 (s.drop p.1) p.2 p.1) (fun p=>s.length-p.1) ((1,[])) ?_ ?_ ?_ ?_
 ·exact⟨Nat.le_refl _,hl,by simp,hT.symm⟩
 ·rfl
 ·exact at_
 ·rintro⟨i,b⟩ r ⟨Kr,hi,hb,hf⟩;simp only at Kr hi hb hf;by_cases hin:i<s.length
  ·rw[pQ hin]at hf;repeat' first|refine aG ?_|refine aF ?_ ?_<;>intro hw<;>try omega|fail
   ·refine cj ?_ rfl;rw[hf,jT,if_pos (by omega),if_pos (by omega)];rfl
   ·refine cj ?_ rfl;rw[hf,jT,if_pos (by omega),if_neg (by omega)];simp
   ·refine cj ?_ rfl;rw[hf,jT,if_neg (by omega),if_pos (by omega),pQ (by omega)];simp only;rw[if_neg (by omega)];rfl
   ·rw[jT,if_neg (by omega),if_pos (by omega),pQ (by omega)]at hf;try dsimp only at hf
    rw[if_pos (by omega)]at hf;refine⟨(i+2,b++[s.getD (i+1) 0]),?_,?_,by first|rfl|(simp[go_sem];done),da,at_⟩<;>(try dsimp only)
    ·simp only[aA,List.length_cons,List.length_nil];exact⟨by omega,by omega,by omega,hf⟩
    ·omega
   ·rw[jT,if_neg (by omega),if_pos (by omega),pQ (by omega)]at hf;try dsimp only at hf
    rw[if_pos (by omega)]at hf;refine⟨(i+2,b++[s.getD (i+1) 0]),?_,?_,by first|rfl|(simp[go_sem];done),da,at_⟩<;>(try dsimp only)
    ·simp only[aA,List.length_cons,List.length_nil];exact⟨by omega,by omega,by omega,hf⟩
    ·omega
   ·refine cj ?_ rfl;rw[hf,jT,if_neg (by omega),if_pos (by omega),iZ (by omega)];rfl
   ·refine cj ?_ rfl;rw[hf,jT,if_neg (by omega),if_neg (by omega),if_neg (by simp only[jY,aq,decide_eq_true_eq];omega)];rfl
   ·rw[jT,if_neg (by omega),if_neg (by omega),if_pos (by simp only[jY,aq,decide_eq_true_eq];omega)]at hf;refine⟨(i+1,b++[s.getD i 0]),?_,?_,by first|rfl|(simp[go_sem];done),da,at_⟩<;>(try dsimp only)
    ·simp only[aA,List.length_cons,List.length_nil];exact⟨by omega,by omega,by omega,hf⟩
    ·omega
   ·refine cj ?_ rfl;rw[hf,jT,if_neg (by omega),if_neg (by omega),if_neg (by simp only[jY,aq,decide_eq_true_eq];omega)];rfl
  ·rw[iZ (by omega)]at hf;repeat' first|refine aG ?_|refine aF ?_ ?_<;>intro hw<;>try omega|fail
   all_goals (refine cj ?_ rfl;rw[hf];simp[j6,PR.err])
end Go.Proofs.YtcjcnfcedihckaaGreatDoor
namespace Go.Proofs.YtcjcnfcedihckaaGreatDoor
open Go.AM
set_option maxRecDepth 4000
def CK(s p:aI): aM aK 106 [.str s,.str p] (.bool (p.isPrefixOf s)):=by
 refine aR qY ?_;intro Q aC aD aE;repeat' first|refine aG ?_|refine aF ?_ ?_<;>intro hw<;>try omega|fail
 all_goals refine aS ?_ rfl
 all_goals refine congrArg AV.bool ?_
 ·rw[a_,beq_iff_eq,List.isPrefixOf_iff_prefix,List.prefix_iff_eq_take];exact eq_comm
 ·symm;rw[Bool.eq_false_iff];intro h
  have:=(List.isPrefixOf_iff_prefix.1 h).length_le;omega
def strings_HasPrefix(s p:aI): aM aK 61 [.str s,.str p] (.bool (p.isPrefixOf s)):=by
 refine aR Ao ?_;intro Q aC aD aE;repeat' first|refine aG ?_|refine eU (CK _ _) ?_|refine aF ?_ ?_<;>intro hw<;>try omega|fail
 all_goals exact aS rfl rfl
def KU: aM aK 303 [] (bM vi):=by
 refine aR Nz ?_;intro Q aC aD aE;repeat' first|refine aG ?_|refine aF ?_ ?_<;>intro hw<;>try omega|fail
 all_goals exact fg (View.weak _ _ _ (by simp[AV.dF,AV.cB]))
def fI{α : Type}(p : α->Bool)(l:List α): Int:=match l.findIdx? p with
 | some i=>i
 | none=> -1
def lZ{α : Type}[Inhabited α]{p : α->Bool}{l:List α}(h:∀ k,k<l.length->p (l.getD k default)=false): fI p l = -1:=by
 have:l.findIdx? p=none:=by
  rw[List.findIdx?_eq_none_iff];intro x hx;obtain⟨k,hk,rfl⟩:=bz hx;have:=h k hk;rwa[aj,aN hk]at this
 simp[fI,this]
def mo{α : Type}[Inhabited α]{p : α->Bool}{l:List α}{i:Nat}(hi:i<l.length)(h:∀ k,k<i->p (l.getD k default)=false)(hp:p (l.getD i default)=true): fI p l=i:=by
 have:l.findIdx? p=some i:=by
  rw[List.findIdx?_eq_some_iff_getElem];refine⟨hi,?_,fun j hj=>?_⟩
  ·rwa[aj,aN hi]at hp
  ·have:=h j hj;rw[aj,aN (by omega)]at this;simpa using this
 simp[fI,this]
def xQ (fn : FuncId) (cap : List AV) (hcap : AV.cB cap = true) (p : aI -> Bool) (l : List aI) (h : ∀ x ∈ l, aM aK fn (.str x :: cap) (.bool (p x))) (hl : l.length <= 2 ^ 62) :
    aM aK 304 [bM l,.fn (.func fn) [] cap] (I (fI p l)):=by
 refine aR vI ?_ (by simp[AV.dF,AV.cB,hcap,Cz]);intro Q aC aD aE;repeat' first|refine aG ?_|refine aF ?_ ?_<;>intro hw<;>try omega|fail
 with_reducible refine bX [4,5,8,9,10,11,12,13,14,15,16,17,18] (fun i:Nat=>[(8,I i)]) (fun _=>[]) (fun i=>i<=l.length/\ ∀ k,k<i->p (l.getD k default)=false) (fun i=>l.length-i) (0) ?_ ?_ ?_ ?_
 ·simp
 ·rfl
 ·exact at_
 ·rintro i r ⟨hi,hp⟩;by_cases hin:i<l.length
  ·have hx:=h _ (bH hin);repeat' first|refine aG ?_|refine aF ?_ ?_<;>intro hw<;>try omega|fail
   ·refine aS ?_ rfl;refine congrArg I ?_;exact(mo hin hp hw).symm
   ·refine⟨i+1,?_,?_,by first|rfl|(simp[go_sem];done),da,at_⟩<;>(try dsimp only)
    ·refine⟨by omega,fun k hk=>?_⟩;by_cases lj:k<i
     ·exact hp k lj
     ·have:k=i:=by omega
      subst this;exact hw
    ·omega
  ·repeat' first|refine aG ?_|refine aF ?_ ?_<;>intro hw<;>try omega|fail
   refine aS ?_ rfl;refine congrArg I ?_;exact(lZ fun k hk=>hp k (by omega)).symm
def ux{α : Type}[Inhabited α](p : α->Bool): ∀ l:List α,(fI p l = -1/\l.find? p=none)\/ ∃ i:Nat,i<l.length/\fI p l=i/\l.find? p=some (l.getD i default)
 | []=> .inl ⟨rfl,rfl⟩
 | x :: l => by
   by_cases hp:p x=true
   ·exact .inr ⟨0,by simp,by simp[fI,List.findIdx?_cons,hp],by simp[hp]⟩
   ·rcases ux p l with⟨h1,h2⟩|⟨i,h1,h2,h3⟩
    ·left;simp only[fI]at h1;refine⟨?_,by simp[hp,h2]⟩;cases h:l.findIdx? p with
     | none=>simp[fI,List.findIdx?_cons,hp,h]
     | some k=>rw[h]at h1;simp at h1
    ·right;refine⟨i+1,by simp;omega,?_,by simp[hp,h3]⟩;simp only[fI]at h2;cases h:l.findIdx? p with
     | none=>rw[h]at h2;simp at h2
     | some k=>rw[h]at h2;simp at h2;simp[fI,List.findIdx?_cons,hp,h];omega
def SU(m s:aI): aM aK 305 [.str m,.dY E1 (.str s) 0] (.bool (m.isPrefixOf s)):=by
 refine aR Ms ?_;intro Q aC aD aE;repeat' first|refine aG ?_|refine eU (strings_HasPrefix _ _) ?_|refine aF ?_ ?_<;>intro hw<;>try omega|fail
 all_goals exact aS rfl rfl
def Ya(s:aI): aM aK 281 [.str s] (Rb (tA s)):=by
 have hc:=xQ 305 [.dY E1 (.str s) 0] rfl (fun m=>m.isPrefixOf s) vi (fun m _=>SU m s) (by decide);unfold tA;rcases ux (fun m:aI=>m.isPrefixOf s) vi with⟨h1,h2⟩|⟨i,hi,h1,h2⟩
 ·rw[h1]at hc;rw[h2];refine aR ED ?_;intro Q aC aD aE;repeat' first|refine aG ?_|refine eU KU ?_|refine xj hc ?_|refine aF ?_ ?_<;>intro hw<;>try omega|fail
  all_goals (refine cj ?_ rfl;rfl)
 ·rw[h1]at hc;rw[h2];have Ev:i<16:=hi;have hl:(vi.map bB).length=16:=rfl;refine aR ED ?_;intro Q aC aD aE;repeat' first|refine aG ?_|refine eU KU ?_|refine xj hc ?_|refine aF ?_ ?_<;>intro hw<;>try omega|fail
  all_goals (refine cj ?_ rfl;rfl)
def Yb(s:aI)(h0:s≠[])(hs:s.length<=2 ^ 30): aM aK 256 [.str s] (Rb (iy s)):=by
 refine aR PG ?_;intro Q aC aD aE;have hl:1<=s.length:=by cases s with|nil=>exact absurd rfl h0|cons=>simp
 repeat' first|refine aG ?_|refine eU (Av _) ?_|refine eU (CH _) ?_|with_reducible refine DY (NH _ (by omega)) ?_|with_reducible refine DZ (NH _ (by omega)) ?_|with_reducible refine DY (Ho _ (by omega)) ?_|with_reducible refine DZ (Ho _ (by omega)) ?_|refine eU (X_ _ h0 hs) ?_|refine eU (Ya _) ?_|refine aF ?_ ?_<;>intro hw<;>try omega|fail
 all_goals refine cj ?_ rfl
 all_goals (unfold iy;dsimp only;first
  |(rw[if_pos (by assumption)]<;>rfl)
  |(rw[if_neg (ne_true_of_eq_false (by assumption)),if_pos (by assumption)]<;>rfl)
  |(rw[if_neg (ne_true_of_eq_false (by assumption)),if_neg (ne_true_of_eq_false (by assumption)),if_pos (by omega)]<;>rfl)
  |(rw[if_neg (ne_true_of_eq_false (by assumption)),if_neg (ne_true_of_eq_false (by assumption)),if_neg (by omega)]<;>rfl))
def NI(s:aI): aM aK 82 [.str s] (.bool (CD s)):=by
 refine aR G8 ?_;intro Q aC aD aE;repeat' first|refine aG ?_|refine aF ?_ ?_<;>intro hw<;>try omega|fail
 all_goals refine aS ?_ rfl
 all_goals (refine congrArg AV.bool ?_;simp_all[CD,KS])
def uy(s:aI)(hs:s.length<=2 ^ 62): aM aK 38 [.str s] (.bool (fh s)):=by
 refine aR PD ?_;intro Q aC aD aE;repeat' first|refine aG ?_|refine eU (NG _ hs) ?_|refine eU (NI _) ?_|refine aF ?_ ?_<;>intro hw<;>try omega|fail
 all_goals refine aS ?_ rfl
 all_goals (refine congrArg AV.bool ?_;simp[fh];try simp_all;try omega)
