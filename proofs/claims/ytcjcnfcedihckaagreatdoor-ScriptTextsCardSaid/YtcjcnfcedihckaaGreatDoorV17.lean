/- Part. -/
import Derived.Test.YtcjcnfcedihckaaGreatDoorV16
import Derived.KernelRfl
set_option linter.all false
namespace Go.Proofs.YtcjcnfcedihckaaGreatDoor
open Go.AM Go.AM.W
set_option maxRecDepth 10000
def BA: Of aE 299 47 [.tmp 6] (r [gF 6]<|
 q (.draw [M 0 7,Z 7 8,A 1 8 9,K 9 10,M 0 11,Z 11 12,A 0 12 13,K 13 14,N 14 15,B .lss 10 15 16,M 16 17,MT 0 18 17,ZT 18 19 17,AT 0 19 20 17,KT 20 21 17,MT 0 22 17,ZT 22 23 17,AT 1 23 24 17,KT 24 25 17,IT true 4 21 25 26 17,AT 0 26 27 17,KT 27 28 17,MT 1 29 17,BT .eql 28 29 30 17,P 17 30 31,M 31 32,MT 0 33 32,ZT 33 34 32,AT 0 34 35 32,KT 35 36 32,MT 0 37 32,ZT 37 38 32,AT 1 38 39 32,KT 39 40 32,IT true 4 36 40 41 32,AT 1 41 42 32,KT 42 43 32,MT 2 44 32,BT .eql 43 44 45 32,P 32 45 46,M 46 6] [])<|
 .ret):=bt Tryz.func299
def rE: Of aE 300 26 [] (.block 0 (r [M 0 10,Z 10 11,A 2 11 12,K 12 13,M 13 9]<|
 c 9 k (r [M 0 15,M 1 16,M 2 17,C 299 [t 15,t 16,t 17] 18,M 18 14]<|
 c 14 (R [M 0 19,Z 19 20,A 1 20 21,K 21 22,D .add 22 1 23,Z 19 24,A 1 24 25,W 1 25 23]) (R [M 0 6,Z 6 7,A 2 7 8,⟨.store 1 (t 8) (.c (.bool true)),none,none⟩])))):=bt Tryz.func300
def BD: Of aE 301 29 [.tmp 4] (r [V z0 4]<|
 q (r [V (i6 4) 5]<|
 gL 0 [M 5 7,D .leq 7 15 8] 8 ((
 q (.block 1 (r [V (i6 4) 6]<|
 q (r [M 5 11,D .eql 11 14 12,M 12 13,MF 5 14 13,DF .eql 14 15 15 13,O 13 15 16]<|
 c 16 (R [V (i6 1) 6]) k)<|
 r [M 5 17,C 219 [t 17] 18,M 1 19,B .eql 18 19 20,M 20 21,MT 0 22 21,MT 6 23 21,MT 5 24 21,CT 220 [t 24] 25 21,CT 299 [t 22,t 23,t 25] 26 21,P 21 26 27]<|
 c 27 (r [M 5 28,M 28 4]<|
 .ret) k))<|
 R [M 5 9,D .add 9 1 10,M 10 5])))<|
 r [V z0 4]<|
 .ret):=bt Tryz.func301
def Oz: Of aE 302 9 [.tmp 4] (r [V z0 4]<|
 gR [M 0 5,D .eql 5 0 6] 6 [M 1 7,M 7 4]<|
 r [M 0 8,M 8 4]<|
 .ret):=bt Tryz.func302
def Mv: Of aE 303 2 [.tmp 0] (r [V .ai 0]<|
 r [gB false 1 e0 16 [(0,gS [46,46]),(1,gS [33,61]),(2,gS [60,61]),(3,gS [62,61]),(4,gS [40]),(5,gS [41]),(6,gS [91]),(7,gS [93]),(8,gS [44]),(9,gS [43]),(10,gS [45]),(11,gS [42]),(12,gS [47]),(13,gS [61]),(14,gS [60]),(15,gS [62])] 1,M 1 0]<|
 .ret):=bt Tryz.func303
def tX: Of aE 304 19 [.tmp 4] (r [V z0 4]<|
 q (r [M 0 6,N 6 7,V z0 8]<|
 .block 0 (.loop (r [B .lss 8 7 9]<|
 q (c 9 k (.exit 0))<|
 q (.block 1 (r [M 8 10,M 10 5]<|
 r [M 1 11,M 0 12,M 5 13,I false 1 12 13 14,K 14 15,aU (.call false (t 11) [t 15]) 16]<|
 c 16 (r [M 5 17,M 17 4]<|
 .ret) k))<|
 R [D .add 8 1 18,M 18 8])))<|
 r [V (i6 (-1)) 4]<|
 .ret):=bt Tryz.func304
def Lf: Of aE 305 7 [.tmp 3] (r [gF 3]<|
 r [K 1 4,M 0 5,C 61 [t 4,t 5] 6,M 6 3]<|
 .ret):=bt Tryz.func305
def sr: Of aE 309 37 [.cell 2 true 6] (r [J [z0,z0,z0,e0,e0,.ai] 2]<|
 gR [M 0 6,Z 6 7,A 2 7 8,K 8 9] 9 [gU [z0,z0,z0,e0,e0,.ai] [] 10,W 6 2 10]<|
 q (.draw [M 0 12,Z 12 13,A 0 13 14,A 0 14 15,K 15 16,M 0 17,Z 17 18,A 0 18 19,A 1 19 20,K 20 21,Q 268 [t 16,t 21,gJ 4] 22,M 22 11,E 11 0 23,E 11 1 24,E 11 2 25,J [z0,z0,z0,e0,e0,.ai] 3,W 6 3 23,M 24 4,M 25 5] [])<|
 r [M 0 26,M 0 27,M 4 28,M 5 29,D .neq 29 0 30,Z 26 31,A 0 31 32,A 1 32 33,W 1 33 28,Z 27 34,A 2 34 35,W 1 35 30]<|
 r [L 6 3 36,W 6 2 36]<|
 .ret):=bt Tryz.func309
def AJ: Of aE 310 27 [.tmp 6] (r [gF 6]<|
 r [M 0 8,C 319 [t 8] 9,J [z0,e0,z0,z0] 7,W 4 7 9]<|
 gR [A 0 7 10,K 10 11,M 1 12,B .neq 11 12 13,M 13 14,AF 1 7 15 14,KF 15 16 14,MF 2 17 14,BF .neq 16 17 18 14,O 14 18 19] 19 [gF 6]<|
 r [M 0 20,Z 20 21,A 1 21 22,K 22 23,D .add 23 1 24,Z 20 25,A 1 25 26,W 1 26 24]<|
 r [gT 6]<|
 .ret):=bt Tryz.func310
def wm: Of aE 311 19 [.cell 2 true 6] (r [J [z0,z0,z0,e0,e0,.ai] 2]<|
 r [M 0 5,C 292 [t 5,.c z0] 6,J [z0,z0,z0,e0,e0,.ai] 3,W 6 3 6]<|
 r [M 0 7,C 320 [t 7,gJ 1,gS [116,104,101,110]] 8]<|
 r [M 0 9,C 292 [t 9,.c z0] 10,J [z0,z0,z0,e0,e0,.ai] 4,W 6 4 10]<|
 r [M 0 11,C 320 [t 11,gJ 1,gS [101,108,115,101]] 12]<|
 q (.draw [L 6 3 13,L 6 4 14,M 0 15,aU (.mJ (.c (.fn (.func 292) [] [])) [t 15,.c z0]) 16,gB true 6 (.agg [z0,z0,z0,e0,e0,.ai]) 3 [(0,t 13),(1,t 14),(2,t 16)] 17,gU [z0,z0,z0,e0,e0,.ai] [(0,1,gJ 16),(5,1,t 17)] 18,W 6 2 18] [(t 3,t 15),(t 4,t 15)])<|
 .ret):=mM ⟨[],[],[],[],[16],[]⟩ Tryz.func311
def gM: Of aE 312 71 [.cell 2 true 6] (r [J [z0,z0,z0,e0,e0,.ai] 2]<|
 q (r [M 0 8,C 310 [t 8,gJ 4,gS [40]] 9]<|
 c 9 (r [M 0 10,C 292 [t 10,.c z0] 11,J [z0,z0,z0,e0,e0,.ai] 3,W 6 3 11]<|
 r [M 0 12,C 320 [t 12,gJ 4,gS [41]] 13]<|
 r [L 6 3 14,W 6 2 14]<|
 .ret) k)<|
 r [M 0 15,C 319 [t 15] 16,J [z0,e0,z0,z0] 4,W 4 4 16]<|
 r [gU [z0,z0,z0,e0,e0,.ai] [(0,1,gJ 1)] 17,J [z0,z0,z0,e0,e0,.ai] 5,W 6 5 17]<|
 q (r [A 0 4 18,K 18 19]<|
 .block 0 (r [D .eql 19 2 25,M 25 24]<|
 c 24 (R [A 2 4 26,K 26 27,gU [z0,z0,e0] [(0,1,gJ 1),(1,1,t 27)] 28,A 1 5 29,W 3 29 28]) (r [D .eql 19 3 31,M 31 30]<|
 c 30 (R [A 1 4 32,K 32 33,gU [z0,z0,e0] [(0,1,gJ 2),(2,1,t 33)] 34,A 1 5 35,W 3 35 34]) (r [D .eql 19 1 37,M 37 36]<|
 c 36 (r [A 1 4 39,K 39 40,C 321 [t 40] 41,M 41 38,E 38 0 42,E 38 1 43,J [z0,z0,e0] 6,W 3 6 42,M 43 7]<|
 q (r [M 7 44,U 44 45,M 45 46,AT 1 4 47 46,KT 47 48 46,CT 38 [t 48] 49 46,UT 49 50 46,P 46 50 51]<|
 c 51 (r [M 0 52,Z 52 53,A 2 53 54,⟨.store 1 (t 54) (.c (.bool true)),none,none⟩]<|
 r [gU [z0,z0,z0,e0,e0,.ai] [] 55,W 6 2 55]<|
 .ret) k)<|
 r [L 3 6 56,A 1 5 57,W 3 57 56]<|
 r [M 7 58,U 58 59]<|
 c 59 (R [A 1 4 60,K 60 61,gU [z0,z0,z0,e0,e0,.ai] [(0,1,gJ 2),(4,1,t 61)] 62,W 6 5 62]) k) (r [M 0 20,Z 20 21,A 2 21 22,⟨.store 1 (t 22) (.c (.bool true)),none,none⟩]<|
 r [gU [z0,z0,z0,e0,e0,.ai] [] 23,W 6 2 23]<|
 .ret)))))<|
 r [M 0 63,Z 63 64,A 1 64 65,K 65 66,D .add 66 1 67,Z 63 68,A 1 68 69,W 1 69 67]<|
 r [L 6 5 70,W 6 2 70]<|
 .ret):=bt Tryz.func312
def wo: Of aE 313 31 [.tmp 4] (r [V z0 4]<|
 q (r [C 241 [] 8,N 8 9,V z0 10]<|
 .block 0 (.loop (r [B .lss 10 9 11]<|
 q (c 11 k (.exit 0))<|
 q (.block 1 (r [I true 3 8 10 12,L 3 12 13,J [z0,e0,z0] 6,W 3 6 13]<|
 r [V (i6 4) 7]<|
 q (r [A 2 6 14,K 14 15,D .lss 15 3 16]<|
 c 16 (R [V (i6 1) 7]) k)<|
 r [A 2 6 17,K 17 18,M 1 19,B .eql 18 19 20,M 20 21,MT 0 22 21,MT 7 23 21,AT 1 6 24 21,KT 24 25 21,CT 310 [t 22,t 23,t 25] 26 21,P 21 26 27]<|
 c 27 (r [A 0 6 28,K 28 29,M 29 4]<|
 .ret) k))<|
 R [D .add 10 1 30,M 30 10])))<|
 r [V z0 4]<|
 .ret):=bt Tryz.func313
def Lg: Of aE 314 18 [.tmp 4] (r [gF 4]<|
 q (r [M 1 7,N 7 8,V z0 9]<|
 .block 0 (.loop (r [B .lss 9 8 10]<|
 q (c 10 k (.exit 0))<|
 q (.block 1 (r [I false 1 7 9 11,K 11 12,M 12 6]<|
 r [M 6 13,M 0 14,C 235 [t 13,t 14] 15,U 15 16]<|
 c 16 (r [gF 4]<|
 .ret) k))<|
 R [D .add 9 1 17,M 17 9])))<|
 r [gT 4]<|
 .ret):=bt Tryz.func314
def yd: Of aE 315 11 [.tmp 4] (r [V z0 4]<|
 r [V z0 5]<|
 gR [M 0 6,M 5 7,B .neq 6 7 8] 8 [M 0 9,M 9 4]<|
 r [M 1 10,M 10 4]<|
 .ret):=bt Tryz.func315
def wq: Of aE 316 9 [.tmp 4] (r [gF 4]<|
 r [M 0 5,M 1 6,C 322 [t 5,t 6] 7,D .geq 7 0 8,M 8 4]<|
 .ret):=bt Tryz.func316
def zg: Of aE 319 30 [.cell 2 true 4] (r [J [z0,e0,z0,z0] 2]<|
 q (q (.draw [M 0 3,Z 3 4,A 2 4 5,K 5 6,M 6 7,MF 0 8 7,ZF 8 9 7,AF 1 9 10 7,KF 10 11 7,MF 0 12 7,ZF 12 13 7,AF 0 13 14 7,KF 14 15 7,NF 15 16 7,BF .geq 11 16 17 7,O 7 17 18] [])<|
 c 18 (r [gU [z0,e0,z0,z0] [] 19,W 4 2 19]<|
 .ret) k)<|
 q (.draw [M 0 20,Z 20 21,A 0 21 22,K 22 23,M 0 24,Z 24 25,A 1 25 26,K 26 27,I true 4 23 27 28,L 4 28 29,W 4 2 29] [])<|
 .ret):=bt Tryz.func319
def ye: Of aE 320 14 [] (r [M 0 6,M 1 7,M 2 8,C 310 [t 6,t 7,t 8] 9,U 9 10]<|
 c 10 (R [M 0 11,Z 11 12,A 2 12 13,⟨.store 1 (t 13) (.c (.bool true)),none,none⟩]) k):=bt Tryz.func320
def IS: Of aE 321 15 [.cell 2 true 3,.tmp 3] (r [J [z0,z0,e0] 2,gF 3]<|
 q (r [M 0 4]<|
 .block 0 (r [aU (.bin .eql (t 4) (gS [110,117,108,108])) 6,M 6 5]<|
 c 5 (r [gU [z0,z0,e0] [] 7,W 3 2 7,gT 3]<|
 .ret) (r [aU (.bin .eql (t 4) (gS [102,97,108,115,101])) 9,M 9 8]<|
 c 8 (r [gU [z0,z0,e0] [(0,1,gJ 3)] 10,W 3 2 10,gT 3]<|
 .ret) (r [aU (.bin .eql (t 4) (gS [116,114,117,101])) 12,M 12 11]<|
 c 11 (r [gU [z0,z0,e0] [(0,1,gJ 3),(1,1,gJ 1)] 13,W 3 2 13,gT 3]<|
 .ret) k))))<|
 r [gU [z0,z0,e0] [] 14,W 3 2 14,gF 3]<|
 .ret):=bt Tryz.func321
def zh: Of aE 322 19 [.tmp 4] (r [V z0 4]<|
 q (r [M 0 6,N 6 7,V z0 8]<|
 .block 0 (.loop (r [B .lss 8 7 9]<|
 q (c 9 k (.exit 0))<|
 q (.block 1 (r [M 8 10,M 10 5]<|
 r [M 1 11,M 0 12,M 5 13,I false 1 12 13 14,K 14 15,B .eql 11 15 16]<|
 c 16 (r [M 5 17,M 17 4]<|
 .ret) k))<|
 R [D .add 8 1 18,M 18 8])))<|
 r [V (i6 (-1)) 4]<|
 .ret):=bt Tryz.func322
end Go.Proofs.YtcjcnfcedihckaaGreatDoor
namespace Go.AM
variable {P:Program}
def bh{p:Prop}(h:False:=by first|omega|(simp_all;done)|(simp_all;omega)): p:=h.elim
def at_{p:Prop}(h:p:=by simp (disch:=omega) only[dU,dm,and_true,go_sem,Bh,Ek,Bp,Nat.reduceAdd,Nat.reduceBEq,↓reduceIte,Int.natCast_add,Int.cast_ofNat_Int]<;>(try trivial)<;>(try omega)<;>(try (repeat (first|trivial|(refine And.intro ?_ ?_)|(congr 1;omega))))): p:=h
def bL{p:Prop}(h:p:=by repeat (first|exact XG _ _ _|refine XH rfl ?_|refine Vy rfl ?_|(simp only[Tk,Vt]))): p:=h
def jq{p:Prop}(h:p:=by first|exact bf.refl (by simp)|(repeat (first|exact bf.nil _|refine bf.cons ?_ ?_|exact View.ai _|exact View.refl _ (by simp)|exact View.weak _ _ _ (by simp)|exact View.cell _ _ rfl rfl (by simp)|refine View.fnL ?_ ?_|exact View.vec rfl (by simp) (by simp) (by simp)|refine View.Zq ?_|refine View.om ?_))): p:=h
def bs_{K:AV->Prop}{xs:List AV}{m n:Nat}{s:List UInt8}(hk:K (.str s))(hx:xs=s.map fun b=>AV.int .u8 b.toNat)(hm:m=xs.length)(hn:n=xs.length): Rj (some (.vec ⟨false,1⟩ xs)) m 0 n (.mk:Tg K):=Rl s hx hm hn hk
def aq {G K : Prop} (k : K) (h : K -> G := by
    first
    |(intro k;simp (disch:=omega) only[go_sem,au,aA,aB];exact k)
    |(intro k;with_reducible refine WX ?_ k;first|omega|(simp;done)|(simp;omega)|assumption)
    |(intro k;with_reducible exact Vx k)
    |(intro k;with_reducible exact bs_ k rfl (by simp) (by simp))
    |(intro k;with_reducible first|exact u0 (by with_reducible_and_instances assumption) k|exact u7 (by with_reducible_and_instances assumption) k)):G:=h k
def gn_ {G K : Prop} (k : K) (h : K -> G := by
    first
    |(intro k;simp (disch:=omega) only[go_sem,au,aA,aB];exact k)
    |(intro k;with_reducible refine WX ?_ k;first|omega|(simp;done)|(simp;omega)|assumption)
    |(intro k;with_reducible exact bs_ k rfl (by simp) (by simp))):G:=h k
def cc_{t:Bool}{T E p q:Prop}(h:p->T)(h':q->E)(hp:(t=true)=p)(hq:(t=false)=q): y5 (.bool t) (.mk:Tg (T,E)):=by
 subst hp hq;exact XD h h'
def gk_{t b:Bool}{T E U p q:Prop}(h:p->T)(h':q->E)(hp:(t=b)=p)(hq:(t = !b)=q): lV (.bool t) b (.mk:Tg (T,E,U)):=by
 subst hp hq;exact Vp h h'
def ak {p q T E G : Prop} (h : p -> T) (h' : q -> E) (hg : (p -> T) -> (q -> E) -> G := by
    intro h h';with_reducible first|refine cc_ h h' ?_ ?_|refine gk_ h h' ?_ ?_
    all_goals
     (try simp only[decide_eq_true_eq,decide_eq_false_iff_not,beq_iff_eq,beq_eq_false_iff_ne,bW,Bool.not_eq_false',Bool.not_true,fJ,Int.not_lt,Int.not_le,ne_eq,Int.ofNat_lt,Int.ofNat_le,not_true_eq_false,reduceCtorEq,Int.toNat_zero])
     exact rfl):G:=hg h h'
def d_ {n : FuncId} {args : List AV} {r : AV} {K G : Prop} (h : aH P n args r) (k : K) (hg : aH P n args r -> K -> G := by
    intro h k;with_reducible first|exact u0 h k|exact u7 h k):G:=hg h k
def Tr {n : FuncId} {args : List AV} {r : AV} {K G : Prop} (h : aH P n args r) (k : K) (hg : aH P n args r -> K -> G := by
    intro h k;with_reducible first|refine XI h ?_ k|refine XJ h ?_ k
    exact jq):G:=hg h k
def tN {n : FuncId} {args : List AV} {r : AV} {K G : Prop} (h : aH P n args r) (k : K) (hg : aH P n args r -> K -> G := by
    intro h k;with_reducible first|refine sE h ?_ ?_ k|refine XK h ?_ ?_ k
    ·exact jq
    ·simp[AV.flat,AV.wI]):G:=hg h k
def bw {f : FuncId} {off : Nat} {args cs ds : List AV} {r : AV} {K G : Prop} (h : bC P f off args cs ds r) (k : K) (hg : bC P f off args cs ds r -> K -> G := by
    intro h k;with_reducible first|exact H_ h rfl k|exact Ia h rfl k|exact Ib h rfl k):G:=hg h k
end Go.AM
namespace Go.Proofs.YtcjcnfcedihckaaGreatDoor
open Go.AM
abbrev aG:=List UInt8
structure eu where
 kind:Int
 n:Int
 s:aG
deriving DecidableEq,Inhabited
structure Tok where
 kind:Int
 s:aG
 n:Int
 pos:Int
deriving DecidableEq,Inhabited
inductive Expr where
 | mk (op:Int) (v:eu) (s:aG) (l:List Expr)
instance:Inhabited Expr:=⟨.mk 0 ⟨0,0,[]⟩ [] []⟩
def Expr.op: Expr->Int | .mk op _ _ _=>op
def Expr.v: Expr->eu | .mk _ v _ _=>v
def Expr.s: Expr->aG | .mk _ _ s _=>s
def Expr.l: Expr->List Expr | .mk _ _ _ l=>l
structure Test where
 kind:Int
 a:Expr
 b:Expr
 lo:Bool
 hi:Bool
deriving Inhabited
structure Cell where
 any:Bool
 neg:Bool
 tests:List Test
deriving Inhabited
structure cL where
 name:aG
 kind:Int
 order:List eu
deriving Inhabited
structure eO where
 cells:List aG
 outs:List aG
deriving Inhabited
structure Table where
 name:aG
 ins:List cL
 outs:List cL
 aZ:Int
 agg:Int
 rules:List eO
deriving Inhabited
structure j4 where
 cells:List Cell
 outs:List Expr
deriving Inhabited
structure Ready where
 table:Table
 lines:List j4
deriving Inhabited
abbrev I(n:Int): AV:= .int .i64 n
abbrev E1: El:=⟨false,1⟩
abbrev EV: El:=⟨true,3⟩
abbrev ET: El:=⟨true,4⟩
abbrev EX: El:=⟨true,6⟩
abbrev ES: El:=⟨true,15⟩
abbrev EC: El:=⟨true,3⟩
abbrev ER: El:=⟨true,2⟩
def eR(v:eu): AV:= .agg [I v.kind,I v.n,.str v.s]
def jU(t:Tok): AV:= .agg [I t.kind,.str t.s,I t.n,I t.pos]
def bj(s:aG): AV:= .str s
def aI: Expr->AV
 | .mk op v s l=> .agg [I op,I v.kind,I v.n,.str v.s,.str s,.aF false EX (l.map aI)]
def cg(l:List Expr): AV:= .aF false EX (l.map aI)
def bO(t:Test): AV:= .agg [I t.kind,I t.a.op,I t.a.v.kind,I t.a.v.n,.str t.a.v.s,.str t.a.s,cg t.a.l,I t.b.op,I t.b.v.kind,I t.b.v.n,.str t.b.v.s,.str t.b.s,cg t.b.l,.bool t.lo,.bool t.hi]
def eV(l:List Test): AV:= .aF false ES (l.map bO)
def bK(c:Cell): AV:= .agg [.bool c.any,.bool c.neg,eV c.tests]
def cU(l:List eu): AV:= .aF false EV (l.map eR)
def nk(l:List Tok): AV:= .aF false ET (l.map jU)
def bI(l:List aG): AV:= .aF false E1 (l.map bj)
def bF(c:cL): AV:= .agg [.str c.name,I c.kind,cU c.order]
def bP(l:List cL): AV:= .aF false EC (l.map bF)
def cn(r:eO): AV:= .agg [bI r.cells,bI r.outs]
def dV(l:List eO): AV:= .aF false ER (l.map cn)
def fg(t:Table): List AV:=[.str t.name,bP t.ins,bP t.outs,I t.aZ,I t.agg,dV t.rules]
def cD(t:Table): AV:= .agg (fg t)
def nF(l:List Cell): AV:= .aF false EC (l.map bK)
def kN(l:j4): AV:= .agg [nF l.cells,cg l.outs]
def yf(l:List j4): AV:= .aF false ER (l.map kN)
def vK(r:Ready): AV:= .agg [.str r.table.name,bP r.table.ins,bP r.table.outs,I r.table.aZ,I r.table.agg,dV r.table.rules,yf r.lines]
def aO(x:Expr): aI x = .agg [I x.op,I x.v.kind,I x.v.n,.str x.v.s,.str x.s,.aF false EX (x.l.map aI)]:=by
 cases x;simp only[aI];rfl
def Expr.ind{C:Expr->Prop}(h:∀ op v s l,(∀ y ∈ l,C y)->C (.mk op v s l)): ∀ x,C x
 | .mk op v s l=>h op v s l fun y _=>Expr.ind h y
attribute [go_sem] aO eR jU bO bK bF cn fg cD kN vK bj cg eV cU nk bI bP dV nF yf
@[go_sem] def Expr.W0 (op:Int) (v:eu) (s:aG) (l:List Expr):(Expr.mk op v s l).op=op:=_root_.id rfl
@[go_sem] def Expr.ZR (op:Int) (v:eu) (s:aG) (l:List Expr):(Expr.mk op v s l).v=v:=_root_.id rfl
@[go_sem] def Expr.ZS (op:Int) (v:eu) (s:aG) (l:List Expr):(Expr.mk op v s l).s=s:=_root_.id rfl
@[go_sem] def Expr.ZU (op:Int) (v:eu) (s:aG) (l:List Expr):(Expr.mk op v s l).l=l:=_root_.id rfl
def ED(v:eu): (eR v).dh=true:=rfl
def EE(t:Tok): (jU t).dh=true:=rfl
def da(x:Expr): (aI x).dh=true:=by
 induction x using Expr.ind with
 | h op v s l ih =>
   simp only[aI,AV.dh,AV.bX,c_,g_];rw[oh];intro a ha;obtain⟨y,hy,rfl⟩:=cW.1 ha;exact ih y hy
def o8(l:List Expr): (cg l).dh=true:=by simp only[cg,AV.dh];exact ie _ _ da
def BE(t:Test): (bO t).dh=true:=by simp[bO,AV.dh,AV.bX,o8]
def uE(l:List Test): (eV l).dh=true:=by simp only[eV,AV.dh];exact ie _ _ BE
def wN(c:Cell): (bK c).dh=true:=by simp[bK,AV.dh,AV.bX,uE]
def JU(l:List eu): (cU l).dh=true:=by simp only[cU,AV.dh];exact ie _ _ ED
def Ts(l:List Tok): (nk l).dh=true:=by simp only[nk,AV.dh];exact ie _ _ EE
def BG(l:List aG): (bI l).dh=true:=by simp only[bI,AV.dh];exact ie _ _ (fun _=>rfl)
def zi(c:cL): (bF c).dh=true:=by simp[bF,AV.dh,AV.bX,JU]
def e8(l:List cL): (bP l).dh=true:=by simp only[bP,AV.dh];exact ie _ _ zi
def BH(r:eO): (cn r).dh=true:=by simp[cn,AV.dh,AV.bX,BG]
def o9(l:List eO): (dV l).dh=true:=by simp only[dV,AV.dh];exact ie _ _ BH
def Gs(l:List Cell): (nF l).dh=true:=by simp only[nF,AV.dh];exact ie _ _ wN
def JV(l:j4): (kN l).dh=true:=by simp[kN,AV.dh,AV.bX,Gs,o8]
def tO(l:List Expr): AV.bX (l.map aI)=true:=ie _ _ da
def Mw(l:List eu): AV.bX (l.map eR)=true:=ie _ _ ED
def Gt(l:List Tok): AV.bX (l.map jU)=true:=ie _ _ EE
def pT(l:List aG): AV.bX (l.map bj)=true:=ie _ _ (fun _=>rfl)
def JW(l:List Test): AV.bX (l.map bO)=true:=ie _ _ BE
def iB(l:List Cell): AV.bX (l.map bK)=true:=ie _ _ wN
def EF(l:List cL): AV.bX (l.map bF)=true:=ie _ _ zi
def JX(l:List eO): AV.bX (l.map cn)=true:=ie _ _ BH
def BI(l:List j4): AV.bX (l.map kN)=true:=ie _ _ JV
attribute [simp] AV.dh AV.bX ED EE da o8 BE uE wN JU Ts BG zi e8 BH o9 Gs JV tO Mw Gt pT JW iB EF JX BI
def aV{α : Type}[Inhabited α]{l:List α}{i:Nat}(h:i<l.length): l.getD i default ∈ l:=by
 rw[aj,aK h];exact dD h
def jg(c:UInt8): Bool:=decide (32<=c.toNat) && decide (c.toNat<=126)
def kZ(c:UInt8): Bool:=(decide (97<=c.toNat) && decide (c.toNat<=122)) ||(decide (65<=c.toNat) && decide (c.toNat<=90)) || decide (c.toNat=95)
def dc(c:UInt8): Bool:=decide (48<=c.toNat) && decide (c.toNat<=57)
def lD(c:UInt8): Bool:=kZ c || dc c
def gg(s:aG): Bool:=decide (s.length<=40) && s.all jg
def bT(v:eu): Bool :=
 if v.kind=0 then decide (v.n=0) && decide (v.s=[])
 else if v.kind=1 then decide (v.s=[])
 else if v.kind=2 then decide (v.n=0) && gg v.s
 else if v.kind=3 then decide (v.s=[]) && (decide (v.n=0) || decide (v.n=1))
 else false
end Go.Proofs.YtcjcnfcedihckaaGreatDoor
namespace Go.Proofs.YtcjcnfcedihckaaGreatDoor
open Go.AM
def kO(s:aG): Nat:=match s with
 | []=>0
 | c::_=>if kZ c then(s.takeWhile lD).length else 0
structure PR where
 kind:Int
 s:aG
 n:Int
 len:Nat
 e:Int
deriving Inhabited,DecidableEq
def PY(p:PR): AV:= .bJ [.agg [I p.kind,.str p.s,I p.n,I 0,I p.len],I p.e]
def Tt(p:PR): AV:= .bJ [.agg [I p.kind,.str p.s,I p.n,I 0],I p.len,I p.e]
attribute [go_sem] PY Tt
def PR.err(e:Int): PR:=⟨0,[],0,0,e⟩
def uF(s:aG): PR:=if 16<kO s then .err 5 else⟨1,s.take (kO s),0,kO s,0⟩
def mu: aG->Int->Option Int
 | [],v=>some v
 | c::r,v=>if v>(9223372036854775807-((c.toNat:Int)-48)) / 10 then none else mu r (v*10+((c.toNat:Int)-48))
def k7(s:aG): PR :=
 let n:=(s.takeWhile dc).length
 if 1<n/\(s.getD 0 0).toNat=48 then .err 11
 else match mu (s.takeWhile dc) 0 with
  | none=> .err 15
  | some v=>⟨2,[],v,n,0⟩
def jd: aG->aG->Nat->PR
 | [],_,_=> .err 11
 | c :: r, b, i =>
   if c.toNat=34 then(if 40<b.length then .err 5 else⟨3,b,0,i+1,0⟩)
   else if c.toNat=92 then
    match r with
    | []=> .err 11
    | d::r'=>if d.toNat=34\/d.toNat=92 then jd r' (b++[d]) (i+2)else .err 11
   else if jg c then jd r (b++[c]) (i+1)else .err 11
def fG (c : UInt8) (r b : aG) (i : Nat) : jd (c :: r) b i =
    if c.toNat=34 then(if 40<b.length then .err 5 else⟨3,b,0,i+1,0⟩)
    else if c.toNat=92 then
     match r with
     | []=> .err 11
     | d::r'=>if d.toNat=34\/d.toNat=92 then jd r' (b++[d]) (i+2)else .err 11
    else if jg c then jd r (b++[c]) (i+1)else .err 11:=by
 rw[jd.eq_def];rfl
def nG: List aG:=[[46,46],[33,61],[60,61],[62,61],[40],[41],[91],[93],[44],[43],[45],[42],[47],[61],[60],[62]]
def o_(s:aG): PR:=match nG.find? (fun m=>m.isPrefixOf s)with
 | some m=>⟨4,m,0,m.length,0⟩
 | none=> .err 11
def fY(s:aG): PR :=
 let c:=s.getD 0 0
 if kZ c then uF s else if dc c then k7 s else if c.toNat=34 then jd (s.drop 1) [] 1 else o_ s
def nU: Nat->aG->Nat->List Tok->List Tok × Int × Int
 | 0,_,_,acc=>(acc,0,0)
 | _+1,[],_,acc=>(acc,0,0)
 | f + 1, c :: r, pos, acc =>
   if c.toNat=32 then nU f r (pos+1) acc
   else if(fY (c::r)).e=0 then nU f ((c::r).drop (fY (c::r)).len) (pos+(fY (c::r)).len) (acc++[⟨(fY (c::r)).kind,(fY (c::r)).s,(fY (c::r)).n,pos⟩])
   else([],pos,(fY (c::r)).e)
def aX(s:aG): List Tok × Int × Int:=if 200<s.length then([],0,5)else nU (s.length+1) s 0 []
def qJ: List aG:=[[97,110,100],[111,114],[110,111,116],[105,102],[116,104,101,110],[101,108,115,101],[116,114,117,101],[102,97,108,115,101],[110,117,108,108]]
def qK(s:aG): Bool:=qJ.contains s
def fc(s:aG): Bool:=decide (s≠[]) && decide (kO s=s.length) && decide (s.length<=16) && !qK s
def rF{p:UInt8->Bool}(s:aG): (s.takeWhile p).length<=s.length:=by
 induction s with
 | nil=>simp
 | cons c s ih=>simp only[eF];split<;>simp;omega
def EG(s:aG): kO s<=s.length:=by
 unfold kO;split
 ·simp
 ·split
  ·exact rF _
  ·simp
def Tv{s:aG}(h:kZ (s.getD 0 0)=true)(hs:s≠[]): 1<=kO s:=by
 cases s with
 | nil=>exact absurd rfl hs
 | cons c r =>
   simp only[bR]at h;simp only[kO,h,if_true,eF,lD,Bool.true_or];simp
def Tw(r b:aG)(i:Nat): (jd r b i).e=0->i+1<=(jd r b i).len/\(jd r b i).len<=i+r.length:=by
 fun_induction jd r b i<;>simp_all[PR.err]<;>omega
def OA{s:aG}(h:(k7 s).e=0): (k7 s).len=(s.takeWhile dc).length:=by
 unfold k7 at *;simp only at *;split at h
 ·simp[PR.err]at h
 ·rename_i h1;rw[if_neg h1];split at h
  ·simp[PR.err]at h
  ·rfl
def Tx{s:aG}(h:(o_ s).e=0): 1<=(o_ s).len/\(o_ s).len<=s.length:=by
 unfold o_ at *;split at h
 ·rename_i m hm;have h1:=eL hm;have h2:=fx hm;refine⟨?_,(f_.1 h1).length_le⟩;show 1<=m.length;simp only[nG,List.mem_cons,List.not_mem_nil,or_false]at h2;rcases h2 with h|h|h|h|h|h|h|h|h|h|h|h|h|h|h|h<;>subst h<;>simp
 ·simp[PR.err]at h
def EH{s:aG}(hs:s≠[])(h:(fY s).e=0): 1<=(fY s).len/\(fY s).len<=s.length:=by
 unfold fY at *;simp only at *;split at h
 ·rename_i h1;rw[if_pos h1];unfold uF at *;split at h
  ·simp[PR.err]at h
  ·rename_i h2;rw[if_neg h2];exact⟨Tv h1 hs,EG s⟩
 ·rename_i h1;rw[if_neg h1];split at h
  ·rename_i h2;rw[if_pos h2,OA h];refine⟨?_,rF _⟩;cases s with
   | nil=>exact absurd rfl hs
   | cons c r=>simp only[bR]at h2;simp[eF,h2]
  ·rename_i h2;rw[if_neg h2];split at h
   ·rename_i h3;rw[if_pos h3];have:=Tw _ _ _ h;have h4:1<=s.length:=by cases s with|nil=>exact absurd rfl hs|cons=>simp
    rw[List.length_drop]at this;omega
   ·rename_i h3;rw[if_neg h3];exact Tx h
end Go.Proofs.YtcjcnfcedihckaaGreatDoor
namespace Go.Proofs.YtcjcnfcedihckaaGreatDoor
open Go.AM
set_option maxRecDepth 4000
def ZV(c:UInt8): jD .or .u8 (c.toNat:Int) 32=((c.toNat ||| 32:Nat):Int):=by
 rw[lp];have h:∀ n:Fin 256,lT .or .u8 (n.val:Int) 32=((n.val ||| 32:Nat):Int):=by decide +kernel
 exact h ⟨c.toNat,c.toNat_lt⟩
def OB(c:UInt8): (decide (97<=c.toNat ||| 32) && decide (c.toNat ||| 32<=122) || decide (c.toNat=95))=kZ c:=by
 have h:∀ n:Fin 256,(decide (97<=n.val ||| 32) && decide (n.val ||| 32<=122) || decide (n.val=95))=((decide (97<=n.val) && decide (n.val<=122)) ||(decide (65<=n.val) && decide (n.val<=90)) || decide (n.val=95)):=by decide +kernel
 exact h ⟨c.toNat,c.toNat_lt⟩
def zj(c:UInt8): aH aE 124 [.int .u8 c.toNat] (.bool (kZ c)):=by
 rw[<-OB];refine aJ KV ?_;intro Q au aA aB;repeat' first|refine aq ?_|refine ak ?_ ?_<;>intro hw<;>try omega|fail
 all_goals refine aL ?_ rfl
 all_goals (rw[ZV]at *;(refine congrArg AV.bool ?_;rw[aS];simp only[ZV,aD,cz,decide_eq_true_eq,beq_iff_eq,bW,decide_eq_false_iff_not,beq_eq_false_iff_ne,ne_eq,true_iff,false_iff,iff_true,iff_false,Bool.false_eq_true,gy,not_and,not_or]at *;omega))
def BJ(c:UInt8): aH aE 127 [.int .u8 c.toNat] (.bool (dc c)):=by
 refine aJ Mm ?_;intro Q au aA aB;repeat' first|refine aq ?_|refine ak ?_ ?_<;>intro hw<;>try omega|fail
 all_goals refine aL ?_ rfl
 all_goals (refine congrArg AV.bool ?_;rw[aS];simp only[dc,aD,cz,decide_eq_true_eq,beq_iff_eq,bW,decide_eq_false_iff_not,beq_eq_false_iff_ne,ne_eq,true_iff,false_iff,iff_true,iff_false,Bool.false_eq_true,gy,not_and,not_or]at *;omega)
def vL{p:UInt8->Bool}{s:aG}{i:Nat}(hi:i<s.length): ((s.drop i).takeWhile p).length=if p (s.getD i 0)then 1+((s.drop (i+1)).takeWhile p).length else 0:=by
 rw[ez hi,eF,aj,aK hi];simp only[bB];split<;>simp;omega
def PZ (fn : FuncId) (cap : List AV) (hcap : AV.bX cap = true) (p : UInt8 -> Bool) (h : ∀ c : UInt8, aH aE fn (.int .u8 c.toNat :: cap) (.bool (p c))) (s : aG) (hs : s.length <= 2 ^ 62) :
    aH aE 125 [.str s,.fn (.func fn) [] cap] (I (s.takeWhile p).length):=by
 refine aJ Ro ?_ (by simp[AV.dh,AV.bX,hcap]);intro Q au aA aB;repeat' first|refine aq ?_|refine ak ?_ ?_<;>intro hw<;>try omega|fail
 with_reducible refine bn [4,5,8,9,10,11,12,13,14,15,16,17,18] (fun i:Nat=>[(8,I i)]) (fun _=>[]) (fun i=>i<=s.length/\(s.takeWhile p).length=i+((s.drop i).takeWhile p).length) (fun i=>s.length-i) (0) ?_ ?_ ?_ ?_
 ·simp
 ·rfl
 ·exact at_
 ·rintro i r ⟨hi,hp⟩;repeat' first|refine aq ?_|refine d_ (h _) ?_|refine ak ?_ ?_<;>intro hw<;>try omega|fail
  ·rw[vL (by omega)]at hp;rw[hw]at hp;exact aL (by simp at hp;simp[hp]) rfl
  ·rw[vL (by omega)]at hp;rw[hw]at hp;refine⟨i+1,?_,?_,by first|rfl|(simp[go_sem];done),bL,at_⟩<;>(try dsimp only)
   ·simp at hp;exact⟨by omega,by omega⟩
   ·omega
  ·have:i=s.length:=by omega
   subst this;exact aL (by simp at hp;simp[hp]) rfl
def Rq(c:UInt8): aH aE 126 [.int .u8 c.toNat] (.bool (lD c)):=by
 refine aJ KW ?_;intro Q au aA aB;repeat' first|refine aq ?_|refine d_ (zj _) ?_|refine d_ (BJ _) ?_|refine ak ?_ ?_<;>intro hw<;>try omega|fail
 all_goals refine aL ?_ rfl
 all_goals simp_all[lD]
def Mx(s:aG)(hs:s.length<=2 ^ 62): aH aE 81 [.str s] (I (kO s)):=by
 refine aJ Ot ?_;intro Q au aA aB;cases s with
 | nil =>
   repeat' first|refine aq ?_|refine ak ?_ ?_<;>intro hw<;>try omega|fail
   all_goals (refine aL ?_ ?_<;>rfl)
 | cons c r =>
   repeat' first|refine aq ?_|refine d_ (zj _) ?_|refine d_ (PZ _ _ rfl lD Rq _ hs) ?_|refine ak ?_ ?_<;>intro hw<;>try omega|fail
   all_goals refine aL ?_ rfl
   all_goals simp_all[kO]
def My(s:aG)(hs:s.length<=2 ^ 62): aH aE 278 [.str s] (PY (uF s)):=by
 refine aJ Ow ?_;intro Q au aA aB;have:=EG s;repeat' first|refine aq ?_|refine d_ (Mx _ hs) ?_|refine ak ?_ ?_<;>intro hw<;>try omega|fail
 all_goals refine bp ?_ rfl
 all_goals (unfold uF;split<;>first|omega|rfl)
def sM{p:UInt8->Bool}{s:aG}{i:Nat}(hi:i<(s.takeWhile p).length): s.getD i 0=(s.takeWhile p).getD i 0/\p (s.getD i 0)=true:=by
 induction s generalizing i with
 | nil=>simp at hi
 | cons c r ih =>
   simp only[eF]at hi ⊢;split at hi
   ·rename_i hc;simp only[hc,if_true];cases i with
    | zero=>simp[hc]
    | succ i=>simpa using ih (by simpa using hi)
   ·simp at hi
def Gu(s:aG)(hs:s.length<=2 ^ 62): aH aE 279 [.str s] (PY (k7 s)):=by
 refine aJ Lb ?_;intro Q au aA aB;have hle:=rF (p:=dc) s;obtain⟨n,hn⟩:∃ n,(s.takeWhile dc).length=n:=⟨_,rfl⟩;have hrun:aH aE 125 [.str s,.fn (.func 127) [] []] (I n):=hn ▸ PZ _ [] rfl dc BJ _ hs
 have hd:∀ i,i<n->48<=(s.getD i 0).toNat/\(s.getD i 0).toNat<=57/\(s.takeWhile dc).drop i=s.getD i 0::(s.takeWhile dc).drop (i+1):=fun i hi=>by
  obtain⟨h1,h2⟩:=sM (s:=s) (p:=dc) (i:=i) (by omega);simp only[dc,aD,decide_eq_true_eq]at h2;refine⟨h2.1,h2.2,?_⟩;rw[ez (by omega:i<(s.takeWhile dc).length),h1,aj,aK (by omega:i<(s.takeWhile dc).length)];rfl
 repeat' first|refine aq ?_|refine ak ?_ ?_<;>intro hw<;>try omega|fail
 ·refine bp ?_ rfl;unfold k7;rw[hn];simp only;rw[if_pos (by constructor<;>omega)];rfl
 all_goals (
  have hno:¬ (1<n/\(s.getD 0 0).toNat=48):=by omega
  with_reducible refine bn [3,5,6,7,19,20,21,22,23,24,25,26,27,28,29,30,31,32,33,34,35,36,37] (fun p:Nat × Int=>[(19,I p.1),(5,I p.2)]) (fun _=>[.cells [I 0,.str [],I 0,I 0,I 0]]) (fun p=>p.1<=n/\0<=p.2/\p.2<=9223372036854775807/\mu (s.takeWhile dc) 0=mu ((s.takeWhile dc).drop p.1) p.2) (fun p=>n-p.1) (0,0) ?_ ?_ ?_ ?_
  ·simp
  ·rfl
  ·exact at_
  ·rintro⟨i,v⟩ r ⟨hi,hv,Mz,hf⟩;simp only at hi hv Mz hf;by_cases hin:i<n
   ·obtain⟨d1,d2,d3⟩:=hd i hin;rw[d3]at hf;simp only[mu]at hf;repeat' first|refine aq ?_|refine ak ?_ ?_<;>intro hw<;>try omega|fail
    ·rw[if_pos hw]at hf;refine bp ?_ rfl;unfold k7;rw[hn];simp only;rw[if_neg hno,hf];rfl
    ·rw[if_neg (by omega)]at hf;refine⟨(i+1,v*10+(((s.getD i 0).toNat:Int)-48)),?_,?_,by first|rfl|(simp[go_sem];done),bL,at_⟩<;>(try dsimp only)
     ·exact⟨by omega,by omega,by omega,hf⟩
     ·omega
   ·have:i=n:=by omega
    subst this;rw[dN (by omega)]at hf;repeat' first|refine aq ?_|refine ak ?_ ?_<;>intro hw<;>try omega|fail
    ·refine bp ?_ rfl;unfold k7;rw[hn];simp only;rw[if_neg hno,hf];rfl)
def jj{l:aG}{i:Nat}(h:i<l.length): l.drop i=l.getD i 0::l.drop (i+1):=by
 rw[ez h,aj,aK h];rfl
abbrev ot(s:aG): List AV:=s.map fun b=>AV.int .u8 b.toNat
def VJ(s:aG)(h0:s≠[])(hs:s.length<=2 ^ 30): aH aE 280 [.str s] (PY (jd (s.drop 1) [] 1)):=by
 refine aJ Ox ?_;intro Q au aA aB;have hl:1<=s.length:=by cases s with|nil=>exact absurd rfl h0|cons=>simp
 generalize hT:jd (s.drop 1) [] 1=T at *;repeat' first|refine aq ?_|refine ak ?_ ?_<;>intro hw<;>try omega|fail
 with_reducible refine bn [3,4,5,6,7,8,9,10,11,12,13,14,15,16,17,18,19,20,21,22,23,24,25,26,27,28,29,30,31,32,33,34,35,36,37,38,39,40,41,42,43,44,45,46,47,48,49,50,51,52,53,54,55,56,57,58,59,60,61,62,63,64,65,66,67,68,69] (fun p:Nat × aG=>[(5,I p.1),(4,.own E1 1 p.2.length 0 p.2.length)]) (fun p=>[.cells [I 0,.str [],I 0,I 0,I 0],.vec E1 (ot p.2)]) (fun p=>1<=p.1/\p.1<=s.length/\p.2.length<=p.1/\T=jd (s.drop p.1) p.2 p.1) (fun p=>s.length-p.1) ((1,[])) ?_ ?_ ?_ ?_
 ·exact⟨Nat.le_refl _,hl,by simp,hT.symm⟩
 ·rfl
 ·exact at_
 ·rintro⟨i,b⟩ r ⟨JN,hi,hb,hf⟩;simp only at JN hi hb hf;by_cases hin:i<s.length
  ·rw[jj hin]at hf;repeat' first|refine aq ?_|refine ak ?_ ?_<;>intro hw<;>try omega|fail
   ·refine bp ?_ rfl;rw[hf,fG,if_pos (by omega),if_pos (by omega)];rfl
   ·refine bp ?_ rfl;rw[hf,fG,if_pos (by omega),if_neg (by omega)];simp
   ·refine bp ?_ rfl;rw[hf,fG,if_neg (by omega),if_pos (by omega),jj (by omega)];simp only;rw[if_neg (by omega)];rfl
   ·rw[fG,if_neg (by omega),if_pos (by omega),jj (by omega)]at hf;try dsimp only at hf
    rw[if_pos (by omega)]at hf;refine⟨(i+2,b++[s.getD (i+1) 0]),?_,?_,by first|rfl|(simp[go_sem];done),bL,at_⟩<;>(try dsimp only)
    ·simp only[aC,List.length_cons,List.length_nil];exact⟨by omega,by omega,by omega,hf⟩
    ·omega
   ·rw[fG,if_neg (by omega),if_pos (by omega),jj (by omega)]at hf;try dsimp only at hf
    rw[if_pos (by omega)]at hf;refine⟨(i+2,b++[s.getD (i+1) 0]),?_,?_,by first|rfl|(simp[go_sem];done),bL,at_⟩<;>(try dsimp only)
    ·simp only[aC,List.length_cons,List.length_nil];exact⟨by omega,by omega,by omega,hf⟩
    ·omega
   ·refine bp ?_ rfl;rw[hf,fG,if_neg (by omega),if_pos (by omega),dN (by omega)];rfl
   ·refine bp ?_ rfl;rw[hf,fG,if_neg (by omega),if_neg (by omega),if_neg (by simp only[jg,aD,decide_eq_true_eq];omega)];rfl
   ·rw[fG,if_neg (by omega),if_neg (by omega),if_pos (by simp only[jg,aD,decide_eq_true_eq];omega)]at hf;refine⟨(i+1,b++[s.getD i 0]),?_,?_,by first|rfl|(simp[go_sem];done),bL,at_⟩<;>(try dsimp only)
    ·simp only[aC,List.length_cons,List.length_nil];exact⟨by omega,by omega,by omega,hf⟩
    ·omega
   ·refine bp ?_ rfl;rw[hf,fG,if_neg (by omega),if_neg (by omega),if_neg (by simp only[jg,aD,decide_eq_true_eq];omega)];rfl
  ·rw[dN (by omega)]at hf;repeat' first|refine aq ?_|refine ak ?_ ?_<;>intro hw<;>try omega|fail
   all_goals (refine bp ?_ rfl;rw[hf];simp[jd,PR.err])
