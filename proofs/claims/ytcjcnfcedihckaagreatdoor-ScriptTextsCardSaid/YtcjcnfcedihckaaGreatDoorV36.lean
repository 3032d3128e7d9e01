/- Part. -/
import Derived.Test.YtcjcnfcedihckaaGreatDoorV35
import Derived.KernelRfl
set_option linter.all false
set_option maxHeartbeats 8000000
namespace Go.Proofs.YtcjcnfcedihckaaGreatDoor
open Go.AM Go.AM.W
set_option maxRecDepth 10000
def Dk: Of aE 42 90 [.tmp 2] (r [X 0 1,V .ai 2]<|
 q (.draw [A 0 1 10,K 10 11,Q 87 [] 12,A 3 1 13,K 13 14,W.I false 1 12 14 15,K 15 16,Q 88 [] 17,A 4 1 18,K 18 19,W.I false 1 17 19 20,K 20 21,gB false 1 e0 4 [(0,gS [116,97,98,108,101]),(1,t 11),(2,t 16),(3,t 21)] 22,Q 44 [t 22] 23,aU (.iG true ⟨false,1⟩ e0 1 [(0,t 23)]) 24,M 24 3] [])<|
 q (r [A 1 1 25,K 25 26,N 26 27,V z0 28]<|
 .block 0 (.loop (r [B .lss 28 27 29]<|
 q (c 29 k (.exit 0))<|
 q (.block 1 (r [W.I true 3 26 28 30,L 3 30 31,J [e0,z0,.ai] 5,W 3 5 31]<|
 .draw [M 3 32,A 0 5 33,K 33 34,Q 89 [] 35,A 1 5 36,K 36 37,W.I false 1 35 37 38,K 38 39,gB false 1 e0 3 [(0,gS [105,110]),(1,t 34),(2,t 39)] 40,Q 44 [t 40] 41,gB false 1 e0 1 [(0,t 41)] 42,gA false 1 32 42 43,M 43 3] []))<|
 R [D .add 28 1 44,M 44 28])))<|
 q (r [A 2 1 45,K 45 46,N 46 47,V z0 48]<|
 .block 2 (.loop (r [B .lss 48 47 49]<|
 q (c 49 k (.exit 2))<|
 q (.block 3 (r [W.I true 3 46 48 50,L 3 50 51,J [e0,z0,.ai] 7,W 3 7 51]<|
 .draw [M 3 52,A 0 7 53,K 53 54,Q 89 [] 55,A 1 7 56,K 56 57,W.I false 1 55 57 58,K 58 59,gB false 1 e0 3 [(0,gS [111,117,116]),(1,t 54),(2,t 59)] 60,Q 44 [t 60] 61,A 2 7 62,K 62 63,Q 43 [t 61,t 63] 64,gB false 1 e0 1 [(0,t 64)] 65,gA false 1 52 65 66,M 66 3] []))<|
 R [D .add 48 1 67,M 67 48])))<|
 q (r [A 5 1 68,K 68 69,N 69 70,V z0 71]<|
 .block 4 (.loop (r [B .lss 71 70 72]<|
 q (c 72 k (.exit 4))<|
 q (.block 5 (r [W.I true 2 69 71 73,L 2 73 74,J [.ai,.ai] 9,W 2 9 74]<|
 .draw [M 3 75,A 0 9 76,K 76 77,Q 90 [t 77,gS [32,124,32]] 78,A 1 9 79,K 79 80,Q 90 [t 80,gS [32,124,32]] 81,gB false 1 e0 4 [(0,gS [114,117,108,101]),(1,t 78),(2,gS [58]),(3,t 81)] 82,Q 44 [t 82] 83,gB false 1 e0 1 [(0,t 83)] 84,gA false 1 75 84 85,M 85 3] []))<|
 R [D .add 71 1 86,M 86 71])))<|
 r [M 3 87,gB false 1 e0 1 [(0,gS [101,110,100])] 88,gA false 1 87 88 89,M 89 2]<|
 .ret):=mM ⟨[24],[],[],[],[],[]⟩ Tryz.func42
def Fs: Of aE 30 134 [.tmp 2] (r [X 0 1,V .ai 2]<|
 q (.draw [A 0 1 8,K 8 9,aU (.bin .add (gS [116,97,98,108,101,32]) (t 9)) 10,aU (.bin .add (t 10) (gS [32])) 11,Q 67 [] 12,A 3 1 13,K 13 14,D .sub 14 1 15,W.I false 1 12 15 16,K 16 17,B .add 11 17 18,aU (.bin .add (t 18) (gS [32])) 19,Q 68 [] 20,A 4 1 21,K 21 22,W.I false 1 20 22 23,K 23 24,B .add 19 24 25,aU (.iG true ⟨false,1⟩ e0 1 [(0,t 25)]) 26,M 26 3] [])<|
 q (r [V z0 4]<|
 gL 0 [M 4 27,A 1 1 28,K 28 29,N 29 30,B .lss 27 30 31] 31 ((
 q (.block 1 (.draw [M 3 34,A 1 1 35,K 35 36,M 4 37,W.I true 3 36 37 38,A 0 38 39,K 39 40,aU (.bin .add (gS [105,110,32]) (t 40)) 41,aU (.bin .add (t 41) (gS [32])) 42,Q 69 [] 43,A 1 1 44,K 44 45,M 4 46,W.I true 3 45 46 47,A 1 47 48,K 48 49,D .sub 49 1 50,W.I false 1 43 50 51,K 51 52,B .add 42 52 53,gB false 1 e0 1 [(0,t 53)] 54,gA false 1 34 54 55,M 55 3] []))<|
 R [M 4 32,D .add 32 1 33,M 33 4])))<|
 q (r [V z0 5]<|
 gL 2 [M 5 56,A 2 1 57,K 57 58,N 58 59,B .lss 56 59 60] 60 ((
 q (.block 3 (q (.draw [A 2 1 63,K 63 64,M 5 65,W.I true 3 64 65 66,A 0 66 67,K 67 68,aU (.bin .add (gS [111,117,116,32]) (t 68)) 69,aU (.bin .add (t 69) (gS [32])) 70,Q 69 [] 71,A 2 1 72,K 72 73,M 5 74,W.I true 3 73 74 75,A 1 75 76,K 76 77,D .sub 77 1 78,W.I false 1 71 78 79,K 79 80,B .add 70 80 81,M 81 6] [])<|
 q (r [A 2 1 82,K 82 83,M 5 84,W.I true 3 83 84 85,A 2 85 86,K 86 87,N 87 88,D .gtr 88 0 89]<|
 c 89 (R [M 6 90,aU (.bin .add (t 90) (gS [32])) 91,A 2 1 92,K 92 93,M 5 94,W.I true 3 93 94 95,A 2 95 96,K 96 97,C 32 [t 97] 98,B .add 91 98 99,M 99 6]) k)<|
 R [M 3 100,M 6 101,gB false 1 e0 1 [(0,t 101)] 102,gA false 1 100 102 103,M 103 3]))<|
 R [M 5 61,D .add 61 1 62,M 62 5])))<|
 q (r [V z0 7]<|
 gL 4 [M 7 104,A 5 1 105,K 105 106,N 106 107,B .lss 104 107 108] 108 ((
 q (.block 5 (.draw [M 3 111,A 5 1 112,K 112 113,M 7 114,W.I true 2 113 114 115,A 0 115 116,K 116 117,Q 70 [t 117,gS [32,124,32]] 118,aU (.bin .add (gS [114,117,108,101,32]) (t 118)) 119,aU (.bin .add (t 119) (gS [32,58,32])) 120,A 5 1 121,K 121 122,M 7 123,W.I true 2 122 123 124,A 1 124 125,K 125 126,Q 70 [t 126,gS [32,124,32]] 127,B .add 120 127 128,gB false 1 e0 1 [(0,t 128)] 129,gA false 1 111 129 130,M 130 3] []))<|
 R [M 7 109,D .add 109 1 110,M 110 7])))<|
 r [M 3 131,gB false 1 e0 1 [(0,gS [101,110,100])] 132,gA false 1 131 132 133,M 133 2]<|
 .ret):=mM ⟨[26],[],[],[],[],[]⟩ Tryz.func30
def oQ(k:Int): aH aE 45 [I k] (.str (lB k)):=by
 unfold lB;refine aJ Gc ?_;intro Q au aA aB;repeat' first|refine aq ?_|refine ak ?_ ?_<;>intro hw<;>try omega|fail
 all_goals first|exact bh|(refine aL ?_ rfl;simp_all;done)|skip
structure Uz (t:Table):Prop where
 name:t.name.length<=2 ^ 20
 pol:0<=t.aZ/\t.aZ<=6
 agg:0<=t.agg/\t.agg<=4
 ins:t.ins.length<=2 ^ 20/\ ∀ c ∈ t.ins,c.name.length<=2 ^ 20/\0<=c.kind/\c.kind<=3
 outs:t.outs.length<=2 ^ 20/\ ∀ c ∈ t.outs,(c.name.length<=2 ^ 20/\0<=c.kind/\c.kind<=3)/\Qs c.order
 rules:t.rules.length<=2 ^ 20/\ ∀ r ∈ t.rules,smS r.cells/\smS r.outs
def oR{l:List aG}{k:Int}(h0:0<=k)(h1:k<l.length): (l.map bj).getD k.toNat .undef = .str (l.getD k.toNat []):=by
 have:k.toNat<l.length:=by omega
 simp[aj,this,bj]
def nB{a b c:aG}(ha:a.length<=2 ^ 20)(hb:b.length<=2 ^ 20)(hc:c.length<=2 ^ 20): (cH [a,b,c]).length<=2 ^ 30:=by
 rw[kV];simp;omega
def HF{a b c d:aG}(ha:a.length<=2 ^ 20)(hb:b.length<=2 ^ 38)(hc:c.length<=2 ^ 38)(hd:d.length<=2 ^ 38): (cH [a,b,c,d]).length<=2 ^ 40:=by
 rw[zU];simp;omega
def Jf(k:Int): (ud k).length<=8:=by
 unfold ud;rw[aj];cases hq:zS[k.toNat]? with
 | none=>simp
 | some z =>
   have:∀ z ∈ zS,z.length<=8:=by decide
   exact this z (gZ hq)
def Jg(k:Int): (wc k).length<=8:=by
 unfold wc;rw[aj];cases hq:s6[k.toNat]? with
 | none=>simp
 | some z =>
   have:∀ z ∈ s6,z.length<=8:=by decide
   exact this z (gZ hq)
def s9(k:Int): (kF k).length<=8:=by
 unfold kF;rw[aj];cases hq:s7[k.toNat]? with
 | none=>simp
 | some z =>
   have:∀ z ∈ s7,z.length<=8:=by decide
   exact this z (gZ hq)
def NZ(s:aG): bj s = .str s:=rfl
def N0(t:Table)(h:Uz t): aH aE 42 [cD t] (bI (pL t)):=by
 obtain⟨h1,⟨p0,p1⟩,⟨a0,a1⟩,⟨i1,i2⟩,⟨o1,o2⟩,r1,r2⟩:=h;have c1:=HD;have c2:=Pm;have c3:=NW;have c4:=kp [Ht,t.name,ud t.aZ,wc t.agg] (by simp) (HF (by simp) (by omega) (by have:=Jf t.aZ;omega) (by have:=Jg t.agg;omega));have g1:(zS.map bj).getD t.aZ.toNat .undef = .str (ud t.aZ):=oR p0 (by simp[zS];omega);have g2:(s6.map bj).getD t.agg.toNat .undef = .str (wc t.agg):=oR a0 (by simp[s6];omega);have l1:zS.length=7:=rfl;have l2:s6.length=5:=rfl;have l3:s7.length=4:=rfl;have hh:cH [Ht,t.name,ud t.aZ,wc t.agg]=w9 t:=rfl;rw[hh]at c4;obtain⟨E,hE⟩:∃ E,pL t=E:=⟨_,rfl⟩;rw[hE];unfold pL w_ at hE;generalize w9 t=hd at *;generalize ud t.aZ=pw at *;generalize wc t.agg=aw at *;simp only[bI,aR,bu,bj]at c1 c2 c3 c4;simp only[cD,fg,bP,dV,bI];refine aJ Dk ?_;intro Q au aA aB;repeat' first|simp (disch:=omega) only[go_sem,au,aA,aB,g1,g2,l1,l2,l3,bS]|refine aq ?_|refine tN c4 ?_|refine ak ?_ ?_<;>intro hw<;>try omega|fail
 with_reducible refine bn [3,5,28,29,30,31,32,33,34,35,36,37,38,39,40,41,42,43,44] (fun q:Nat × ae=>[(28,I q.1),(3,.own E1 1 (q.1+1) 0 (q.1+1))]) (fun q=>q.2) (fun q=>q.1<=t.ins.length/\q.2[0]? = some (.cells [.str t.name,.aF false EC (t.ins.map bF),.aF false EC (t.outs.map bF),I t.aZ,I t.agg,.aF false ER (t.rules.map cn)])/\q.2[1]? = some (.vec E1 ((hd::(t.ins.take q.1).map mC).map bj))) (fun q=>t.ins.length-q.1) (0,_) ⟨bD _,rfl,rfl⟩ rfl ?_ ?_
 ·exact at_
 rintro⟨i,S⟩ r ⟨k1,f0,f2⟩;dsimp only at k1 f0 f2;by_cases hi:i<t.ins.length
 ·have hc:=i2 _ (aV hi);have hts:=take_succ hi;obtain⟨c,hce⟩:∃ c,t.ins.getD i default=c:=⟨_,rfl⟩;rw[hce]at hc hts;have g3:(s7.map bj).getD c.kind.toNat .undef = .str (kF c.kind):=oR hc.2.1 (by simp[s7];omega);have c5:=kp [Ur,c.name,kF c.kind] (by simp) (bY (nB (by simp) (by omega) (by have:=s9 c.kind;omega)) (by decide));have hw:cH [Ur,c.name,kF c.kind]=mC c:=rfl;rw[hw]at c5;have eW:((hd::(t.ins.take (i+1)).map mC).map bj)=((hd::(t.ins.take i).map mC).map bj)++[.str (mC c)]:=by rw[hts];simp[bj]
  have jY:((hd::(t.ins.take i).map mC).map bj).length=i+1:=by simp;omega
  generalize mC c=w at *;generalize kF c.kind=kw at *;generalize ((hd::(t.ins.take i).map mC).map bj)=X at *;simp only[bI,aR,bu,bj]at c5;have Kt:∀ d:bx,(S++[d])[0]? = some (.cells [.str t.name,.aF false EC (t.ins.map bF),.aF false EC (t.outs.map bF),I t.aZ,I t.agg,.aF false ER (t.rules.map cn)]):=fun d=>dY f0 d;have UA:∀ d:bx,(S++[d])[1]? = some (.vec E1 X):=fun d=>dY f2 d;have uk:=ey f2;repeat' first|simp (disch:=omega) only[go_sem,au,aA,aB,g3,l3,bS,f0,f2,Kt,UA,hce,jY]|refine aq ?_|refine tN c5 ?_|refine ak ?_ ?_<;>intro hw<;>try omega|fail
  all_goals first|(exfalso;omega)|skip
  refine⟨(i+1,_),⟨by dsimp only;omega,?_,?_⟩,by dsimp only;omega,rfl,bL,?_⟩
  ·dsimp only;rw[List.getElem?_set_ne (by decide)];exact Kt _
  ·dsimp only;rw[List.getElem?_set_self (by simp;omega)];exact congrArg (fun z=>some (bx.vec E1 z)) eW.symm
  ·dsimp only;simp (disch:=omega) only[dU,dm,and_true,go_sem,au,aA,aB,Int.natCast_add,Int.cast_ofNat_Int]<;>(try trivial)<;>(try omega)<;>(try (repeat (first|trivial|(refine And.intro ?_ ?_)|(congr 1;omega))))
 have hi:i=t.ins.length:=by omega
 subst hi;rw[aT (by omega)]at f2;repeat' first|simp (disch:=omega) only[go_sem,au,aA,aB,f0,f2]|refine aq ?_|refine ak ?_ ?_<;>intro hw<;>try omega|fail
 obtain⟨A,hA⟩:∃ A,hd::t.ins.map mC=A:=⟨_,rfl⟩;have GI:t.ins.length+1=A.length:=by rw[<-hA];simp
 rw[hA]at f2;with_reducible refine bn [3,7,48,49,50,51,52,53,54,55,56,57,58,59,60,61,62,63,64,65,66,67] (fun q:Nat × ae=>[(48,I q.1),(3,.own E1 1 (A.length+q.1) 0 (A.length+q.1))]) (fun q=>q.2) (fun q=>q.1<=t.outs.length/\q.2[0]? = some (.cells [.str t.name,.aF false EC (t.ins.map bF),.aF false EC (t.outs.map bF),I t.aZ,I t.agg,.aF false ER (t.rules.map cn)])/\q.2[1]? = some (.vec E1 ((A++(t.outs.take q.1).map jE).map bj))) (fun q=>t.outs.length-q.1) (0,_) ⟨bD _,f0,by simpa using f2⟩ rfl ?_ ?_
 ·simp only[<-GI,de];exact at_
 clear f0 f2;rintro⟨i,S⟩ r ⟨k1,f0,f2⟩;dsimp only at k1 f0 f2;by_cases hi:i<t.outs.length
 ·have hc:=o2 _ (aV hi);have hts:=take_succ hi;obtain⟨c,hce⟩:∃ c,t.outs.getD i default=c:=⟨_,rfl⟩;rw[hce]at hc hts;have g3:(s7.map bj).getD c.kind.toNat .undef = .str (kF c.kind):=oR hc.1.2.1 (by simp[s7];omega);have c5:=kp [Cr,c.name,kF c.kind] (by simp) (bY (nB (by simp) (by omega) (by have:=s9 c.kind;omega)) (by decide));have c6:=Ay (cH [Cr,c.name,kF c.kind]) c.order (nB (by simp) (by omega) (by have:=s9 c.kind;omega)) hc.2;have hw:jB (cH [Cr,c.name,kF c.kind]) c.order=jE c:=rfl;have MC:=hc.2.1;rw[hw]at c6;generalize cH [Cr,c.name,kF c.kind]=ww at *;generalize kF c.kind=kw at *;simp only[bI,cU,aR,bu,bj]at c5 c6;have eW:((A++(t.outs.take (i+1)).map jE).map bj)=((A++(t.outs.take i).map jE).map bj)++[.str (jE c)]:=by rw[hts];simp[bj]
  have jY:((A++(t.outs.take i).map jE).map bj).length=A.length+i:=by simp;omega
  generalize jE c=w at *;generalize ((A++(t.outs.take i).map jE).map bj)=X at *;have Kt:∀ d:bx,(S++[d])[0]? = some (.cells [.str t.name,.aF false EC (t.ins.map bF),.aF false EC (t.outs.map bF),I t.aZ,I t.agg,.aF false ER (t.rules.map cn)]):=fun d=>dY f0 d;have UA:∀ d:bx,(S++[d])[1]? = some (.vec E1 X):=fun d=>dY f2 d;have uk:=ey f2;repeat' first|simp (disch:=omega) only[go_sem,au,aA,aB,g3,l3,bS,f0,f2,Kt,UA,hce,jY]|refine aq ?_|refine tN c5 ?_|refine ak ?_ ?_<;>intro hw<;>try omega|fail
  all_goals first|(exfalso;omega)|skip
  refine⟨(i+1,_),⟨by dsimp only;omega,?_,?_⟩,by dsimp only;omega,rfl,bL,?_⟩
  ·dsimp only;rw[List.getElem?_set_ne (by decide)];exact Kt _
  ·dsimp only;rw[List.getElem?_set_self (by simp;omega)];exact congrArg (fun z=>some (bx.vec E1 z)) eW.symm
  ·dsimp only;simp (disch:=omega) only[dU,dm,and_true,go_sem,au,aA,aB,Int.natCast_add,Int.cast_ofNat_Int]<;>(try trivial)<;>(try omega)<;>(try (repeat (first|trivial|(refine And.intro ?_ ?_)|(congr 1;omega))))
 have hi:i=t.outs.length:=by omega
 subst hi;rw[aT (by omega)]at f2;repeat' first|simp (disch:=omega) only[go_sem,au,aA,aB,f0,f2]|refine aq ?_|refine ak ?_ ?_<;>intro hw<;>try omega|fail
 obtain⟨B,hB⟩:∃ B,A++t.outs.map jE=B:=⟨_,rfl⟩;have hBl:A.length+t.outs.length=B.length:=by rw[<-hB];simp
 rw[hB]at f2;with_reducible refine bn [3,9,71,72,73,74,75,76,77,78,79,80,81,82,83,84,85,86] (fun q:Nat × ae=>[(71,I q.1),(3,.own E1 1 (B.length+q.1) 0 (B.length+q.1))]) (fun q=>q.2) (fun q=>q.1<=t.rules.length/\q.2[0]? = some (.cells [.str t.name,.aF false EC (t.ins.map bF),.aF false EC (t.outs.map bF),I t.aZ,I t.agg,.aF false ER (t.rules.map cn)])/\q.2[1]? = some (.vec E1 ((B++(t.rules.take q.1).map gY).map bj))) (fun q=>t.rules.length-q.1) (0,_) ⟨bD _,f0,by simpa using f2⟩ rfl ?_ ?_
 ·simp only[<-hBl,de];exact at_
 clear f0 f2;rintro⟨i,S⟩ r ⟨k1,f0,f2⟩;dsimp only at k1 f0 f2;by_cases hi:i<t.rules.length
 ·have hc:=r2 _ (aV hi);have hts:=take_succ hi;obtain⟨c,hce⟩:∃ c,t.rules.getD i default=c:=⟨_,rfl⟩;rw[hce]at hc hts;have c5:=strings_Join c.cells [32,124,32] (by have:=hc.1.1;omega) (by have:=s8 hc.1;unfold lA at this;omega);have c6:=strings_Join c.outs [32,124,32] (by have:=hc.2.1;omega) (by have:=s8 hc.2;unfold lA at this;omega);have b1:=s8 hc.1;have b2:=s8 hc.2;have c7:=kp [Hu,lA c.cells,[58],lA c.outs] (by simp) (HF (by simp) (by omega) (by simp) (by omega));have hw:cH [Hu,lA c.cells,[58],lA c.outs]=gY c:=rfl;have sk:Lib.join c.cells [32,124,32]=lA c.cells:=rfl;have eN:Lib.join c.outs [32,124,32]=lA c.outs:=rfl;rw[hw]at c7;rw[sk]at c5;rw[eN]at c6;have fK:=hc.1.1;have adT:=hc.2.1;generalize lA c.cells=wa at *;generalize lA c.outs=wb at *;simp only[bI,aR,bu,NZ]at c5 c6 c7;have eW:((B++(t.rules.take (i+1)).map gY).map bj)=((B++(t.rules.take i).map gY).map bj)++[.str (gY c)]:=by rw[hts];simp[bj]
  have jY:((B++(t.rules.take i).map gY).map bj).length=B.length+i:=by simp;omega
  generalize gY c=w at *;generalize ((B++(t.rules.take i).map gY).map bj)=X at *;have Kt:∀ d:bx,(S++[d])[0]? = some (.cells [.str t.name,.aF false EC (t.ins.map bF),.aF false EC (t.outs.map bF),I t.aZ,I t.agg,.aF false ER (t.rules.map cn)]):=fun d=>dY f0 d;have UA:∀ d:bx,(S++[d])[1]? = some (.vec E1 X):=fun d=>dY f2 d;have uk:=ey f2;repeat' first|simp (disch:=omega) only[go_sem,au,aA,aB,l3,bS,f0,f2,Kt,UA,hce,jY]|refine aq ?_|refine tN c7 ?_|refine ak ?_ ?_<;>intro hw<;>try omega|fail
  all_goals first|(exfalso;omega)|skip
  refine⟨(i+1,_),⟨by dsimp only;omega,?_,?_⟩,by dsimp only;omega,rfl,bL,?_⟩
  ·dsimp only;rw[List.getElem?_set_ne (by decide)];exact Kt _
  ·dsimp only;rw[List.getElem?_set_self (by simp;omega)];exact congrArg (fun z=>some (bx.vec E1 z)) eW.symm
  ·dsimp only;simp (disch:=omega) only[dU,dm,and_true,go_sem,au,aA,aB,Int.natCast_add,Int.cast_ofNat_Int]<;>(try trivial)<;>(try omega)<;>(try (repeat (first|trivial|(refine And.intro ?_ ?_)|(congr 1;omega))))
 have hi:i=t.rules.length:=by omega
 subst hi;rw[aT (by omega)]at f2;have jY:((B++t.rules.map gY).map bj).length=B.length+t.rules.length:=by simp
 have hEl:E=(B++t.rules.map gY)++[xJ]:=by rw[<-hE,<-hB,<-hA];simp
 have uk:=ey f2;generalize B++t.rules.map gY=X at *;have hp:=pT (X++[xJ]);have hm:(X++[xJ]).map bj=X.map bj++[.str xJ]:=by simp[bj]
 repeat' first|simp (disch:=omega) only[go_sem,au,aA,aB,f0,f2,jY]|refine aq ?_|refine ak ?_ ?_<;>intro hw<;>try omega|fail
 all_goals first|(exfalso;omega)|skip
 refine eT ?_;rw[hEl];rw[hm]at hp;simp only[hm];exact View.vec (T:=none) (List.getElem?_set_self uk) (by simp at jY ⊢;omega) (by simp at jY ⊢;omega) hp
structure Xh (c:fy):Prop where
 tab:c.kind=1->Uz c.table
 name:c.name.length<=2 ^ 20
 ver:jv c.ver
 row:Qs c.row
 iw:jv c.iw
 jZ:jv c.jZ
def pB{n:Int}(h:jv n): (Lib.itoa n).length<=2 ^ 20:=by
 have:=E5 n h.1 h.2;omega
def wj(c:fy)(h:Xh c): aH aE 20 [dF c] (bI (dZ c)):=by
 obtain⟨h1,h2,h3,h4,h5,h6⟩:=h;have i1:=pB h3;have i2:=pB h5;have i3:=pB h6;have c1:=strconv_Itoa c.ver h3.1 h3.2;have c2:=strconv_Itoa c.iw h5.1 h5.2;have c3:=strconv_Itoa c.jZ h6.1 h6.2;have hrow:=h4.1;by_cases k1:c.kind=1
 ·have ct:=N0 c.table (h1 k1);have e:dZ c=pL c.table:=by unfold dZ;rw[if_pos k1]
  rw[e];generalize pL c.table=L at *;simp only[cD,fg,bP,dV,bI]at ct;simp only[dF,fE,bI];refine aJ kx ?_;intro Q au aA aB;repeat' first|simp (disch:=omega) only[go_sem,au,aA,aB,k1]|refine aq ?_|refine ak ?_ ?_<;>intro hw<;>try omega|fail
  all_goals first|exact bh|exact eT jq|exact aL rfl (by simp)|skip
 by_cases k2:c.kind=2
 ·have e:dZ c=[jB (cH [k9,c.name,Lib.itoa c.ver]) c.row]:=by unfold dZ;rw[if_neg k1,if_pos k2]
  have c4:=kp [k9,c.name,Lib.itoa c.ver] (by simp) (bY (nB (by simp) (by omega) (by omega)) (by decide));have hl:(cH [k9,c.name,Lib.itoa c.ver]).length<=2 ^ 30:=nB (by simp) (by omega) (by omega);have c5:=Ay (cH [k9,c.name,Lib.itoa c.ver]) c.row hl h4;rw[e];generalize cH [k9,c.name,Lib.itoa c.ver]=w at *;generalize jB w c.row=z at *;generalize Lib.itoa c.ver=t at *;simp only[bI,cU,aR,bu,bj]at c4 c5;simp only[dF,fE,bI,aR,bu,bj];refine aJ kx ?_;intro Q au aA aB;repeat' first|simp (disch:=omega) only[go_sem,au,aA,aB,k2]|refine aq ?_|refine tN c4 ?_|refine ak ?_ ?_<;>intro hw<;>try omega|fail
  all_goals first|exact bh|exact eT jq|exact eT (View.vec rfl rfl rfl rfl)|skip
 by_cases k3:c.kind=3
 ·have e:dZ c=[cH [nx,c.name,Lib.itoa c.ver]]:=by unfold dZ;rw[if_neg k1,if_neg k2,if_pos k3]
  have c4:=kp [nx,c.name,Lib.itoa c.ver] (by simp) (bY (nB (by simp) (by omega) (by omega)) (by decide));rw[e];generalize cH [nx,c.name,Lib.itoa c.ver]=w at *;generalize Lib.itoa c.ver=t at *;simp only[bI,aR,bu,bj]at c4;simp only[dF,fE,bI,aR,bu,bj];refine aJ kx ?_;intro Q au aA aB;repeat' first|simp (disch:=omega) only[go_sem,au,aA,aB,k3]|refine aq ?_|refine tN c4 ?_|refine ak ?_ ?_<;>intro hw<;>try omega|fail
  all_goals first|exact bh|exact eT jq|exact eT (View.vec rfl rfl rfl rfl)|skip
 by_cases k5:c.kind=5
 ·have e:dZ c=[cH [rZ,Lib.itoa c.iw,Lib.itoa c.jZ]]:=by unfold dZ;rw[if_neg k1,if_neg k2,if_neg k3,if_pos k5]
  have c4:=kp [rZ,Lib.itoa c.iw,Lib.itoa c.jZ] (by simp) (bY (nB (by simp) (by omega) (by omega)) (by decide));rw[e];generalize cH [rZ,Lib.itoa c.iw,Lib.itoa c.jZ]=w at *;generalize Lib.itoa c.iw=t at *;generalize Lib.itoa c.jZ=u at *;simp only[bI,aR,bu,bj]at c4;simp only[dF,fE,bI,aR,bu,bj];refine aJ kx ?_;intro Q au aA aB;repeat' first|simp (disch:=omega) only[go_sem,au,aA,aB,k5]|refine aq ?_|refine tN c4 ?_|refine ak ?_ ?_<;>intro hw<;>try omega|fail
  all_goals first|exact bh|exact eT jq|exact eT (View.vec rfl rfl rfl rfl)|skip
 by_cases k6:c.kind=6
 ·have e:dZ c=[cH [ny,Lib.itoa c.iw]]:=by unfold dZ;rw[if_neg k1,if_neg k2,if_neg k3,if_neg k5,if_pos k6]
  have c4:=kp [ny,Lib.itoa c.iw] (by simp) (by rw[Ko];simp;omega);rw[e];generalize cH [ny,Lib.itoa c.iw]=w at *;generalize Lib.itoa c.iw=t at *;simp only[bI,aR,bu,bj]at c4;simp only[dF,fE,bI,aR,bu,bj];refine aJ kx ?_;intro Q au aA aB;repeat' first|simp (disch:=omega) only[go_sem,au,aA,aB,k6]|refine aq ?_|refine tN c4 ?_|refine ak ?_ ?_<;>intro hw<;>try omega|fail
  all_goals first|exact bh|exact eT jq|exact eT (View.vec rfl rfl rfl rfl)|skip
 have e:dZ c=[lB c.kind]:=by unfold dZ;rw[if_neg k1,if_neg k2,if_neg k3,if_neg k5,if_neg k6]
 have c4:=oQ c.kind;rw[e];generalize lB c.kind=w at *;simp only[dF,fE,bI,aR,bu,bj];refine aJ kx ?_;intro Q au aA aB;repeat' first|refine aq ?_|refine ak ?_ ?_<;>intro hw<;>try omega|fail
 all_goals first|exact bh|exact eT jq|exact eT (View.vec rfl rfl rfl rfl)|skip
def Ku{l:List fy}{i:Nat}(hl:l.length<=64)(hi:i<l.length)(hk:∀ k,k<i->fq (l.getD k default)=0)(h:fq (l.getD i default)≠0): n_ l=([],fq (l.getD i default)):=by
 unfold n_;rw[if_neg (by omega),qL hi (fun k h=>by rw[hk k h];rfl) (by simpa using h)]
def Kv{ls:List aG}{j:Nat}(hj:j<ls.length)(x:aG): x++fX (ls.take (j+1))=(x++fX (ls.take j))++(ls.getD j default++[10]):=by
 rw[take_succ hj];simp[fX]
def Qu(ls:List aG): ls.length<=(fX ls).length:=by
 induction ls with
 | nil=>simp
 | cons s l ih =>
   have e:fX (s::l)=s++(10::fX l):=by simp[fX]
   rw[e,aC,List.length_cons,List.length_cons];omega
def Az(ls:List aG)(j:Nat): (fX (ls.take j)).length<=(fX ls).length:=Uv _ ls j
set_option maxRecDepth 20000 in
def DY(l:List fy)(hl:l.length<=2 ^ 30)(ok:∀ c ∈ l,jX c)(tx:∀ c ∈ l,fq c=0->Xh c/\(fX (dZ c)).length<=2 ^ 28): aH aE 9 [lH l] (eB (n_ l)):=by
 obtain⟨E,hE⟩:∃ E,n_ l=E:=⟨_,rfl⟩;rw[hE];simp only[eB,lH];refine aJ Ie ?_;intro Q au aA aB;by_cases hbig:64<l.length
 ·repeat' first|refine aq ?_|refine ak ?_ ?_<;>intro hw<;>try omega|fail
  all_goals first|exact bh|(refine bp ?_ rfl;rw[<-hE];unfold n_;rw[if_pos hbig];done)|skip
 have hb0:lJ TB [.bM (some TB) [.iE,.ai]] 0 []:=⟨_,_,rfl,.inl rfl,.inl ⟨rfl,rfl⟩⟩;repeat' first|refine aq ?_|refine ak ?_ ?_<;>intro hw<;>try omega|fail
 all_goals first|exact bh|skip
 with_reducible refine bn [2,3,6,7,9,15,16,17,18,19,20,21,22,23,24,25,26,27,28,29,30,31,32,33,34,35] (fun x:Nat × ae=>[(15,I x.1)]) (fun x=>x.2) (fun x=>x.1<=l.length/\(∀ k,k<x.1->fq (l.getD k default)=0)/\lJ TB x.2 0 (jF (l.take x.1))/\(jF (l.take x.1)).length<=x.1*2 ^ 28) (fun x=>l.length-x.1) (0,_) ⟨bD _,fun k hk=>by omega,hb0,by simp[jF]⟩ rfl ?_ ?_
 ·exact at_
 clear hb0;rintro⟨i,σ⟩ r ⟨g1,g2,g3,g4⟩;dsimp only at g1 g2 g3 g4;by_cases hi:i<l.length
 ·have hc:=uc _ (ok _ (aV hi));have Xi:=tx _ (aV hi);have eW:jF (l.take (i+1))=jF (l.take i)++fX (dZ (l.getD i default)):=by rw[take_succ hi,Hx]
  have bV:=fun he=>aY (q:=fun k=>fq (l.getD k default)=0) g2 (i:=i) he;have DZ:=Ku (by omega) hi g2;obtain⟨v,kU⟩:∃ v,l.getD i default=v:=⟨_,rfl⟩;rw[kU]at hc Xi eW bV DZ;by_cases h0:fq v=0
  ·obtain⟨t1,t2⟩:=Xi h0;have cl:=wj v t1;rw[h0]at hc;have bV:=bV h0;clear DZ Xi;generalize dZ v=ls at *;have hls:=Qu ls;generalize jF (l.take i)=T at *;simp only[dF,fE,bI]at hc cl;repeat' first|simp (disch:=omega) only[go_sem,au,aA,aB,kU]|refine aq ?_|refine ak ?_ ?_<;>intro hw<;>try omega|fail
   all_goals first|exact bh|skip
   with_reducible refine bn [9,27,28,29,30,31,32,33,34] (fun x:Nat × ae=>[(27,I x.1)]) (fun x=>x.2) (fun x=>x.1<=ls.length/\lJ TB x.2 0 (T++fX (ls.take x.1))) (fun x=>ls.length-x.1) (0,_) ⟨bD _,by simpa[fX]using g3.push _⟩ rfl ?_ ?_
   ·exact at_
   rintro⟨j,σ1⟩ r1 ⟨k1,k2⟩;dsimp only at k1 k2;by_cases hj:j<ls.length
   ·have xO:=Kv hj T;have hft:=Az ls (j+1);have hfl:=congrArg List.length xO;simp only[aC,List.length_cons,List.length_nil]at hfl;obtain⟨z,hz⟩:∃ z,ls.getD j default=z:=⟨_,rfl⟩;rw[hz]at xO hfl;have gz:(List.map bj ls).getD j .undef = .str z:=by rw[getD_map _ _ _ hj,hz];rfl
    have Si:i*2 ^ 28<=64*2 ^ 28:=bE _ (by omega);have hU:(T++fX (ls.take j)).length=T.length+(fX (ls.take j)).length:=aC;generalize T++fX (ls.take j)=U at *;have hlen:U.length+z.length<=2 ^ 38:=by omega
    repeat' first|simp (disch:=omega) only[go_sem,au,aA,aB,gz,hz]|refine aq ?_|refine ak ?_ ?_<;>intro hw<;>try omega|fail
    with_reducible refine bU (Builder_WriteString sY _ 0 _ z k2 hlen) ?_
    all_goals first|exact bh|skip
    rintro o σ2 ⟨rfl,eN,_⟩;repeat' first|refine aq ?_|with_reducible refine bU (Builder_WriteByte sY _ 0 _ 10 10 rfl eN (by simp;omega)) ?_|refine ak ?_ ?_<;>intro hw<;>try omega|fail
    all_goals first|exact bh|skip
    rintro o σ3 ⟨rfl,ur,_⟩;repeat' first|refine aq ?_|refine ak ?_ ?_<;>intro hw<;>try omega|fail
    refine⟨(j+1,σ3),⟨by dsimp only;omega,?_⟩,by dsimp only;omega,rfl,bL,?_⟩
    ·dsimp only;rw[xO];simpa using ur
    ·clear xO hfl hft hU Si hlen eN ur gz k2 g4;dsimp only;exact at_
   ·obtain rfl:j=ls.length:=by omega
    rw[aT (by omega)]at k2;repeat' first|refine aq ?_|refine ak ?_ ?_<;>intro hw<;>try omega|fail
    refine⟨(i+1,σ1),⟨by dsimp only;omega,bV,by dsimp only;rw[eW];exact k2,?_⟩,by dsimp only;omega,rfl,bL,?_⟩
    ·dsimp only;rw[eW,aC];omega
    ·exact at_
  ·rw[DZ h0]at hE;clear Xi;generalize fq v=e at *;simp only[dF,fE]at hc;repeat' first|simp (disch:=omega) only[go_sem,au,aA,aB,kU]|refine aq ?_|refine ak ?_ ?_<;>intro hw<;>try omega|fail
   all_goals first|exact bh|(refine bp ?_ rfl;rw[<-hE];done)|skip
 ·obtain rfl:i=l.length:=by omega
  have ht:l.take l.length=l:=aT (by omega);rw[ht]at g3 g4;rw[NR (by omega) (adQ (fun k hk=>g2 k hk))]at hE;have Si:l.length*2 ^ 28<=64*2 ^ 28:=bE _ (by omega);generalize jF l=T at *;repeat' first|refine aq ?_|with_reducible refine bU (Builder_String _ 0 _ g3 (by omega)) ?_|refine ak ?_ ?_<;>intro hw<;>try omega|fail
  all_goals first|exact bh|skip
  rintro o σ2 ⟨rfl,_⟩;repeat' first|refine aq ?_|refine ak ?_ ?_<;>intro hw<;>try omega|fail
  all_goals first|exact bh|(refine bp ?_ rfl;rw[<-hE];done)|skip
def Sj(s:aG): jv (fF s).1:=by
 unfold fF;cases h:Lib.atoiAll s
 case ok n =>
  dsimp only;split
  ·obtain⟨a,b⟩:=Lib.atoiAll_bounds h;exact⟨by omega,by omega⟩
  ·exact xH
 all_goals exact xH
def Cy(s:aG)(hs:s.length<=2 ^ 40): aH aE 184 [.str s] (.bJ [eR (r7 s),.bool (fF s).2]):=by
 have c1:=strconv_Atoi s hs;unfold r7 fF;unfold Sf at c1;cases h:Lib.atoiAll s
 case ok n =>
  obtain⟨a,b⟩:=Lib.atoiAll_bounds h;have c2:=strconv_Itoa n (by omega) (by omega);rw[h]at c1;dsimp only at c1 ⊢;by_cases ht:Lib.itoa n=s
  ·simp only[if_pos ht,if_true];generalize Lib.itoa n=t at *;have hne:nh NK.i AV.ja AV.ja=some true:=rfl;simp only[eR];refine aJ rC ?_;intro Q au aA aB;repeat' first|simp (disch:=omega) only[go_sem,au,aA,aB,hne]|refine aq ?_|refine ak ?_ ?_<;>intro hw<;>try omega|fail
   all_goals first|exact bh|exact bG jq|skip
  ·simp only[if_neg ht,Bool.false_eq_true,if_false];generalize Lib.itoa n=t at *;have hne:nh NK.i AV.ja AV.ja=some true:=rfl;simp only[eR,v0];refine aJ rC ?_;intro Q au aA aB;repeat' first|simp (disch:=omega) only[go_sem,au,aA,aB,hne]|refine aq ?_|refine ak ?_ ?_<;>intro hw<;>try omega|fail
   all_goals first|exact bh|exact bG jq|skip
 all_goals
  rw[h]at c1;dsimp only at c1 ⊢;simp only[Bool.false_eq_true,if_false,eR,v0];have hne:nh NK.i (AV.j6 TNE AV.undef) AV.ja=some false:=rfl;refine aJ rC ?_;intro Q au aA aB;repeat' first|simp (disch:=omega) only[go_sem,au,aA,aB,hne]|refine aq ?_|refine ak ?_ ?_<;>intro hw<;>try omega|fail
  all_goals first|exact bh|exact bG jq|skip
def Wn(s:aG): (r7 s).n=(fF s).1:=by
 unfold r7;split
 ·rfl
 ·rename_i h;unfold fF at h ⊢;cases ha:Lib.atoiAll s
  case ok n =>
   rw[ha]at h;dsimp only at h ⊢;split
   ·rename_i h2;rw[if_pos h2]at h;exact absurd rfl h
   ·rfl
  all_goals rfl
def uf(s:aG)(hs:s.length<=2 ^ 40): aH aE 151 [.str s] (.bJ [I (fF s).1,.bool (fF s).2]):=by
 have c1:=Cy s hs;have hn:=Wn s;rw[<-hn];generalize r7 s=v at *;generalize (fF s).2=b at *;simp only[eR]at c1;refine aJ Ey ?_;intro Q au aA aB;repeat' first|refine aq ?_|refine ak ?_ ?_<;>intro hw<;>try omega|fail
 all_goals first|exact bh|exact bG jq|skip
def HG(s:aG): bT (wg s)=true/\jv (wg s).n/\(wg s).s.length<=40:=by
 have hr:=Qq s;have ho:=sW s;have z:bT v0=true/\jv v0.n/\v0.s.length<=40:=⟨by decide,xH,by decide⟩;unfold wg;split
 ·exact z
 generalize (aX s).1.length-1=q;obtain⟨r1,r2⟩:=hr q;obtain⟨o1,o2,o3⟩:=ho q;generalize (aX s).1.getD q default=t at *;split
 ·rename_i hk;have hp:=r2 hk;refine⟨by simp[bT,hp],xH,?_⟩;simp only[gg,aD,decide_eq_true_eq]at hp;exact hp.1
 split
 ·rename_i hk;have hp:=r1 hk;refine⟨by simp[bT],?_,by simp⟩;dsimp only;split
  ·exact⟨by omega,by omega⟩
  ·exact⟨by omega,by omega⟩
 split
 ·exact⟨by decide,⟨by decide,by decide⟩,by decide⟩
 split
 ·exact⟨by decide,⟨by decide,by decide⟩,by decide⟩
 ·exact z
def UB{T:List Tok}(h:1<=T.length): (T.map jU).getD ((T.length:Int)-1).toNat .undef=jU (T.getD (T.length-1) default):=by
 have e:((T.length:Int)-1).toNat=T.length-1:=by omega
 rw[e,getD_map _ _ _ (by omega)]
def Jh(s:aG)(hs:s.length<=2 ^ 30): aH aE 183 [.str s] (.bJ [eR (wg s),.bool (Fk s)]):=by
 have c1:=IU s hs;obtain⟨q1,q2,q3⟩:=HG s;have c2:=zI (wg s) q2.1 q2.2 q1;have hlen:=(kP s).1;have tD:=fun h=>UB (T:=(aX s).1) h;obtain⟨_,o2,o3⟩:=sW s ((aX s).1.length-1);have hpos:=(Qq s ((aX s).1.length-1)).1;unfold Fk
 have hV:wg s=if(aX s).2.2≠0\/(aX s).1.length<1\/2<(aX s).1.length then v0
  else if((aX s).1.getD ((aX s).1.length-1) default).kind=3 then⟨2,0,((aX s).1.getD ((aX s).1.length-1) default).s⟩
  else if((aX s).1.getD ((aX s).1.length-1) default).kind=2 then⟨1,if(aX s).1.length=2 then -((aX s).1.getD ((aX s).1.length-1) default).n else((aX s).1.getD ((aX s).1.length-1) default).n,[]⟩
  else if((aX s).1.getD ((aX s).1.length-1) default).s=jO then⟨3,1,[]⟩
  else if((aX s).1.getD ((aX s).1.length-1) default).s=jh then⟨3,0,[]⟩else v0:=rfl
 generalize aX s=L at *;obtain⟨T,at_',er⟩:=L;dsimp only at *;simp only[BL,nk]at c1;by_cases EP:er≠0\/T.length<1\/2<T.length
 ·rw[if_pos EP]at hV ⊢;rw[hV];clear c2 hV tD;simp only[eR,v0];refine aJ ji ?_;intro Q au aA aB;repeat' first|refine aq ?_|refine ak ?_ ?_<;>intro hw<;>try omega|fail
  all_goals first|exact bh|exact bG jq|skip
 rw[if_neg EP]at hV ⊢;have tD:=tD (by omega);have he:er=0:=by omega
 generalize T.getD (T.length-1) default=t at *;obtain⟨tk,ts,tn,tp⟩:=t;dsimp only at *;simp only[jU]at tD;have hcmp:∀ w:aG,decide (w=s)=(w==s):=fun w=>by rw[aS];simp
 rw[hcmp];by_cases k3:tk=3
 ·rw[if_pos k3]at hV;rw[hV]at c2 ⊢;generalize eJ _=w at *;simp only[eR]at c2 ⊢;refine aJ ji ?_;intro Q au aA aB;repeat' first|simp (disch:=omega) only[go_sem,au,aA,aB,tD]|refine aq ?_|refine ak ?_ ?_<;>intro hw<;>try omega|fail
  all_goals first|exact bh|exact bG jq|skip
 rw[if_neg k3]at hV;by_cases k2:tk=2
 ·rw[if_pos k2]at hV;by_cases l2:T.length=2
  ·have hz : -tn=0-tn:=by omega
   have hpos:=hpos k2;rw[if_pos l2,hz]at hV;rw[hV]at c2 ⊢;generalize eJ _=w at *;simp only[eR]at c2 ⊢;refine aJ ji ?_;intro Q au aA aB;repeat' first|simp (disch:=omega) only[go_sem,au,aA,aB,tD]|refine aq ?_|refine ak ?_ ?_<;>intro hw<;>try omega|fail
   all_goals first|(exfalso;omega)|(exfalso;contradiction)|exact bG jq|skip
  ·rw[if_neg l2]at hV;rw[hV]at c2 ⊢;generalize eJ _=w at *;simp only[eR]at c2 ⊢;refine aJ ji ?_;intro Q au aA aB;repeat' first|simp (disch:=omega) only[go_sem,au,aA,aB,tD]|refine aq ?_|refine ak ?_ ?_<;>intro hw<;>try omega|fail
   all_goals first|exact bh|exact bG jq|skip
 rw[if_neg k2]at hV;by_cases kt:ts=jO
 ·rw[if_pos kt]at hV;rw[hV]at c2 ⊢;generalize eJ _=w at *;simp only[eR]at c2 ⊢;have hl:(5:Int)-(ts.length:Int)=1:=by rw[kt];rfl
  have kt':ts=[116,114,117,101]:=kt;refine aJ ji ?_;intro Q au aA aB;repeat' first|simp (disch:=omega) only[go_sem,au,aA,aB,tD,hl]|refine aq ?_|refine ak ?_ ?_<;>intro hw<;>try omega|fail
  all_goals first|exact bh|exact bG jq|skip
 rw[if_neg kt]at hV;by_cases kf:ts=jh
 ·rw[if_pos kf]at hV;rw[hV]at c2 ⊢;generalize eJ _=w at *;simp only[eR]at c2 ⊢;have hl:(5:Int)-(ts.length:Int)=0:=by rw[kf];rfl
  have kf':ts=[102,97,108,115,101]:=kf;refine aJ ji ?_;intro Q au aA aB;repeat' first|simp (disch:=omega) only[go_sem,au,aA,aB,tD,hl]|refine aq ?_|refine ak ?_ ?_<;>intro hw<;>try omega|fail
  all_goals first|exact bh|exact bG jq|skip
 rw[if_neg kf]at hV;have kt':¬ ts=[116,114,117,101]:=kt;have kf':¬ ts=[102,97,108,115,101]:=kf;rw[hV]at c2 ⊢;generalize eJ _=w at *;simp only[eR,v0]at c2 ⊢;refine aJ ji ?_;intro Q au aA aB;repeat' first|simp (disch:=omega) only[go_sem,au,aA,aB,tD]|refine aq ?_|refine ak ?_ ?_<;>intro hw<;>try omega|fail
 all_goals first|exact bh|exact bG jq|skip
