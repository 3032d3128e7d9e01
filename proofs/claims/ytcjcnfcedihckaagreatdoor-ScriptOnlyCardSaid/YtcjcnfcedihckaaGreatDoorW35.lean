/- Part. -/
import Derived.Test.YtcjcnfcedihckaaGreatDoorW34
import Derived.KernelRfl
set_option linter.all false
set_option maxHeartbeats 8000000
namespace Go.Proofs.YtcjcnfcedihckaaGreatDoor
open Go.AM
set_option maxRecDepth 4000
def uS{l:List aI}{sep:aI}{m:Nat}(h:∀ z ∈ l,z.length<=m): (Lib.join l sep).length<=l.length*(m+sep.length):=by
 cases l with
 | nil=>simp[Lib.join,List.intercalate]
 | cons x l =>
   rw[join_cons,aA];have h1:=h x (by simp)
   have h2:(l.flatMap fun z=>sep++z).length<=l.length*(m+sep.length):=by
    have h':∀ z ∈ l,z.length<=m:=fun z hz=>h z (by simp[hz]);clear h h1
    induction l with
    | nil=>simp
    | cons y l ih =>
      have a:=h' y (by simp);have b:=ih (fun z hz=>h' z (by simp[hz]));rw[da,aA,aA,List.length_cons,cL];omega
   rw[List.length_cons,cL];omega
def Qv(l:List eu): Prop:=l.length<=2 ^ 20/\ ∀ v ∈ l,bT v=true/\iE v.n
def smS(l:List aI): Prop:=l.length<=2 ^ 20/\ ∀ s ∈ l,s.length<=2 ^ 17
def NH{l:List eu}(h:Qv l): (pF l).length<=2 ^ 27:=by
 have:=uS (l:=l.map eN) (sep:=nL) (m:=82) (fun z hz=>by
  obtain⟨v,hv,rfl⟩:=cC.1 hz;exact xS v (h.2 v hv).2.1 (h.2 v hv).2.2 (h.2 v hv).1)
 have h1:=h.1;have hs:nL.length=2:=rfl;rw[bY,hs]at this;unfold pF;omega
def Ay{l:List aI}(h:smS l): (kN l).length<=2 ^ 38:=by
 have:=uS (l:=l) (sep:=[32,124,32]) (m:=2 ^ 17) h.2;have h1:=h.1;simp only[List.length_cons,List.length_nil]at this;unfold kN;have h2:l.length*(2 ^ 17+(0+1+1+1))<=2 ^ 20*(2 ^ 17+3):=Nat.mul_le_mul h1 (Nat.le_refl _);omega
def Hg(l:List eu)(h:Qv l): aP aK 91 [dy l] (.str (pF l)):=by
 have hl:=h.1;have hj:=strings_Join (l.map eN) nL (by simp;omega) (by have:=NH h;unfold pF at this;omega);have hE:Lib.join (l.map eN) nL=pF l:=rfl;rw[hE]at hj;generalize pF l=E at *;simp only[dy];refine aR KZ ?_;intro Q aF aG aH;repeat' first|refine aE ?_|refine aD ?_ ?_<;>intro hw<;>try omega|fail
 with_reducible refine bZ [3,5,6,7,10,11,12,13,14,15,16,17,18,19,20,21,22,23] (fun q:Nat × List aY=>[(10,I q.1),(3,.own E1 0 q.1 0 q.1)]) (fun q=> .vec E1 (((l.take q.1).map eN).map cj)::q.2) (fun q=>q.1<=l.length) (fun q=>l.length-q.1) ((0,[])) ?_ ?_ ?_ ?_
 ·simp
 ·rfl
 ·exact at_
 rintro⟨i,τ⟩ r g1;dsimp only at g1;by_cases hi:i<l.length
 ·have hv:=h.2 _ (bJ hi);have ht:=take_succ hi;have pC:(((l.take i).map eN).map cj).length=i:=by simp;omega
  obtain⟨v,qd⟩:∃ v,l.getD i default=v:=⟨_,rfl⟩;rw[qd]at hv ht;have c:=Af v hv.2.1 hv.2.2 hv.1;have jT:((l.take (i+1)).map eN).map cj=((l.take i).map eN).map cj++[.str (eN v)]:=by rw[ht];simp[cj]
  generalize eN v=t at *;simp only[fF]at c;repeat' first|simp (disch:=omega) only[go_sem,aF,aG,aH,qd,pC]|refine aE ?_|refine fm c ?_|refine aD ?_ ?_<;>intro hw<;>try omega|fail
  all_goals first|exact bN|skip
  refine⟨(i+1,τ++[.cells [I v.kind,I v.n,.str v.s]]),?_,?_,?_,dH,?_⟩
  ·dsimp only;omega
  ·dsimp only;omega
  ·dsimp only;rw[jT];first|done|rfl|(simp[go_sem];done)
  ·dsimp only;simp (disch:=omega) only[jY,jb,and_true,go_sem,aF,aG,aH,Int.natCast_add,Int.cast_ofNat_Int]<;>(try trivial)<;>(try omega)<;>(try (repeat (first|trivial|(refine And.intro ?_ ?_)|(congr 1;omega))))
 ·have ht:l.take i=l:=bw (by omega);simp only[bX,nL]at hj;have oq:(l.map eN).length=l.length:=by simp
  obtain⟨L,hL⟩:∃ L,l.map eN=L:=⟨_,rfl⟩;rw[hL]at hj oq;obtain rfl:i=L.length:=by omega
  repeat' first|simp (disch:=omega) only[go_sem,aF,aG,aH,ht,hL]|refine aE ?_|refine xK hj ?_|refine aD ?_ ?_<;>intro hw<;>try omega|fail
  all_goals first|exact bN|exact aU rfl rfl|skip
def A8(s:aI)(l:List eu)(hs:s.length<=2 ^ 30)(h:Qv l): aP aK 43 [.str s,dy l] (.str (iL s l)):=by
 have c:=Hg l h;have hl:=NH h;have uQ:=h.1;unfold iL;generalize pF l=r at *;simp only[dy]at c ⊢;by_cases h0:l.length=0
 ·rw[if_pos h0];refine aR wH ?_;intro Q aF aG aH;repeat' first|refine aE ?_|refine fm c ?_|refine aD ?_ ?_<;>intro hw<;>try omega|fail
  all_goals first|exact bN|exact aU rfl rfl|skip
 ·rw[if_neg h0];have a1:=Vd (a:=s.length) (b:=[32].length) (by simp;omega);have a2:=Vd (a:=(s++[32]).length) (b:=r.length) (by simp;omega);refine aR wH ?_;intro Q aF aG aH;repeat' first|refine aE ?_|refine fm c ?_|refine aD ?_ ?_<;>intro hw<;>try omega|fail
  all_goals first|exact bN|exact aU rfl rfl|skip
def kQ(l:List aI)(h:l.length<=2 ^ 40)(hj:(cg l).length<=2 ^ 40): aP aK 44 [bX l] (.str (cg l)):=by
 have c:=strings_Join l [32] h hj;have hE:Lib.join l [32]=cg l:=rfl;rw[hE]at c;generalize cg l=w at *;simp only[bX]at c ⊢;refine aR Gg ?_;intro Q aF aG aH;repeat' first|refine aE ?_|refine fm c ?_|refine aD ?_ ?_<;>intro hw<;>try omega|fail
 all_goals first|exact bN|exact aU rfl rfl|skip
open Go.AM Go.AM.W
set_option maxRecDepth 10000
def DL: Of aK 42 90 [.tmp 2] (r [X 0 1,V .au 2]<|
 q (.draw [A 0 1 10,K 10 11,Q 87 [] 12,A 3 1 13,K 13 14,I false 1 12 14 15,K 15 16,Q 88 [] 17,A 4 1 18,K 18 19,I false 1 17 19 20,K 20 21,gB false 1 e0 4 [(0,gS [116,97,98,108,101]),(1,t 11),(2,t 16),(3,t 21)] 22,Q 44 [t 22] 23,bQ (.jF true ⟨false,1⟩ e0 1 [(0,t 23)]) 24,M 24 3] [])<|
 q (r [A 1 1 25,K 25 26,N 26 27,V z0 28]<|
 .block 0 (.loop (r [B .lss 28 27 29]<|
 q (c 29 k (.exit 0))<|
 q (.block 1 (r [I true 3 26 28 30,L 3 30 31,J [e0,z0,.au] 5,W 3 5 31]<|
 .draw [M 3 32,A 0 5 33,K 33 34,Q 89 [] 35,A 1 5 36,K 36 37,I false 1 35 37 38,K 38 39,gB false 1 e0 3 [(0,gS [105,110]),(1,t 34),(2,t 39)] 40,Q 44 [t 40] 41,gB false 1 e0 1 [(0,t 41)] 42,gA false 1 32 42 43,M 43 3] []))<|
 R [D .add 28 1 44,M 44 28])))<|
 q (r [A 2 1 45,K 45 46,N 46 47,V z0 48]<|
 .block 2 (.loop (r [B .lss 48 47 49]<|
 q (c 49 k (.exit 2))<|
 q (.block 3 (r [I true 3 46 48 50,L 3 50 51,J [e0,z0,.au] 7,W 3 7 51]<|
 .draw [M 3 52,A 0 7 53,K 53 54,Q 89 [] 55,A 1 7 56,K 56 57,I false 1 55 57 58,K 58 59,gB false 1 e0 3 [(0,gS [111,117,116]),(1,t 54),(2,t 59)] 60,Q 44 [t 60] 61,A 2 7 62,K 62 63,Q 43 [t 61,t 63] 64,gB false 1 e0 1 [(0,t 64)] 65,gA false 1 52 65 66,M 66 3] []))<|
 R [D .add 48 1 67,M 67 48])))<|
 q (r [A 5 1 68,K 68 69,N 69 70,V z0 71]<|
 .block 4 (.loop (r [B .lss 71 70 72]<|
 q (c 72 k (.exit 4))<|
 q (.block 5 (r [I true 2 69 71 73,L 2 73 74,J [.au,.au] 9,W 2 9 74]<|
 .draw [M 3 75,A 0 9 76,K 76 77,Q 90 [t 77,gS [32,124,32]] 78,A 1 9 79,K 79 80,Q 90 [t 80,gS [32,124,32]] 81,gB false 1 e0 4 [(0,gS [114,117,108,101]),(1,t 78),(2,gS [58]),(3,t 81)] 82,Q 44 [t 82] 83,gB false 1 e0 1 [(0,t 83)] 84,gA false 1 75 84 85,M 85 3] []))<|
 R [D .add 71 1 86,M 86 71])))<|
 r [M 3 87,gB false 1 e0 1 [(0,gS [101,110,100])] 88,gA false 1 87 88 89,M 89 2]<|
 .ret):=qB ⟨[24],[],[],[],[],[]⟩ Tryz.func42
def jR: Of aK 63 62 [.tmp 2] (r [gF 2]<|
 r [M 0 8,Z 8 9,A 2 9 10,L 6 10 11,J [e0,.au,.au,z0,z0,.au] 3,W 6 3 11]<|
 gR [A 1 3 12,K 12 13,N 13 14,D .eql 14 0 15] 15 [A 4 3 16,K 16 17,D .eql 17 0 18,M 18 19,AF 3 3 20 19,KF 20 21 19,DF .eql 21 5 22 19,O 19 22 23,M 23 2]<|
 q (r [A 2 3 24,K 24 25,N 25 26,D .eql 26 0 27]<|
 c 27 (r [gU [e0,z0,.au] [(0,1,gS [111]),(1,1,gJ 1)] 28,bQ (.jF true ⟨true,3⟩ (.agg [e0,z0,.au]) 1 [(0,t 28)]) 29,A 2 3 30,W 1 30 29]<|
 r [A 3 3 31,K 31 32,D .eql 32 3 33]<|
 c 33 (R [A 2 3 34,K 34 35,gU [z0,z0,e0] [(0,1,gJ 1)] 36,gB true 3 (.agg [z0,z0,e0]) 1 [(0,t 36)] 37,gI true 3 35 0 38,A 2 38 39,W 1 39 37]) k) k)<|
 r [L 6 3 41,C 73 [t 41] 42,M 42 40,E 40 0 43,E 40 1 44,E 40 2 45,E 40 3 46,J [e0,.au,.au,z0,z0,.au] 4,W 6 4 43,M 44 5,M 45 6,M 46 7]<|
 gR [M 7 47,D .neq 47 0 48,M 48 49,LF 6 4 50 49,LF 6 3 51 49,CF 74 [t 50,t 51] 52 49,UF 52 53 49,O 49 53 54] 54 [gF 2]<|
 r [L 6 4 56,C 36 [t 56] 57,M 57 55,E 55 0 58,E 55 1 59,M 59 7]<|
 r [M 7 60,D .eql 60 0 61,M 61 2]<|
 .ret):=qB ⟨[29],[],[],[],[],[]⟩ Tryz.func63
def CZ(k:Int): aP aK 45 [I k] (.str (nM k)):=by
 unfold nM;refine aR Gh ?_;intro Q aF aG aH;repeat' first|refine aE ?_|refine aD ?_ ?_<;>intro hw<;>try omega|fail
 all_goals first|exact bN|(refine aU ?_ rfl;simp_all;done)|skip
structure Hh (t:Table):Prop where
 name:t.name.length<=2 ^ 20
 pol:0<=t.aM/\t.aM<=6
 agg:0<=t.agg/\t.agg<=4
 ins:t.ins.length<=2 ^ 20/\ ∀ c ∈ t.ins,c.name.length<=2 ^ 20/\0<=c.kind/\c.kind<=3
 outs:t.outs.length<=2 ^ 20/\ ∀ c ∈ t.outs,(c.name.length<=2 ^ 20/\0<=c.kind/\c.kind<=3)/\Qv c.order
 rules:t.rules.length<=2 ^ 20/\ ∀ r ∈ t.rules,smS r.cells/\smS r.outs
def Az{l:List aI}{k:Int}(h0:0<=k)(h1:k<l.length): (l.map cj).getD k.toNat .undef = .str (l.getD k.toNat []):=by
 have:k.toNat<l.length:=by omega
 simp[aj,this,cj]
def od{a b c:aI}(ha:a.length<=2 ^ 20)(hb:b.length<=2 ^ 20)(hc:c.length<=2 ^ 20): (cg [a,b,c]).length<=2 ^ 30:=by
 rw[jU];simp;omega
def Hi{a b c d:aI}(ha:a.length<=2 ^ 20)(hb:b.length<=2 ^ 38)(hc:c.length<=2 ^ 38)(hd:d.length<=2 ^ 38): (cg [a,b,c,d]).length<=2 ^ 40:=by
 rw[vU];simp;omega
def Qw(k:Int): (u_ k).length<=8:=by
 unfold u_;rw[aj];cases hq:rB[k.toNat]? with
 | none=>simp
 | some z =>
   have:∀ z ∈ rB,z.length<=8:=by decide
   exact this z (fW hq)
def Qx(k:Int): (ve k).length<=8:=by
 unfold ve;rw[aj];cases hq:rC[k.toNat]? with
 | none=>simp
 | some z =>
   have:∀ z ∈ rC,z.length<=8:=by decide
   exact this z (fW hq)
def zi(k:Int): (lj k).length<=8:=by
 unfold lj;rw[aj];cases hq:pE[k.toNat]? with
 | none=>simp
 | some z =>
   have:∀ z ∈ pE,z.length<=8:=by decide
   exact this z (fW hq)
def XS(s:aI): cj s = .str s:=rfl
def w_(t:Table)(h:Hh t): aP aK 42 [dV t] (bX (j5 t)):=by
 obtain⟨h1,⟨p0,p1⟩,⟨a0,a1⟩,⟨i1,i2⟩,⟨o1,o2⟩,r1,r2⟩:=h;have c1:=x9;have c2:=Ec;have c3:=CY;have c4:=kQ [zc,t.name,u_ t.aM,ve t.agg] (by simp) (Hi (by simp) (by omega) (by have:=Qw t.aM;omega) (by have:=Qx t.agg;omega));have g1:(rB.map cj).getD t.aM.toNat .undef = .str (u_ t.aM):=Az p0 (by simp[rB];omega);have g2:(rC.map cj).getD t.agg.toNat .undef = .str (ve t.agg):=Az a0 (by simp[rC];omega);have l1:rB.length=7:=rfl;have l2:rC.length=5:=rfl;have l3:pE.length=4:=rfl;have hh:cg [zc,t.name,u_ t.aM,ve t.agg]=kF t:=rfl;rw[hh]at c4;obtain⟨E,hE⟩:∃ E,j5 t=E:=⟨_,rfl⟩;rw[hE];unfold j5 eW at hE;generalize kF t=hd at *;generalize u_ t.aM=pw at *;generalize ve t.agg=aw at *;simp only[bX,aZ,br,cj]at c1 c2 c3 c4;simp only[dV,ia,cJ,eF,bX];refine aR DL ?_;intro Q aF aG aH;repeat' first|simp (disch:=omega) only[go_sem,aF,aG,aH,g1,g2,l1,l2,l3,bY]|refine aE ?_|refine xK c4 ?_|refine aD ?_ ?_<;>intro hw<;>try omega|fail
 with_reducible refine bZ [3,5,28,29,30,31,32,33,34,35,36,37,38,39,40,41,42,43,44] (fun q:Nat × ae=>[(28,I q.1),(3,.own E1 1 (q.1+1) 0 (q.1+1))]) (fun q=>q.2) (fun q=>q.1<=t.ins.length/\q.2[0]? = some (.cells [.str t.name,.aO false EC (t.ins.map bq),.aO false EC (t.outs.map bq),I t.aM,I t.agg,.aO false ER (t.rules.map cu)])/\q.2[1]? = some (.vec E1 ((hd::(t.ins.take q.1).map pG).map cj))) (fun q=>t.ins.length-q.1) (0,_) ⟨bR _,rfl,rfl⟩ rfl ?_ ?_
 ·exact at_
 rintro⟨i,S⟩ r ⟨k1,f0,f2⟩;dsimp only at k1 f0 f2;by_cases hi:i<t.ins.length
 ·have hc:=i2 _ (bJ hi);have hts:=take_succ hi;obtain⟨c,hce⟩:∃ c,t.ins.getD i default=c:=⟨_,rfl⟩;rw[hce]at hc hts;have g3:(pE.map cj).getD c.kind.toNat .undef = .str (lj c.kind):=Az hc.2.1 (by simp[pE];omega);have c5:=kQ [D_,c.name,lj c.kind] (by simp) (cB (od (by simp) (by omega) (by have:=zi c.kind;omega)) (by decide));have hw:cg [D_,c.name,lj c.kind]=pG c:=rfl;rw[hw]at c5;have jT:((hd::(t.ins.take (i+1)).map pG).map cj)=((hd::(t.ins.take i).map pG).map cj)++[.str (pG c)]:=by rw[hts];simp[cj]
  have pC:((hd::(t.ins.take i).map pG).map cj).length=i+1:=by simp;omega
  generalize pG c=w at *;generalize lj c.kind=kw at *;generalize ((hd::(t.ins.take i).map pG).map cj)=X at *;simp only[bX,aZ,br,cj]at c5;have Ko:∀ d:aY,(S++[d])[0]? = some (.cells [.str t.name,.aO false EC (t.ins.map bq),.aO false EC (t.outs.map bq),I t.aM,I t.agg,.aO false ER (t.rules.map cu)]):=fun d=>eH f0 d;have VB:∀ d:aY,(S++[d])[1]? = some (.vec E1 X):=fun d=>eH f2 d;have wG:=ef f2;repeat' first|simp (disch:=omega) only[go_sem,aF,aG,aH,g3,l3,bY,f0,f2,Ko,VB,hce,pC]|refine aE ?_|refine xK c5 ?_|refine aD ?_ ?_<;>intro hw<;>try omega|fail
  all_goals first|(exfalso;omega)|skip
  refine⟨(i+1,_),⟨by dsimp only;omega,?_,?_⟩,by dsimp only;omega,rfl,dH,?_⟩
  ·dsimp only;rw[List.getElem?_set_ne (by decide)];exact Ko _
  ·dsimp only;rw[List.getElem?_set_self (by simp;omega)];exact congrArg (fun z=>some (aY.vec E1 z)) jT.symm
  ·dsimp only;simp (disch:=omega) only[jY,jb,and_true,go_sem,aF,aG,aH,Int.natCast_add,Int.cast_ofNat_Int]<;>(try trivial)<;>(try omega)<;>(try (repeat (first|trivial|(refine And.intro ?_ ?_)|(congr 1;omega))))
 have hi:i=t.ins.length:=by omega
 subst hi;rw[bw (by omega)]at f2;repeat' first|simp (disch:=omega) only[go_sem,aF,aG,aH,f0,f2]|refine aE ?_|refine aD ?_ ?_<;>intro hw<;>try omega|fail
 obtain⟨A,hA⟩:∃ A,hd::t.ins.map pG=A:=⟨_,rfl⟩;have MO:t.ins.length+1=A.length:=by rw[<-hA];simp
 rw[hA]at f2;with_reducible refine bZ [3,7,48,49,50,51,52,53,54,55,56,57,58,59,60,61,62,63,64,65,66,67] (fun q:Nat × ae=>[(48,I q.1),(3,.own E1 1 (A.length+q.1) 0 (A.length+q.1))]) (fun q=>q.2) (fun q=>q.1<=t.outs.length/\q.2[0]? = some (.cells [.str t.name,.aO false EC (t.ins.map bq),.aO false EC (t.outs.map bq),I t.aM,I t.agg,.aO false ER (t.rules.map cu)])/\q.2[1]? = some (.vec E1 ((A++(t.outs.take q.1).map ny).map cj))) (fun q=>t.outs.length-q.1) (0,_) ⟨bR _,f0,by simpa using f2⟩ rfl ?_ ?_
 ·simp only[<-MO,di];exact at_
 clear f0 f2;rintro⟨i,S⟩ r ⟨k1,f0,f2⟩;dsimp only at k1 f0 f2;by_cases hi:i<t.outs.length
 ·have hc:=o2 _ (bJ hi);have hts:=take_succ hi;obtain⟨c,hce⟩:∃ c,t.outs.getD i default=c:=⟨_,rfl⟩;rw[hce]at hc hts;have g3:(pE.map cj).getD c.kind.toNat .undef = .str (lj c.kind):=Az hc.1.2.1 (by simp[pE];omega);have c5:=kQ [tW,c.name,lj c.kind] (by simp) (cB (od (by simp) (by omega) (by have:=zi c.kind;omega)) (by decide));have c6:=A8 (cg [tW,c.name,lj c.kind]) c.order (od (by simp) (by omega) (by have:=zi c.kind;omega)) hc.2;have hw:iL (cg [tW,c.name,lj c.kind]) c.order=ny c:=rfl;have hol:=hc.2.1;rw[hw]at c6;generalize cg [tW,c.name,lj c.kind]=ww at *;generalize lj c.kind=kw at *;simp only[bX,dy,aZ,br,cj]at c5 c6;have jT:((A++(t.outs.take (i+1)).map ny).map cj)=((A++(t.outs.take i).map ny).map cj)++[.str (ny c)]:=by rw[hts];simp[cj]
  have pC:((A++(t.outs.take i).map ny).map cj).length=A.length+i:=by simp;omega
  generalize ny c=w at *;generalize ((A++(t.outs.take i).map ny).map cj)=X at *;have Ko:∀ d:aY,(S++[d])[0]? = some (.cells [.str t.name,.aO false EC (t.ins.map bq),.aO false EC (t.outs.map bq),I t.aM,I t.agg,.aO false ER (t.rules.map cu)]):=fun d=>eH f0 d;have VB:∀ d:aY,(S++[d])[1]? = some (.vec E1 X):=fun d=>eH f2 d;have wG:=ef f2;repeat' first|simp (disch:=omega) only[go_sem,aF,aG,aH,g3,l3,bY,f0,f2,Ko,VB,hce,pC]|refine aE ?_|refine xK c5 ?_|refine aD ?_ ?_<;>intro hw<;>try omega|fail
  all_goals first|(exfalso;omega)|skip
  refine⟨(i+1,_),⟨by dsimp only;omega,?_,?_⟩,by dsimp only;omega,rfl,dH,?_⟩
  ·dsimp only;rw[List.getElem?_set_ne (by decide)];exact Ko _
  ·dsimp only;rw[List.getElem?_set_self (by simp;omega)];exact congrArg (fun z=>some (aY.vec E1 z)) jT.symm
  ·dsimp only;simp (disch:=omega) only[jY,jb,and_true,go_sem,aF,aG,aH,Int.natCast_add,Int.cast_ofNat_Int]<;>(try trivial)<;>(try omega)<;>(try (repeat (first|trivial|(refine And.intro ?_ ?_)|(congr 1;omega))))
 have hi:i=t.outs.length:=by omega
 subst hi;rw[bw (by omega)]at f2;repeat' first|simp (disch:=omega) only[go_sem,aF,aG,aH,f0,f2]|refine aE ?_|refine aD ?_ ?_<;>intro hw<;>try omega|fail
 obtain⟨B,hB⟩:∃ B,A++t.outs.map ny=B:=⟨_,rfl⟩;have hBl:A.length+t.outs.length=B.length:=by rw[<-hB];simp
 rw[hB]at f2;with_reducible refine bZ [3,9,71,72,73,74,75,76,77,78,79,80,81,82,83,84,85,86] (fun q:Nat × ae=>[(71,I q.1),(3,.own E1 1 (B.length+q.1) 0 (B.length+q.1))]) (fun q=>q.2) (fun q=>q.1<=t.rules.length/\q.2[0]? = some (.cells [.str t.name,.aO false EC (t.ins.map bq),.aO false EC (t.outs.map bq),I t.aM,I t.agg,.aO false ER (t.rules.map cu)])/\q.2[1]? = some (.vec E1 ((B++(t.rules.take q.1).map jg).map cj))) (fun q=>t.rules.length-q.1) (0,_) ⟨bR _,f0,by simpa using f2⟩ rfl ?_ ?_
 ·simp only[<-hBl,di];exact at_
 clear f0 f2;rintro⟨i,S⟩ r ⟨k1,f0,f2⟩;dsimp only at k1 f0 f2;by_cases hi:i<t.rules.length
 ·have hc:=r2 _ (bJ hi);have hts:=take_succ hi;obtain⟨c,hce⟩:∃ c,t.rules.getD i default=c:=⟨_,rfl⟩;rw[hce]at hc hts;have c5:=strings_Join c.cells [32,124,32] (by have:=hc.1.1;omega) (by have:=Ay hc.1;unfold kN at this;omega);have c6:=strings_Join c.outs [32,124,32] (by have:=hc.2.1;omega) (by have:=Ay hc.2;unfold kN at this;omega);have b1:=Ay hc.1;have b2:=Ay hc.2;have c7:=kQ [sY,kN c.cells,[58],kN c.outs] (by simp) (Hi (by simp) (by omega) (by simp) (by omega));have hw:cg [sY,kN c.cells,[58],kN c.outs]=jg c:=rfl;have vq:Lib.join c.cells [32,124,32]=kN c.cells:=rfl;have gN:Lib.join c.outs [32,124,32]=kN c.outs:=rfl;rw[hw]at c7;rw[vq]at c5;rw[gN]at c6;have kj:=hc.1.1;have agD:=hc.2.1;generalize kN c.cells=wa at *;generalize kN c.outs=wb at *;simp only[bX,aZ,br,XS]at c5 c6 c7;have jT:((B++(t.rules.take (i+1)).map jg).map cj)=((B++(t.rules.take i).map jg).map cj)++[.str (jg c)]:=by rw[hts];simp[cj]
  have pC:((B++(t.rules.take i).map jg).map cj).length=B.length+i:=by simp;omega
  generalize jg c=w at *;generalize ((B++(t.rules.take i).map jg).map cj)=X at *;have Ko:∀ d:aY,(S++[d])[0]? = some (.cells [.str t.name,.aO false EC (t.ins.map bq),.aO false EC (t.outs.map bq),I t.aM,I t.agg,.aO false ER (t.rules.map cu)]):=fun d=>eH f0 d;have VB:∀ d:aY,(S++[d])[1]? = some (.vec E1 X):=fun d=>eH f2 d;have wG:=ef f2;repeat' first|simp (disch:=omega) only[go_sem,aF,aG,aH,l3,bY,f0,f2,Ko,VB,hce,pC]|refine aE ?_|refine xK c7 ?_|refine aD ?_ ?_<;>intro hw<;>try omega|fail
  all_goals first|(exfalso;omega)|skip
  refine⟨(i+1,_),⟨by dsimp only;omega,?_,?_⟩,by dsimp only;omega,rfl,dH,?_⟩
  ·dsimp only;rw[List.getElem?_set_ne (by decide)];exact Ko _
  ·dsimp only;rw[List.getElem?_set_self (by simp;omega)];exact congrArg (fun z=>some (aY.vec E1 z)) jT.symm
  ·dsimp only;simp (disch:=omega) only[jY,jb,and_true,go_sem,aF,aG,aH,Int.natCast_add,Int.cast_ofNat_Int]<;>(try trivial)<;>(try omega)<;>(try (repeat (first|trivial|(refine And.intro ?_ ?_)|(congr 1;omega))))
 have hi:i=t.rules.length:=by omega
 subst hi;rw[bw (by omega)]at f2;have pC:((B++t.rules.map jg).map cj).length=B.length+t.rules.length:=by simp
 have hEl:E=(B++t.rules.map jg)++[qp]:=by rw[<-hE,<-hB,<-hA];simp
 have wG:=ef f2;generalize B++t.rules.map jg=X at *;have hp:=uH (X++[qp]);have hm:(X++[qp]).map cj=X.map cj++[.str qp]:=by simp[cj]
 repeat' first|simp (disch:=omega) only[go_sem,aF,aG,aH,f0,f2,pC]|refine aE ?_|refine aD ?_ ?_<;>intro hw<;>try omega|fail
 all_goals first|(exfalso;omega)|skip
 refine iw ?_;rw[hEl];rw[hm]at hp;simp only[hm];exact View.vec (T:=none) (List.getElem?_set_self wG) (by simp at pC ⊢;omega) (by simp at pC ⊢;omega) hp
structure TxC (c:dX):Prop where
 tab:c.kind=1->Hh c.table
 name:c.name.length<=2 ^ 20
 ver:iE c.ver
 row:Qv c.row
 lz:iE c.lz
 nS:iE c.nS
def AA{n:Int}(h:iE n): (Lib.itoa n).length<=2 ^ 20:=by
 have:=Fi n h.1 h.2;omega
def C0(c:dX)(h:TxC c): aP aK 20 [ey c] (bX (dR c)):=by
 obtain⟨h1,h2,h3,h4,h5,h6⟩:=h;have i1:=AA h3;have i2:=AA h5;have i3:=AA h6;have c1:=strconv_Itoa c.ver h3.1 h3.2;have c2:=strconv_Itoa c.lz h5.1 h5.2;have c3:=strconv_Itoa c.nS h6.1 h6.2;have hrow:=h4.1;by_cases k1:c.kind=1
 ·have ct:=w_ c.table (h1 k1);have e:dR c=j5 c.table:=by unfold dR;rw[if_pos k1]
  rw[e];generalize j5 c.table=L at *;simp only[dV,ia,cJ,eF,bX]at ct;simp only[ey,ju,bX];refine aR kV ?_;intro Q aF aG aH;repeat' first|simp (disch:=omega) only[go_sem,aF,aG,aH,k1]|refine aE ?_|refine aD ?_ ?_<;>intro hw<;>try omega|fail
  all_goals first|exact bN|exact iw h_|exact aU rfl (by simp)|skip
 by_cases k2:c.kind=2
 ·have e:dR c=[iL (cg [jJ,c.name,Lib.itoa c.ver]) c.row]:=by unfold dR;rw[if_neg k1,if_pos k2]
  have c4:=kQ [jJ,c.name,Lib.itoa c.ver] (by simp) (cB (od (by simp) (by omega) (by omega)) (by decide));have hl:(cg [jJ,c.name,Lib.itoa c.ver]).length<=2 ^ 30:=od (by simp) (by omega) (by omega);have c5:=A8 (cg [jJ,c.name,Lib.itoa c.ver]) c.row hl h4;rw[e];generalize cg [jJ,c.name,Lib.itoa c.ver]=w at *;generalize iL w c.row=z at *;generalize Lib.itoa c.ver=t at *;simp only[bX,dy,aZ,br,cj]at c4 c5;simp only[ey,ju,bX,aZ,br,cj];refine aR kV ?_;intro Q aF aG aH;repeat' first|simp (disch:=omega) only[go_sem,aF,aG,aH,k2]|refine aE ?_|refine xK c4 ?_|refine aD ?_ ?_<;>intro hw<;>try omega|fail
  all_goals first|exact bN|exact iw h_|exact iw (View.vec rfl rfl rfl rfl)|skip
 by_cases k3:c.kind=3
 ·have e:dR c=[cg [lg,c.name,Lib.itoa c.ver]]:=by unfold dR;rw[if_neg k1,if_neg k2,if_pos k3]
  have c4:=kQ [lg,c.name,Lib.itoa c.ver] (by simp) (cB (od (by simp) (by omega) (by omega)) (by decide));rw[e];generalize cg [lg,c.name,Lib.itoa c.ver]=w at *;generalize Lib.itoa c.ver=t at *;simp only[bX,aZ,br,cj]at c4;simp only[ey,ju,bX,aZ,br,cj];refine aR kV ?_;intro Q aF aG aH;repeat' first|simp (disch:=omega) only[go_sem,aF,aG,aH,k3]|refine aE ?_|refine xK c4 ?_|refine aD ?_ ?_<;>intro hw<;>try omega|fail
  all_goals first|exact bN|exact iw h_|exact iw (View.vec rfl rfl rfl rfl)|skip
 by_cases k5:c.kind=5
 ·have e:dR c=[cg [tX,Lib.itoa c.lz,Lib.itoa c.nS]]:=by unfold dR;rw[if_neg k1,if_neg k2,if_neg k3,if_pos k5]
  have c4:=kQ [tX,Lib.itoa c.lz,Lib.itoa c.nS] (by simp) (cB (od (by simp) (by omega) (by omega)) (by decide));rw[e];generalize cg [tX,Lib.itoa c.lz,Lib.itoa c.nS]=w at *;generalize Lib.itoa c.lz=t at *;generalize Lib.itoa c.nS=u at *;simp only[bX,aZ,br,cj]at c4;simp only[ey,ju,bX,aZ,br,cj];refine aR kV ?_;intro Q aF aG aH;repeat' first|simp (disch:=omega) only[go_sem,aF,aG,aH,k5]|refine aE ?_|refine xK c4 ?_|refine aD ?_ ?_<;>intro hw<;>try omega|fail
  all_goals first|exact bN|exact iw h_|exact iw (View.vec rfl rfl rfl rfl)|skip
 by_cases k6:c.kind=6
 ·have e:dR c=[cg [kz,Lib.itoa c.lz]]:=by unfold dR;rw[if_neg k1,if_neg k2,if_neg k3,if_neg k5,if_pos k6]
  have c4:=kQ [kz,Lib.itoa c.lz] (by simp) (by rw[CU];simp;omega);rw[e];generalize cg [kz,Lib.itoa c.lz]=w at *;generalize Lib.itoa c.lz=t at *;simp only[bX,aZ,br,cj]at c4;simp only[ey,ju,bX,aZ,br,cj];refine aR kV ?_;intro Q aF aG aH;repeat' first|simp (disch:=omega) only[go_sem,aF,aG,aH,k6]|refine aE ?_|refine xK c4 ?_|refine aD ?_ ?_<;>intro hw<;>try omega|fail
  all_goals first|exact bN|exact iw h_|exact iw (View.vec rfl rfl rfl rfl)|skip
 have e:dR c=[nM c.kind]:=by unfold dR;rw[if_neg k1,if_neg k2,if_neg k3,if_neg k5,if_neg k6]
 have c4:=CZ c.kind;rw[e];generalize nM c.kind=w at *;simp only[ey,ju,bX,aZ,br,cj];refine aR kV ?_;intro Q aF aG aH;repeat' first|refine aE ?_|refine aD ?_ ?_<;>intro hw<;>try omega|fail
 all_goals first|exact bN|exact iw h_|exact iw (View.vec rfl rfl rfl rfl)|skip
def VC{l:List dX}{i:Nat}(hl:l.length<=64)(hi:i<l.length)(hk:∀ k,k<i->dY (l.getD k default)=0)(h:dY (l.getD i default)≠0): lJ l=([],dY (l.getD i default)):=by
 unfold lJ;rw[if_neg (by omega),wg hi (fun k h=>by rw[hk k h];rfl) (by simpa using h)]
def VD{ls:List aI}{j:Nat}(hj:j<ls.length)(x:aI): x++ei (ls.take (j+1))=(x++ei (ls.take j))++(ls.getD j default++[10]):=by
 rw[take_succ hj];simp[ei]
def Z_(ls:List aI): ls.length<=(ei ls).length:=by
 induction ls with
 | nil=>simp
 | cons s l ih =>
   have e:ei (s::l)=s++(10::ei l):=by simp[ei]
   rw[e,aA,List.length_cons,List.length_cons];omega
def Lh(ls:List aI)(j:Nat): (ei (ls.take j)).length<=(ei ls).length:=CQ _ ls j
set_option maxRecDepth 20000 in
def Ed(l:List dX)(hl:l.length<=2 ^ 30)(ok:∀ c ∈ l,iJ c)(tx:∀ c ∈ l,dY c=0->TxC c/\(ei (dR c)).length<=2 ^ 28): aP aK 9 [lI l] (eB (lJ l)):=by
 obtain⟨E,hE⟩:∃ E,lJ l=E:=⟨_,rfl⟩;rw[hE];simp only[eB,lI];refine aR HR ?_;intro Q aF aG aH;by_cases hbig:64<l.length
 ·repeat' first|refine aE ?_|refine aD ?_ ?_<;>intro hw<;>try omega|fail
  all_goals first|exact bN|(refine b_ ?_ rfl;rw[<-hE];unfold lJ;rw[if_pos hbig];done)|skip
 have hb0:mh TB [.bW (some TB) [.iM,.au]] 0 []:=⟨_,_,rfl,.inl rfl,.inl ⟨rfl,rfl⟩⟩;repeat' first|refine aE ?_|refine aD ?_ ?_<;>intro hw<;>try omega|fail
 all_goals first|exact bN|skip
 with_reducible refine bZ [2,3,6,7,9,15,16,17,18,19,20,21,22,23,24,25,26,27,28,29,30,31,32,33,34,35] (fun x:Nat × ae=>[(15,I x.1)]) (fun x=>x.2) (fun x=>x.1<=l.length/\(∀ k,k<x.1->dY (l.getD k default)=0)/\mh TB x.2 0 (fI (l.take x.1))/\(fI (l.take x.1)).length<=x.1*2 ^ 28) (fun x=>l.length-x.1) (0,_) ⟨bR _,fun k hk=>by omega,hb0,by simp[fI]⟩ rfl ?_ ?_
 ·exact at_
 clear hb0;rintro⟨i,σ⟩ r ⟨g1,g2,g3,g4⟩;dsimp only at g1 g2 g3 g4;by_cases hi:i<l.length
 ·have hc:=A5 _ (ok _ (bJ hi));have zj:=tx _ (bJ hi);have jT:fI (l.take (i+1))=fI (l.take i)++ei (dR (l.getD i default)):=by rw[take_succ hi,Aq]
  have cZ:=fun he=>bI (q:=fun k=>dY (l.getD k default)=0) g2 (i:=i) he;have her:=VC (by omega) hi g2;obtain⟨v,qd⟩:∃ v,l.getD i default=v:=⟨_,rfl⟩;rw[qd]at hc zj jT cZ her;by_cases h0:dY v=0
  ·obtain⟨t1,t2⟩:=zj h0;have cl:=C0 v t1;rw[h0]at hc;have cZ:=cZ h0;clear her zj;generalize dR v=ls at *;have hls:=Z_ ls;generalize fI (l.take i)=T at *;simp only[ey,ju,bX]at hc cl;repeat' first|simp (disch:=omega) only[go_sem,aF,aG,aH,qd]|refine aE ?_|refine aD ?_ ?_<;>intro hw<;>try omega|fail
   all_goals first|exact bN|skip
   with_reducible refine bZ [9,27,28,29,30,31,32,33,34] (fun x:Nat × ae=>[(27,I x.1)]) (fun x=>x.2) (fun x=>x.1<=ls.length/\mh TB x.2 0 (T++ei (ls.take x.1))) (fun x=>ls.length-x.1) (0,_) ⟨bR _,by simpa[ei]using g3.push _⟩ rfl ?_ ?_
   ·exact at_
   rintro⟨j,σ1⟩ r1 ⟨k1,k2⟩;dsimp only at k1 k2;by_cases hj:j<ls.length
   ·have Jk:=VD hj T;have hft:=Lh ls (j+1);have hfl:=congrArg List.length Jk;simp only[aA,List.length_cons,List.length_nil]at hfl;obtain⟨z,hz⟩:∃ z,ls.getD j default=z:=⟨_,rfl⟩;rw[hz]at Jk hfl;have gz:(List.map cj ls).getD j .undef = .str z:=by rw[getD_map _ _ _ hj,hz];rfl
    have ab5:i*2 ^ 28<=64*2 ^ 28:=aX _ (by omega);have hU:(T++ei (ls.take j)).length=T.length+(ei (ls.take j)).length:=aA;generalize T++ei (ls.take j)=U at *;have hlen:U.length+z.length<=2 ^ 38:=by omega
    repeat' first|simp (disch:=omega) only[go_sem,aF,aG,aH,gz,hz]|refine aE ?_|refine aD ?_ ?_<;>intro hw<;>try omega|fail
    with_reducible refine cz (Builder_WriteString tS _ 0 _ z k2 hlen) ?_
    all_goals first|exact bN|skip
    rintro o σ2 ⟨rfl,gN,_⟩;repeat' first|refine aE ?_|with_reducible refine cz (Builder_WriteByte tS _ 0 _ 10 10 rfl gN (by simp;omega)) ?_|refine aD ?_ ?_<;>intro hw<;>try omega|fail
    all_goals first|exact bN|skip
    rintro o σ3 ⟨rfl,sR,_⟩;repeat' first|refine aE ?_|refine aD ?_ ?_<;>intro hw<;>try omega|fail
    refine⟨(j+1,σ3),⟨by dsimp only;omega,?_⟩,by dsimp only;omega,rfl,dH,?_⟩
    ·dsimp only;rw[Jk];simpa using sR
    ·clear Jk hfl hft hU ab5 hlen gN sR gz k2 g4;dsimp only;exact at_
   ·obtain rfl:j=ls.length:=by omega
    rw[bw (by omega)]at k2;repeat' first|refine aE ?_|refine aD ?_ ?_<;>intro hw<;>try omega|fail
    refine⟨(i+1,σ1),⟨by dsimp only;omega,cZ,by dsimp only;rw[jT];exact k2,?_⟩,by dsimp only;omega,rfl,dH,?_⟩
    ·dsimp only;rw[jT,aA];omega
    ·exact at_
  ·rw[her h0]at hE;clear zj;generalize dY v=e at *;simp only[ey,ju]at hc;repeat' first|simp (disch:=omega) only[go_sem,aF,aG,aH,qd]|refine aE ?_|refine aD ?_ ?_<;>intro hw<;>try omega|fail
   all_goals first|exact bN|(refine b_ ?_ rfl;rw[<-hE];done)|skip
 ·obtain rfl:i=l.length:=by omega
  have ht:l.take l.length=l:=bw (by omega);rw[ht]at g3 g4;rw[Fu (by omega) (afm (fun k hk=>g2 k hk))]at hE;have ab5:l.length*2 ^ 28<=64*2 ^ 28:=aX _ (by omega);generalize fI l=T at *;repeat' first|refine aE ?_|with_reducible refine cz (Builder_String _ 0 _ g3 (by omega)) ?_|refine aD ?_ ?_<;>intro hw<;>try omega|fail
  all_goals first|exact bN|skip
  rintro o σ2 ⟨rfl,_⟩;repeat' first|refine aE ?_|refine aD ?_ ?_<;>intro hw<;>try omega|fail
  all_goals first|exact bN|(refine b_ ?_ rfl;rw[<-hE];done)|skip
