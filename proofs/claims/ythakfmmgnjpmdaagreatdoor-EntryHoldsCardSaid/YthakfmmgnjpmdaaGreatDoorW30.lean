/- Part. -/
import Derived.Test.YthakfmmgnjpmdaaGreatDoorW29
set_option linter.all false
set_option maxHeartbeats 1000000
namespace Go.Proofs.YthakfmmgnjpmdaaGreatDoor
open Go.AM
set_option maxRecDepth 4000
def qP(e:Int): AV:= .lq 29 (I e)
def rK: iW->Out
 | .ok v=> .ret (bX v)
 | .err e=> .panic (qP e)
def ep{r:iW}: ∀ v,rK r = .panic v->v.flat=true:=by
 intro v h;cases r with
 | ok v=>cases h
 | err e=>cases h;rfl
def adq{n:FuncId}{args:List AV}{σ : ae}{K Kp:AV->ae->Prop}{r:iW}(h:cQ aH n args (rK r))(k1:∀ v,r = .ok v->j8 (bX v) (.mk:Tg fun r=>K r σ))(k2:∀ e,r = .err e->Kp (qP e) σ): qf Tryz.prog n args σ (.mk:Tg (K,Kp)):=by
 cases r with
 | ok v=>exact Al h (k1 v rfl)
 | err e=>exact Kf h (k2 e rfl)
def adr{n:FuncId}{args:List AV}{σ : ae}{K Kp:AV->ae->Prop}{r:iW}(h:cQ aH n args (rK r))(k1:∀ v,r = .ok v->j8 (bX v) (.mk:Tg fun r=>K r σ))(k2:∀ e,r = .err e-> ∀ s,Kp (qP e) s): N2 Tryz.prog n args σ (.mk:Tg (K,Kp)):=by
 cases r with
 | ok v=>exact SS h (k1 v rfl)
 | err e=>exact Kg h (k2 e rfl)
def A3 {n : FuncId} {args : List AV} {r : iW} {K1 : aL -> Prop} {K2 : Int -> Prop} {G : Prop} (h : cQ aH n args (rK r)) (k1 : ∀ v, r = .ok v -> K1 v) (k2 : ∀ e, r = .err e -> K2 e)
    (hg : cQ aH n args (rK r) -> (∀ v, r = .ok v -> K1 v) -> (∀ e, r = .err e -> K2 e) -> G := by
      intro h k1 k2;with_reducible first|exact adq h k1 k2|exact adr h k1 k2):G:=hg h k1 k2
def A4 {n : FuncId} {args : List AV} {v : AV} {K G : Prop} (h : cQ aH n args (.panic v)) (k : K) (hg : cQ aH n args (.panic v) -> K -> G := by
    intro h k;with_reducible first|exact Kf h k|exact Kg h k):G:=hg h k
def Qe {n : FuncId} {args' : List AV} {v : AV} {K G : Prop} (h : cQ aH n args' (.panic v)) (k : K) (hg : cQ aH n args' (.panic v) -> K -> G := by
    intro h k;with_reducible first|refine Kf (h.weak ?_) k|refine Kg (h.weak ?_) k
    exact DR):G:=hg h k
def jy{σ : ae}{v:AV}{r:iW}{u:aL}(h:r = .ok u)(hv:v=bX u): Z1 σ (.ret (oneOf [v])) (rK r):=by
 subst h;subst hv;exact View.refl _ (BM u)
def gE{σ : ae}{r:iW}{e:Int}(h:r = .err e): Z1 σ (.panic (qP e)) (rK r):=by subst h;exact rfl
def oR(e:Int)(h:e≠0): cQ aH 183 [I e] (.panic (qP e)):=by
 refine cQ.of_nil (CM.go ?_) rfl rfl;unfold dO;intro Q aB aC aD;repeat' first|refine au ?_|refine aq ?_ ?_<;>intro hw<;>try omega|fail
 all_goals first|(simp only[go_sem,aD];done)|exact a_|rfl
def R5: aM aH 183 [I 0] (.bH []):=by
 refine aR CM ?_;intro Q aB aC aD;repeat' first|refine au ?_|refine aq ?_ ?_<;>intro hw<;>try omega|fail
 all_goals first|exact a_|exact⟨_,rfl,.refl _ rfl⟩
def N5(n e:Int): iW:=if e=0 then .ok ⟨1,n,[]⟩else .err e
def r7(n e:Int): cQ aH 154 [I n,I e] (rK (N5 n e)):=by
 unfold N5;by_cases h:e=0
 ·subst h;rw[if_pos rfl];refine aR Ay ?_;intro Q aB aC aD;repeat' first|refine au ?_|refine eZ R5 ?_|refine aq ?_ ?_<;>intro hw<;>try omega|fail
  exact aU rfl rfl
 ·rw[if_neg h];refine cQ.of_nil (Ay.go ?_) rfl rfl;unfold dO;intro Q aB aC aD;repeat' first|refine au ?_|refine A4 (oR e h) ?_|refine aq ?_ ?_<;>intro hw<;>try omega|fail
  all_goals first|(simp only[go_sem,aD];done)|exact a_|rfl
def numOf: iW->Int
 | .ok v=>v.n
 | .err _=>0
def oS: iW->Int
 | .ok _=>0
 | .err e=>e
def isNum: iW->Prop
 | .ok v=>v=⟨1,v.n,[]⟩
 | .err e=>e≠0
def Tt{r:iW}(h:isNum r): N5 (numOf r) (oS r)=r:=by
 unfold N5;cases r with
 | ok v =>
   simp only[oS,numOf,if_true];exact congrArg iW.ok h.symm
 | err e =>
   have h:e≠0:=h;exact if_neg h
def Er(n:Int): isNum (jR n):=by unfold jR;split<;>simp[isNum]
def Ym(a b:Int): isNum (wN a b):=by
 unfold wN;split
 ·simp[isNum]
 ·exact Er _
def R6(op a b:Int): isNum (pA op a b):=by
 unfold pA;repeat' split
 all_goals first|exact Er _|exact Ym _ _
def A5{n:Int}(h : -9223372036854775808<=n/\n<=9223372036854775807): jR n = .ok ⟨1,n,[]⟩:=if_pos h
def yB{n:Int}(h:¬ (-9223372036854775808<=n/\n<=9223372036854775807)): jR n = .err 15:=if_neg h
def ku(n:Int): Prop:= -9223372036854775808<=n/\n<=9223372036854775807
def Mv{n:Int}(h:9223372036854775807<n)(h':n<=18446744073709551615): dF .i64 n=n-18446744073709551616:=by
 show IntKind.wrap .i64 n=_;simp only[IntKind.wrap,IntKind.bits,IntKind.signed];simp;omega
def Jn{n:Int}(h:n < -9223372036854775808)(h' : -18446744073709551616<=n): dF .i64 n=n+18446744073709551616:=by
 show IntKind.wrap .i64 n=_;simp only[IntKind.wrap,IntKind.bits,IntKind.signed];simp;omega
def Qf(a b:Int)(ha:ku a)(hb:ku b): aM aH 191 [I a,I b] (.bH [I (numOf (jR (a+b))),I (oS (jR (a+b)))]):=by
 unfold ku at ha hb;by_cases h : -9223372036854775808<=a+b/\a+b<=9223372036854775807
 ·rw[A5 h];refine aR zL ?_;intro Q aB aC aD;repeat' first|refine au ?_|refine aq ?_ ?_<;>intro hw<;>try omega|fail
  all_goals first|exact bx rfl rfl|exact a_
 ·rw[yB h];by_cases h1:9223372036854775807<a+b
  ·have yC:=Mv h1 (by omega);refine aR zL ?_;intro Q aB aC aD;repeat' first|simp (disch:=omega) only[go_sem,aB,aC,aD,yC]|refine au ?_|refine aq ?_ ?_<;>intro hw<;>try omega|fail
   all_goals first|exact bx rfl rfl|exact a_
  ·have yC:=Jn (n:=a+b) (by omega) (by omega);refine aR zL ?_;intro Q aB aC aD;repeat' first|simp (disch:=omega) only[go_sem,aB,aC,aD,yC]|refine au ?_|refine aq ?_ ?_<;>intro hw<;>try omega|fail
   all_goals first|exact bx rfl rfl|exact a_
def Qg(a b:Int)(ha:ku a)(hb:ku b): aM aH 155 [I a,I b] (.bH [I (numOf (jR (a-b))),I (oS (jR (a-b)))]):=by
 unfold ku at ha hb;by_cases h : -9223372036854775808<=a-b/\a-b<=9223372036854775807
 ·rw[A5 h];refine aR zJ ?_;intro Q aB aC aD;repeat' first|refine au ?_|refine aq ?_ ?_<;>intro hw<;>try omega|fail
  all_goals first|exact bx rfl rfl|exact a_
 ·rw[yB h];by_cases h1:9223372036854775807<a-b
  ·have yC:=Mv h1 (by omega);refine aR zJ ?_;intro Q aB aC aD;repeat' first|simp (disch:=omega) only[go_sem,aB,aC,aD,yC]|refine au ?_|refine aq ?_ ?_<;>intro hw<;>try omega|fail
   all_goals first|exact bx rfl rfl|exact a_
  ·have yC:=Jn (n:=a-b) (by omega) (by omega);refine aR zJ ?_;intro Q aB aC aD;repeat' first|simp (disch:=omega) only[go_sem,aB,aC,aD,yC]|refine au ?_|refine aq ?_ ?_<;>intro hw<;>try omega|fail
   all_goals first|exact bx rfl rfl|exact a_
def aaY{a b:Int}(ha:ku a)(hb:b≠0)(h:¬ (a = -9223372036854775808/\b = -1)): ku (a.tdiv b):=by
 unfold ku at *;by_cases h1:b = -1
 ·subst h1;rw[Int.tdiv_neg,Int.tdiv_one];omega
 ·by_cases h2:b=1
  ·subst h2;rw[Int.tdiv_one];exact ha
  ·have:=Int.natAbs_tdiv_le_natAbs a b
   have h3:(a.tdiv b).natAbs<=a.natAbs / 2:=by
    rw[Int.natAbs_tdiv];exact Nat.div_le_div_left (by omega) (by omega)
   omega
def aaZ(a b:Int)(ha:ku a)(hb:ku b): aM aH 208 [I a,I b] (.bH [I (numOf (wN a b)),I (oS (wN a b))]):=by
 by_cases h0:b=0
 ·subst h0;have e:wN a 0 = .err 16:=rfl;rw[e];refine aR zM ?_;intro Q aB aC aD;repeat' first|refine au ?_|refine aq ?_ ?_<;>intro hw<;>try omega|fail
  all_goals first|exact bx rfl rfl|exact a_
 have e:wN a b=jR (a.tdiv b):=if_neg h0;rw[e];by_cases h:a = -9223372036854775808/\b = -1
 ·obtain⟨rfl,rfl⟩:=h;rw[yB (by decide)];refine aR zM ?_;intro Q aB aC aD;repeat' first|refine au ?_|refine aq ?_ ?_<;>intro hw<;>try omega|fail
  all_goals first|exact bx rfl rfl|exact a_
 ·have hr:=aaY ha h0 h;have yC:dF .i64 (a.tdiv b)=a.tdiv b:=Dx hr.1 hr.2;rw[A5 hr];unfold ku at ha hb;refine aR zM ?_;intro Q aB aC aD;repeat' first|simp (disch:=omega) only[go_sem,aB,aC,aD,yC]|refine au ?_|refine aq ?_ ?_<;>intro hw<;>try omega|fail
  all_goals first|exact bx rfl rfl|exact bx (congrArg (fun z=>[AV.int .i64 z,AV.int .i64 0]) yC) rfl|skip
def afm(a:Int)(h:0<=a)(h':a<=9223372036854775808): dF .u64 a=a:=by
 show IntKind.wrap .u64 a=_;simp only[IntKind.wrap,IntKind.bits,IntKind.signed];simp;omega
def ads(a:Int)(h:a<0)(h' : -9223372036854775808<=a): dF .u64 a=a+18446744073709551616:=by
 show IntKind.wrap .u64 a=_;simp only[IntKind.wrap,IntKind.bits,IntKind.signed];simp;omega
def Mw(a:Int)(ha:ku a): aM aH 225 [I a] (.int .u64 (a.natAbs:Int)):=by
 unfold ku at ha;by_cases h:a<0
 ·have e1:=ads a h ha.1
  have e2:dF .u64 (0-(a+18446744073709551616)) = -a:=by
   show IntKind.wrap .u64 _=_;simp only[IntKind.wrap,IntKind.bits,IntKind.signed];simp;omega
  have e3:(a.natAbs:Int) = -a:=by omega
  rw[e3];refine aR DQ ?_;intro Q aB aC aD;repeat' first|simp (disch:=omega) only[go_sem,aB,aC,aD,e1,e2]|refine au ?_|refine aq ?_ ?_<;>intro hw<;>try omega|fail
  all_goals first|exact aU rfl rfl|(rw[e1,e2];exact aU rfl rfl)|skip
 ·have e1:=afm a (by omega) (by omega);have e3:(a.natAbs:Int)=a:=by omega
  rw[e3];refine aR DQ ?_;intro Q aB aC aD;repeat' first|simp (disch:=omega) only[go_sem,aB,aC,aD,e1]|refine au ?_|refine aq ?_ ?_<;>intro hw<;>try omega|fail
  all_goals first|exact aU rfl rfl|(rw[e1];exact aU rfl rfl)|skip
def bits_Mul(x y:Nat)(hx:x<18446744073709551616)(hy:y<18446744073709551616): aM aH 224 [.int .u64 x,.int .u64 y] (.bH [.int .u64 ((x*y / 18446744073709551616:Nat):Int),.int .u64 ((x*y % 18446744073709551616:Nat):Int)]):=by
 refine ou ⟨_,Tryz.func224,by kernel_rfl,by kernel_rfl⟩ fun g w σ vs hR hl hv=>?_;have h3:=hv 0 (by simp);have h4:=hv 1 (by simp);rw[PK hl];generalize vs.getD 0 Go.undef=v at h3;generalize vs.getD 1 Go.undef=u at h4;simp only[bD,fZ]at h3 h4;cases h3;cases h4;refine⟨.tuple #[.int .u64 ((x*y / 18446744073709551616:Nat):Int),.int .u64 ((x*y % 18446744073709551616:Nat):Int)],fun g' w'=>?_,(Tryz.bits_Mul x y hx hy w).mono ?_⟩
 ·refine .bH _ _ rfl fun i hi=>?_;have:i=0\/i=1:=by simp at hi;omega
  rcases this with rfl|rfl
  ·exact .int _ _
  ·exact .int _ _
 rintro e w' ⟨rfl,rfl⟩;exact⟨rfl,rfl,rfl,rfl,Nat.le_refl _,fun _ _=>rfl⟩
def adt(a b:Int): ((a<0↔b<0)->a*b=((a.natAbs*b.natAbs:Nat):Int))/\(¬ (a<0↔b<0)->a*b = -((a.natAbs*b.natAbs:Nat):Int)):=by
 rw[Int.natCast_mul];by_cases h1:a<0<;>by_cases h2:b<0
 ·rw[show (a.natAbs:Int) = -a by omega,show(b.natAbs:Int) = -b by omega,Int.neg_mul_neg];simp[h1,h2]
 ·rw[show (a.natAbs:Int) = -a by omega,show(b.natAbs:Int)=b by omega,Int.neg_mul];simp[h1,h2]
 ·rw[show (a.natAbs:Int)=a by omega,show(b.natAbs:Int) = -b by omega,Int.mul_neg];simp[h1,h2]
 ·rw[show (a.natAbs:Int)=a by omega,show(b.natAbs:Int)=b by omega];simp[h1,h2]
def adu{L:Nat}(h:L<=9223372036854775808): dF .i64 (dF .u64 (0-(L:Int))) = -(L:Int):=by
 show IntKind.wrap .i64 (IntKind.wrap .u64 _)=_;simp only[IntKind.wrap,IntKind.bits,IntKind.signed];simp;omega
def aa0(a b:Int)(ha:ku a)(hb:ku b): aM aH 207 [I a,I b] (.bH [I (numOf (jR (a*b))),I (oS (jR (a*b)))]):=by
 have c1:=Mw a ha;have c2:=Mw b hb;have c3:=bits_Mul a.natAbs b.natAbs (by unfold ku at ha;omega) (by unfold ku at hb;omega);obtain⟨m1,m2⟩:=adt a b;generalize a.natAbs*b.natAbs=p at *;obtain⟨H,hH⟩:∃ H,p / 18446744073709551616=H:=⟨_,rfl⟩;obtain⟨L,hL⟩:∃ L,p % 18446744073709551616=L:=⟨_,rfl⟩;rw[hH,hL]at c3;have hp:p=H*18446744073709551616+L:=by omega
 have Ed:L<18446744073709551616:=by omega
 clear hH hL;by_cases hs:(a<0↔b<0)
 ·have m:=m1 hs;rw[m];clear m m1 m2;by_cases hr:H=0/\L<=9223372036854775807
  ·obtain⟨rfl,hr⟩:=hr;obtain rfl:p=L:=by omega
   rw[A5 (by omega)];refine aR vG ?_;intro Q aB aC aD;by_cases hA:a<0
   ·have hB:=hs.1 hA;repeat' first|simp (disch:=omega) only[go_sem,aB,aC,aD,decide_eq_true hA,decide_eq_true hB]|refine au ?_|refine aq ?_ ?_<;>intro hw<;>try omega|fail
    all_goals first|exact bx rfl rfl|(exfalso;omega)|skip
   ·have hB:¬ b<0:=fun h=>hA (hs.2 h);repeat' first|simp (disch:=omega) only[go_sem,aB,aC,aD,decide_eq_false hA,decide_eq_false hB]|refine au ?_|refine aq ?_ ?_<;>intro hw<;>try omega|fail
    all_goals first|exact bx rfl rfl|(exfalso;omega)|skip
  ·rw[yB (by omega)];refine aR vG ?_;intro Q aB aC aD;by_cases hA:a<0
   ·have hB:=hs.1 hA;repeat' first|simp (disch:=omega) only[go_sem,aB,aC,aD,decide_eq_true hA,decide_eq_true hB]|refine au ?_|refine aq ?_ ?_<;>intro hw<;>try omega|fail
    all_goals first|exact bx rfl rfl|(exfalso;omega)|skip
   ·have hB:¬ b<0:=fun h=>hA (hs.2 h);repeat' first|simp (disch:=omega) only[go_sem,aB,aC,aD,decide_eq_false hA,decide_eq_false hB]|refine au ?_|refine aq ?_ ?_<;>intro hw<;>try omega|fail
    all_goals first|exact bx rfl rfl|(exfalso;omega)|skip
 ·have m:=m2 hs;rw[m];clear m m1 m2;by_cases hr:H=0/\L<=9223372036854775808
  ·obtain⟨rfl,hr⟩:=hr;obtain rfl:p=L:=by omega
   have yC:=adu hr;rw[A5 (by omega)];refine aR vG ?_;intro Q aB aC aD;by_cases hA:a<0
   ·have hB:¬ b<0:=fun h=>hs ⟨fun _=>h,fun _=>hA⟩;repeat' first|simp (disch:=omega) only[go_sem,aB,aC,aD,decide_eq_true hA,decide_eq_false hB,yC]|refine au ?_|refine aq ?_ ?_<;>intro hw<;>try omega|fail
    all_goals first|exact bx rfl rfl|exact bx (congrArg (fun z=>[AV.int .i64 z,AV.int .i64 0]) yC) rfl|(exfalso;omega)|skip
   ·have hB:b<0:=Classical.not_not.1 fun h=>hs ⟨fun h'=>absurd h' hA,fun h'=>absurd h' h⟩;repeat' first|simp (disch:=omega) only[go_sem,aB,aC,aD,decide_eq_false hA,decide_eq_true hB,yC]|refine au ?_|refine aq ?_ ?_<;>intro hw<;>try omega|fail
    all_goals first|exact bx rfl rfl|exact bx (congrArg (fun z=>[AV.int .i64 z,AV.int .i64 0]) yC) rfl|(exfalso;omega)|skip
  ·rw[yB (by omega)];refine aR vG ?_;intro Q aB aC aD;by_cases hA:a<0
   ·have hB:¬ b<0:=fun h=>hs ⟨fun _=>h,fun _=>hA⟩;repeat' first|simp (disch:=omega) only[go_sem,aB,aC,aD,decide_eq_true hA,decide_eq_false hB]|refine au ?_|refine aq ?_ ?_<;>intro hw<;>try omega|fail
    all_goals first|exact bx rfl rfl|(exfalso;omega)|skip
   ·have hB:b<0:=Classical.not_not.1 fun h=>hs ⟨fun h'=>absurd h' hA,fun h'=>absurd h' h⟩;repeat' first|simp (disch:=omega) only[go_sem,aB,aC,aD,decide_eq_false hA,decide_eq_true hB]|refine au ?_|refine aq ?_ ?_<;>intro hw<;>try omega|fail
    all_goals first|exact bx rfl rfl|(exfalso;omega)|skip
def uy(b:Bool): aM aH 156 [.bool b] (bX (fy b)):=by
 cases b
 all_goals
  refine aR Ny ?_;intro Q aB aC aD;repeat' first|refine au ?_|refine aq ?_ ?_<;>intro hw<;>try omega|fail
  exact aU rfl rfl
def R7(op a b:Int)(ha:ku a)(hb:ku b): cQ aH 185 [I op,I a,I b] (rK (pA op a b)):=by
 have hn:=Tt (R6 op a b);have cA:=Qf a b ha hb;have cS:=Qg a b ha hb;have cM:=aa0 a b ha hb;have cD:=aaZ a b ha hb;have hu:pA op a b=if op=4 then jR (a+b)else if op=5 then jR (a-b)else if op=6 then jR (a*b)else wN a b:=rfl
 by_cases h4:op=4
 ·rw[if_pos h4]at hu;rw[hu]at hn ⊢;subst h4;generalize jR (a+b)=r at *;generalize numOf r=x at *;generalize oS r=y at *;refine cQ.gC (q_.go ?_) rfl ep;unfold dO;intro Q aB aC aD;repeat' first|refine au ?_|refine A3 (r7 x y) (fun v_ pD=>?_) (fun e_ oD=>?_)|refine aq ?_ ?_<;>intro hw<;>try omega|fail
  all_goals first
   | exact jy (hn.symm.trans pD) rfl
   | exact gE (hn.symm.trans oD)
   |(exfalso;omega)
   | skip
 rw[if_neg h4]at hu;by_cases h5:op=5
 ·rw[if_pos h5]at hu;rw[hu]at hn ⊢;subst h5;generalize jR (a-b)=r at *;generalize numOf r=x at *;generalize oS r=y at *;refine cQ.gC (q_.go ?_) rfl ep;unfold dO;intro Q aB aC aD;repeat' first|refine au ?_|refine A3 (r7 x y) (fun v_ pD=>?_) (fun e_ oD=>?_)|refine aq ?_ ?_<;>intro hw<;>try omega|fail
  all_goals first
   | exact jy (hn.symm.trans pD) rfl
   | exact gE (hn.symm.trans oD)
   |(exfalso;omega)
   | skip
 rw[if_neg h5]at hu;by_cases h6:op=6
 ·rw[if_pos h6]at hu;rw[hu]at hn ⊢;subst h6;generalize jR (a*b)=r at *;generalize numOf r=x at *;generalize oS r=y at *;refine cQ.gC (q_.go ?_) rfl ep;unfold dO;intro Q aB aC aD;repeat' first|refine au ?_|refine A3 (r7 x y) (fun v_ pD=>?_) (fun e_ oD=>?_)|refine aq ?_ ?_<;>intro hw<;>try omega|fail
  all_goals first
   | exact jy (hn.symm.trans pD) rfl
   | exact gE (hn.symm.trans oD)
   |(exfalso;omega)
   | skip
 rw[if_neg h6]at hu;rw[hu]at hn ⊢;generalize wN a b=r at *;generalize numOf r=x at *;generalize oS r=y at *;refine cQ.gC (q_.go ?_) rfl ep;unfold dO;intro Q aB aC aD;repeat' first|refine au ?_|refine A3 (r7 x y) (fun v_ pD=>?_) (fun e_ oD=>?_)|refine aq ?_ ?_<;>intro hw<;>try omega|fail
 all_goals first
  | exact jy (hn.symm.trans pD) rfl
  | exact gE (hn.symm.trans oD)
  | (exfalso; omega)
    | skip
def Yn(a b:aO)(ha:a.length<=2 ^ 40)(hb:b.length<=2 ^ 40): cQ aH 184 [.str a,.str b] (rK (if 40<a.length+b.length then .err 5 else .ok ⟨2,0,a++b⟩)):=by
 by_cases h:40<a.length+b.length
 ·rw[if_pos h];refine cQ.of_nil (DO.go ?_) rfl rfl;unfold dO;intro Q aB aC aD;repeat' first|refine au ?_|refine A4 (oR 5 (by decide)) ?_|refine aq ?_ ?_<;>intro hw<;>try omega|fail
  all_goals first|(simp only[go_sem,aD];done)|exact a_|rfl
 ·rw[if_neg h];refine aR DO ?_;intro Q aB aC aD;repeat' first|refine au ?_|refine aq ?_ ?_<;>intro hw<;>try omega|fail
  all_goals first|exact a_|exact aU rfl rfl
def A6(k:Int)(v:aL): Bool:=decide (v.kind=k) || decide (v.kind=0)
def vx{k:Int}(v:aL)(h:k≠0): A6 k v=bT v.kind k:=by
 unfold A6 bT;rw[decide_eq_false h,Bool.or_false]
def qj(k:Int)(l:List aL)(n:Nat): Bool:=(l.take n).any fun v=>decide (v.kind≠k) && dB v
def VJ{k:Int}{l:List aL}{i:Nat}(h:i<l.length): qj k l (i+1)=(qj k l i ||(decide ((l.getD i default).kind≠k) && dB (l.getD i default))):=by
 unfold qj;rw[iR,List.any_append,ai,aF h];simp
def Ce(k:Int)(l:List aL)(hl:l.length<=2 ^ 40)(h:∀ i,i<l.length->A6 k (l.getD i default)=true): aM aH 153 [I k,aW l] (.bool (qj k l l.length)):=by
 refine aR IY ?_;intro Q aB aC aD;simp only[aW];repeat' first|refine au ?_|refine aq ?_ ?_<;>intro hw<;>try omega|fail
 with_reducible refine bE [4,6,9,10,11,12,13,14,15,16,17,18,19,20,21] (fun q:Nat × List bj=>[(9,I q.1),(4,.bool (qj k l q.1))]) (fun q=>q.2) (fun q=>q.1<=l.length) (fun q=>l.length-q.1) (0,[]) ?_ ?_ ?_ ?_
 ·simp
 ·rfl
 ·simp only[qj,jf,List.any_nil];exact at_
 rintro⟨i,τ⟩ r h1;dsimp only at h1;by_cases hi:i<l.length
 ·have hk:=h i hi;have hS:=VJ (k:=k) hi;obtain⟨v,hv⟩:∃ v,l.getD i default=v:=⟨_,rfl⟩;rw[hv]at hk hS;unfold A6 at hk;unfold dB at hS;simp only[bU,decide_eq_true_eq]at hk;by_cases h2:v.kind=k
  ·have hS':qj k l (i+1)=qj k l i:=by rw[hS,decide_eq_false (by simpa using h2),gM,Bool.or_false]
   repeat' first|simp (disch:=omega) only[go_sem,aB,aC,aD,hv]|refine au ?_|refine aq ?_ ?_<;>intro hw<;>try omega|fail
   all_goals first
    | exact a_
    | (refine ⟨(i + 1, τ ++ [.cells [I v.kind, I v.n, .str v.s]]), ?_, ?_, by first | rfl | (simp [go_sem]; done), cZ, ?_⟩
       ·dsimp only;omega
       ·dsimp only;omega
       ·dsimp only;rw[hS'];exact at_)
  ·have h3:v.kind=0:=by omega
   have hS':qj k l (i+1)=true:=by rw[hS,decide_eq_true h2,decide_eq_true h3];simp
   repeat' first|simp (disch:=omega) only[go_sem,aB,aC,aD,hv]|refine au ?_|refine aq ?_ ?_<;>intro hw<;>try omega|fail
   all_goals first
    | exact a_
    | (refine ⟨(i + 1, τ ++ [.cells [I v.kind, I v.n, .str v.s]]), ?_, ?_, by first | rfl | (simp [go_sem]; done), cZ, ?_⟩
       ·dsimp only;omega
       ·dsimp only;omega
       ·dsimp only;rw[hS'];exact at_)
 ·obtain rfl:i=l.length:=by omega
  repeat' first|refine au ?_|refine aq ?_ ?_<;>intro hw<;>try omega|fail
  exact aU rfl rfl
def r8(k:Int)(l:List aL)(hl:l.length<=2 ^ 40)(j:Nat)(hj:j<l.length)(hb:A6 k (l.getD j default)=false): cQ aH 153 [I k,aW l] (.panic (qP 14)):=by
 refine cQ.of_nil (IY.go ?_) (by simp) rfl;unfold dO;intro Q aB aC aD;simp only[aW];repeat' first|refine au ?_|refine aq ?_ ?_<;>intro hw<;>try omega|fail
 with_reducible refine bE [4,6,9,10,11,12,13,14,15,16,17,18,19,20,21] (fun q:Nat × List bj × Bool=>[(9,I q.1),(4,.bool q.2.2)]) (fun q=>q.2.1) (fun q=>q.1<=j) (fun q=>l.length-q.1) (0,[],false) ?_ ?_ ?_ ?_
 ·simp
 ·rfl
 ·exact at_
 rintro⟨i,τ,n⟩ r h1;dsimp only at h1;have hi:i<l.length:=by omega
 have hij:i=j->A6 k (l.getD i default)=false:=fun e=>by rw[e];exact hb
 obtain⟨v,hv⟩:∃ v,l.getD i default=v:=⟨_,rfl⟩;rw[hv]at hij;unfold A6 at hij;simp only[gQ,decide_eq_false_iff_not]at hij;by_cases h2:v.kind=k
 ·have hne:i≠j:=fun e=>(hij e).1 h2;repeat' first|simp (disch:=omega) only[go_sem,aB,aC,aD,hv]|refine au ?_|refine A4 (oR 14 (by decide)) ?_|refine aq ?_ ?_<;>intro hw<;>try omega|fail
  all_goals first
   |(simp only[go_sem,aD];done)
   | exact a_
   | (refine ⟨(i + 1, τ ++ [.cells [I v.kind, I v.n, .str v.s]], n), ?_, ?_, by first | rfl | (simp [go_sem]; done), cZ, at_⟩
      ·dsimp only;omega
      ·dsimp only;omega)
 by_cases h3:v.kind=0
 ·have hne:i≠j:=fun e=>(hij e).2 h3;repeat' first|simp (disch:=omega) only[go_sem,aB,aC,aD,hv]|refine au ?_|refine A4 (oR 14 (by decide)) ?_|refine aq ?_ ?_<;>intro hw<;>try omega|fail
  all_goals first
   |(simp only[go_sem,aD];done)
   | exact a_
   | (refine ⟨(i + 1, τ ++ [.cells [I v.kind, I v.n, .str v.s]], true), ?_, ?_, by first | rfl | (simp [go_sem]; done), cZ, at_⟩
      ·dsimp only;omega
      ·dsimp only;omega)
 ·repeat' first|simp (disch:=omega) only[go_sem,aB,aC,aD,hv]|refine au ?_|refine A4 (oR 14 (by decide)) ?_|refine aq ?_ ?_<;>intro hw<;>try omega|fail
  all_goals first
   |(simp only[go_sem,aD];done)
   | exact a_
def KO(a:Int): aM aH 189 [I a] (.bool false):=by
 refine aR FT ?_;intro Q aB aC aD;repeat' first|refine au ?_|refine aq ?_ ?_<;>intro hw<;>try omega|fail
 all_goals first|exact aU (by simp) rfl|exact a_
def cmp_isNaN_int(a:Int): aM aH 167 [I a] (.bool false):=by
 refine aR Hj ?_;intro Q aB aC aD;repeat' first|refine au ?_|refine aq ?_ ?_<;>intro hw<;>try omega|fail
 all_goals first|exact aU (by simp) rfl|exact a_
def Tv{a b:Int}(h:a<b): jJ a b = -1:=if_pos h
def Tw{a b:Int}(h:b<a): jJ a b=1:=by unfold jJ;rw[if_neg (by omega),if_pos h]
def Tx{a b:Int}(h:¬ a<b)(h':¬ b<a): jJ a b=0:=by unfold jJ;rw[if_neg h,if_neg h']
def HD(a b:Int): aM aH 162 [I a,I b] (I (jJ a b)):=by
 refine aR C4 ?_;intro Q aB aC aD;repeat' first|refine au ?_|refine eZ (KO _) ?_|refine aq ?_ ?_<;>intro hw<;>try omega|fail
 all_goals refine aU ?_ rfl
 all_goals first|rw[Tv (by omega)]|rw[Tw (by omega)]|rw[Tx (by omega) (by omega)]
def cmp_Compare_int(a b:Int): aM aH 121 [I a,I b] (I (jJ a b)):=by
 refine aR DL ?_;intro Q aB aC aD;repeat' first|refine au ?_|refine eZ (cmp_isNaN_int _) ?_|refine aq ?_ ?_<;>intro hw<;>try omega|fail
 all_goals refine aU ?_ rfl
 all_goals first|rw[Tv (by omega)]|rw[Tw (by omega)]|rw[Tx (by omega) (by omega)]
def Ty(l:List Int): Int:=(l.find? fun x=>x != 0).getD 0
def VK(l:List Int)(hl:l.length<=2 ^ 60): aM aH 161 [.aN false E1 (l.map eI)] (I (Ty l)):=by
 refine aR Nz ?_ (by simp[AV.dz,AV.cg,AL]);intro Q aB aC aD;repeat' first|refine au ?_|refine aq ?_ ?_<;>intro hw<;>try omega|fail
 with_reducible refine bE [2,5,8,9,10,11,12,13,14,15,16] (fun i:Nat=>[(8,I i)]) (fun _=>[]) (fun i=>i<=l.length/\ ∀ k,k<i->(l.getD k default != 0)=false) (fun i=>l.length-i) (0) ?_ ?_ ?_ ?_
 ·simp
 ·rfl
 ·exact at_
 rintro i r ⟨h1,h2⟩;by_cases hi:i<l.length
 ·repeat' first|refine au ?_|refine aq ?_ ?_<;>intro hw<;>try omega|fail
  ·refine aU ?_ rfl;unfold Ty;rw[xH (p:=fun x=>x != 0) hi h2 (by simpa using hw)];rfl
  ·refine⟨i+1,?_,?_,by first|rfl|(simp[go_sem];done),cZ,at_⟩<;>(try dsimp only)
   ·exact⟨by omega,bQ h2 (by simpa using hw)⟩
   ·omega
 ·repeat' first|refine au ?_|refine aq ?_ ?_<;>intro hw<;>try omega|fail
  refine aU ?_ rfl;unfold Ty;rw[vp (p:=fun x=>x != 0) (fun k hk=>h2 k (by omega))];rfl
def strings_Compare(a b:aO): aM aH 163 [.str a,.str b] (I (Lib.compareBytes a b)):=by
 refine ou ⟨_,Tryz.func163,by kernel_rfl,by kernel_rfl⟩ fun g w σ vs hR hl hv=>?_;have h3:=hv 0 (by simp);have h4:=hv 1 (by simp);rw[PK hl];generalize vs.getD 0 Go.undef=v at h3;generalize vs.getD 1 Go.undef=u at h4;simp only[bD,fZ]at h3 h4;cases h3;cases h4;refine⟨.int .i64 (Lib.compareBytes a b),fun g' w'=> .int _ _,(Tryz.strings_Compare ⟨a.toArray⟩ ⟨b.toArray⟩ w).mono ?_⟩;rintro e w' ⟨rfl,rfl⟩;exact⟨rfl,rfl,rfl,rfl,Nat.le_refl _,fun _ _=>rfl⟩
def aiM(a b:aL): Ty [jJ a.kind b.kind,jJ a.n b.n,Lib.compareBytes a.s b.s]=iM a b:=by
 unfold Ty iM;by_cases h1:jJ a.kind b.kind=0
 ·rw[if_neg (by simpa using h1),List.find?_cons_of_neg (by simpa using h1)];by_cases h2:jJ a.n b.n=0
  ·rw[if_neg (by simpa using h2),List.find?_cons_of_neg (by simpa using h2)];by_cases h3:Lib.compareBytes a.s b.s=0
   ·rw[List.find?_cons_of_neg (by simpa using h3),h3];rfl
   ·rw[List.find?_cons_of_pos (by simpa using h3)];rfl
  ·rw[if_pos h2,List.find?_cons_of_pos (by simpa using h2)];rfl
 ·rw[if_pos h1,List.find?_cons_of_pos (by simpa using h1)];rfl
def nq(a b:aL): aM aH 118 [bX a,bX b] (I (iM a b)):=by
 rw[<-aiM];have c:=VK [jJ a.kind b.kind,jJ a.n b.n,Lib.compareBytes a.s b.s] (by simp);generalize Ty _=o at *;simp only[bf,cJ,eI]at c;simp only[bX];refine aR Hi ?_;intro Q aB aC aD;repeat' first|refine au ?_|refine eZ (HD _ _) ?_|refine eZ (cmp_Compare_int _ _) ?_|refine eZ (strings_Compare _ _) ?_|refine zd c ?_|refine aq ?_ ?_<;>intro hw<;>try omega|fail
 all_goals exact aU rfl rfl
def afn{k:Int}(hk:k≠0)(a b:aL): qj k [a,b] 2=(dB a || dB b):=by
 have h:∀ v:aL,(decide (v.kind≠k) && dB v)=dB v:=fun v=>by
  unfold dB;rw[cG];simp only[aj,decide_eq_true_eq];exact⟨fun h=>h.2,fun h=>⟨fun e=>hk (by omega),h⟩⟩
 unfold qj;simp only[List.take_succ_cons,jf,List.any_cons,List.any_nil,Bool.or_false,h]
def afo{k:Int}(hk:k≠0)(a:aL): qj k [a] 1=dB a:=by
 unfold qj dB;simp only[List.take_succ_cons,jf,List.any_cons,List.any_nil,Bool.or_false];rw[cG];simp only[aj,decide_eq_true_eq];exact⟨fun h=>h.2,fun h=>⟨fun e=>hk (by omega),h⟩⟩
def Qh{k:Int}(hk:k≠0)(a b:aL)(ha:bT a.kind k=true)(hb:bT b.kind k=true): aM aH 153 [I k,.aN false EV [bX a,bX b]] (.bool (dB a || dB b)):=by
 have:=Ce k [a,b] (by simp) (fun i hi=>by
  rcases i with _|_|i
  ·exact(vx a hk).trans ha
  ·exact(vx b hk).trans hb
  ·simp at hi;omega)
 rw[show ([a,b]:List aL).length=2 from rfl,afn hk]at this;exact this
def KP{k:Int}(hk:k≠0)(a b:aL)(h:bT a.kind k=false\/bT b.kind k=false): cQ aH 153 [I k,.aN false EV [bX a,bX b]] (.panic (qP 14)):=by
 rcases h with h|h
 ·exact r8 k [a,b] (by simp) 0 (by simp) ((vx a hk).trans h)
 ·exact r8 k [a,b] (by simp) 1 (by simp) ((vx b hk).trans h)
def Yo{k:Int}(hk:k≠0)(a:aL)(ha:bT a.kind k=true): aM aH 153 [I k,.aN false EV [bX a]] (.bool (dB a)):=by
 have:=Ce k [a] (by simp) (fun i hi=>by
  rcases i with _|i
  ·exact(vx a hk).trans ha
  ·simp at hi)
 rw[show ([a]:List aL).length=1 from rfl,afo hk]at this;exact this
def Tz{k:Int}(hk:k≠0)(a:aL)(h:bT a.kind k=false): cQ aH 153 [I k,.aN false EV [bX a]] (.panic (qP 14)) :=
 r8 k [a] (by simp) 0 (by simp) ((vx a hk).trans h)
def Qi{op:Int}{a b:aL}: jZ op a b=true↔op=4/\(a.kind=2\/b.kind=2):=by simp[jZ]
def aa1{op:Int}{a b:aL}: jZ op a b=false↔¬ (op=4/\(a.kind=2\/b.kind=2)):=by rw[<-Qi,Bool.not_eq_true]
def Yp(op:Int)(a b:aL)(ha:tC a)(hb:tC b): cQ aH 157 [I op,bX a,bX b] (rK (vM op a b)):=by
 have hS:vM op a b=if !(bT a.kind (if jZ op a b then 2 else 1)) || !(bT b.kind (if jZ op a b then 2 else 1))then .err 14
  else if dB a || dB b then .ok v0
  else if jZ op a b then(if 40<a.s.length+b.s.length then .err 5 else .ok ⟨2,0,a.s++b.s⟩)
  else pA op a.n b.n:=rfl
 have hj:=Yn a.s b.s (by have:=ha.2;omega) (by have:=hb.2;omega);have hr:=R7 op a.n b.n ha.1 hb.1;rw[hS];clear hS;cases ht:jZ op a b with
 | true =>
   have hT:=Qi.1 ht;simp only[if_true];by_cases hf:bT a.kind 2=true/\bT b.kind 2=true
   ·have c:=Qh (k:=2) (by decide) a b hf.1 hf.2;rw[if_neg (by simp[hf.1,hf.2])];generalize (dB a || dB b)=n at *;generalize (if 40<a.s.length+b.s.length then iW.err 5 else iW.ok ⟨2,0,a.s++b.s⟩)=J at *;simp only[bX]at c ⊢;refine cQ.gC (tV.go ?_) rfl ep;unfold dO;intro Q aB aC aD;cases n
    all_goals
     repeat' first|refine au ?_|refine zd c ?_|refine A3 hj (fun v_ pD=>?_) (fun e_ oD=>?_)|refine aq ?_ ?_<;>intro hw<;>try omega|fail
    all_goals first
     | exact a_
     | exact jy rfl rfl
     | exact jy pD rfl
     | exact gE oD
   ·have c:=KP (k:=2) (by decide) a b (by revert hf;cases bT a.kind 2<;>cases bT b.kind 2<;>simp);rw[if_pos (by revert hf;cases bT a.kind 2<;>cases bT b.kind 2<;>simp)];simp only[bX]at c ⊢;refine cQ.gC (tV.go ?_) rfl ep;unfold dO;intro Q aB aC aD;repeat' first|refine au ?_|refine Qe c ?_|refine aq ?_ ?_<;>intro hw<;>try omega|fail
    all_goals first
     | exact a_
     | exact gE rfl
 | false =>
   have hT:=aa1.1 ht;simp only[aG,if_false];by_cases hf:bT a.kind 1=true/\bT b.kind 1=true
   ·have c:=Qh (k:=1) (by decide) a b hf.1 hf.2;rw[if_neg (by simp[hf.1,hf.2])];generalize (dB a || dB b)=n at *;generalize pA op a.n b.n=J at *;simp only[bX]at c ⊢;refine cQ.gC (tV.go ?_) rfl ep;unfold dO;intro Q aB aC aD;cases n
    all_goals
     repeat' first|refine au ?_|refine zd c ?_|refine A3 hr (fun v_ pD=>?_) (fun e_ oD=>?_)|refine aq ?_ ?_<;>intro hw<;>try omega|fail
    all_goals first
     | exact a_
     | exact jy rfl rfl
     | exact jy pD rfl
     | exact gE oD
   ·have c:=KP (k:=1) (by decide) a b (by revert hf;cases bT a.kind 1<;>cases bT b.kind 1<;>simp);rw[if_pos (by revert hf;cases bT a.kind 1<;>cases bT b.kind 1<;>simp)];simp only[bX]at c ⊢;refine cQ.gC (tV.go ?_) rfl ep;unfold dO;intro Q aB aC aD;repeat' first|refine au ?_|refine Qe c ?_|refine aq ?_ ?_<;>intro hw<;>try omega|fail
    all_goals first
     | exact a_
     | exact gE rfl
