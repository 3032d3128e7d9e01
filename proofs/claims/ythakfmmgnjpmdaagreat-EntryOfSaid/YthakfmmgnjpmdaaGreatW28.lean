/- Part. -/
import Derived.Test.YthakfmmgnjpmdaaGreatW27
set_option linter.all false
set_option maxHeartbeats 1000000
namespace Go.Proofs.YthakfmmgnjpmdaaGreat
open Go.AM
set_option maxRecDepth 4000
def qy(e:Int): AV:= .k8 32 (I e)
def ri: g_->Out
 | .ok v=> .ret (bD v)
 | .err e=> .panic (qy e)
def dS{r:g_}: ∀ v,ri r = .panic v->v.flat=true:=by
 intro v h;cases r with
 | ok v=>cases h
 | err e=>cases h;rfl
def abu{n:FuncId}{args:List AV}{σ : ae}{K Kp:AV->ae->Prop}{r:g_}(h:cK aD n args (ri r))(k1:∀ v,r = .ok v->jX (bD v) (.mk:Tg fun r=>K r σ))(k2:∀ e,r = .err e->Kp (qy e) σ): pP Tryz.prog n args σ (.mk:Tg (K,Kp)):=by
 cases r with
 | ok v=>exact uw h (k1 v rfl)
 | err e=>exact KB h (k2 e rfl)
def abv{n:FuncId}{args:List AV}{σ : ae}{K Kp:AV->ae->Prop}{r:g_}(h:cK aD n args (ri r))(k1:∀ v,r = .ok v->jX (bD v) (.mk:Tg fun r=>K r σ))(k2:∀ e,r = .err e-> ∀ s,Kp (qy e) s): Om Tryz.prog n args σ (.mk:Tg (K,Kp)):=by
 cases r with
 | ok v=>exact S7 h (k1 v rfl)
 | err e=>exact KC h (k2 e rfl)
def Ay {n : FuncId} {args : List AV} {r : g_} {K1 : aH -> Prop} {K2 : Int -> Prop} {G : Prop} (h : cK aD n args (ri r)) (k1 : ∀ v, r = .ok v -> K1 v) (k2 : ∀ e, r = .err e -> K2 e)
    (hg : cK aD n args (ri r) -> (∀ v, r = .ok v -> K1 v) -> (∀ e, r = .err e -> K2 e) -> G := by
      intro h k1 k2;with_reducible first|exact abu h k1 k2|exact abv h k1 k2):G:=hg h k1 k2
def Az {n : FuncId} {args : List AV} {v : AV} {K G : Prop} (h : cK aD n args (.panic v)) (k : K) (hg : cK aD n args (.panic v) -> K -> G := by
    intro h k;with_reducible first|exact KB h k|exact KC h k):G:=hg h k
def Qc {n : FuncId} {args' : List AV} {v : AV} {K G : Prop} (h : cK aD n args' (.panic v)) (k : K) (hg : cK aD n args' (.panic v) -> K -> G := by
    intro h k;with_reducible first|refine KB (h.weak ?_) k|refine KC (h.weak ?_) k
    exact xC):G:=hg h k
def jt{σ : ae}{v:AV}{r:g_}{u:aH}(h:r = .ok u)(hv:v=bD u): YX σ (.ret (oneOf [v])) (ri r):=by
 subst h;subst hv;exact View.refl _ (xD u)
def fU{σ : ae}{r:g_}{e:Int}(h:r = .err e): YX σ (.panic (qy e)) (ri r):=by subst h;exact rfl
def oK(e:Int)(h:e≠0): cK aD 220 [I e] (.panic (qy e)):=by
 refine cK.of_nil (Cw.go ?_) rfl rfl;unfold cj;intro Q aq au aA;repeat' first|refine ak ?_|refine aj ?_ ?_<;>intro hw<;>try omega|fail
 all_goals first|(simp only[go_sem,aA];done)|exact aP|rfl
def Se: aF aD 220 [I 0] (.bJ []):=by
 refine aK Cw ?_;intro Q aq au aA;repeat' first|refine ak ?_|refine aj ?_ ?_<;>intro hw<;>try omega|fail
 all_goals first|exact aP|exact⟨_,rfl,.refl _ rfl⟩
def Ou(n e:Int): g_:=if e=0 then .ok ⟨1,n,[]⟩else .err e
def rN(n e:Int): cK aD 172 [I n,I e] (ri (Ou n e)):=by
 unfold Ou;by_cases h:e=0
 ·subst h;rw[if_pos rfl];refine aK Aa ?_;intro Q aq au aA;repeat' first|refine ak ?_|refine cW Se ?_|refine aj ?_ ?_<;>intro hw<;>try omega|fail
  exact aN rfl rfl
 ·rw[if_neg h];refine cK.of_nil (Aa.go ?_) rfl rfl;unfold cj;intro Q aq au aA;repeat' first|refine ak ?_|refine Az (oK e h) ?_|refine aj ?_ ?_<;>intro hw<;>try omega|fail
  all_goals first|(simp only[go_sem,aA];done)|exact aP|rfl
def numOf: g_->Int
 | .ok v=>v.n
 | .err _=>0
def fH: g_->Int
 | .ok _=>0
 | .err e=>e
def isNum: g_->Prop
 | .ok v=>v=⟨1,v.n,[]⟩
 | .err e=>e≠0
def Tv{r:g_}(h:isNum r): Ou (numOf r) (fH r)=r:=by
 unfold Ou;cases r with
 | ok v =>
   simp only[fH,numOf,if_true];exact congrArg g_.ok h.symm
 | err e =>
   have h:e≠0:=h;exact if_neg h
def Em(n:Int): isNum (ew n):=by unfold ew;split<;>simp[isNum]
def Xp(a b:Int): isNum (pK a b):=by
 unfold pK;split
 ·simp[isNum]
 ·exact Em _
def Gi(op a b:Int): isNum (mb op a b):=by
 unfold mb;repeat' split
 all_goals first|exact Em _|exact Xp _ _
def lN{n:Int}(h : -9223372036854775808<=n/\n<=9223372036854775807): ew n = .ok ⟨1,n,[]⟩:=if_pos h
def lU{n:Int}(h:¬ (-9223372036854775808<=n/\n<=9223372036854775807)): ew n = .err 15:=if_neg h
def dJ(n:Int): Prop:= -9223372036854775808<=n/\n<=9223372036854775807
def MA{n:Int}(h:9223372036854775807<n)(h':n<=18446744073709551615): de .i64 n=n-18446744073709551616:=by
 show IntKind.wrap .i64 n=_;simp only[IntKind.wrap,IntKind.bits,IntKind.signed];simp;omega
def JH{n:Int}(h:n < -9223372036854775808)(h' : -18446744073709551616<=n): de .i64 n=n+18446744073709551616:=by
 show IntKind.wrap .i64 n=_;simp only[IntKind.wrap,IntKind.bits,IntKind.signed];simp;omega
def Qd(a b:Int)(ha:dJ a)(hb:dJ b): aF aD 228 [I a,I b] (.bJ [I (numOf (ew (a+b))),I (fH (ew (a+b)))]):=by
 unfold dJ at ha hb;by_cases h : -9223372036854775808<=a+b/\a+b<=9223372036854775807
 ·rw[lN h];refine aK ze ?_;intro Q aq au aA;repeat' first|refine ak ?_|refine aj ?_ ?_<;>intro hw<;>try omega|fail
  all_goals first|exact bt rfl rfl|exact aP
 ·rw[lU h];by_cases h1:9223372036854775807<a+b
  ·have ug:=MA h1 (by omega);refine aK ze ?_;intro Q aq au aA;repeat' first|simp (disch:=omega) only[go_sem,aq,au,aA,ug]|refine ak ?_|refine aj ?_ ?_<;>intro hw<;>try omega|fail
   all_goals first|exact bt rfl rfl|exact aP
  ·have ug:=JH (n:=a+b) (by omega) (by omega);refine aK ze ?_;intro Q aq au aA;repeat' first|simp (disch:=omega) only[go_sem,aq,au,aA,ug]|refine ak ?_|refine aj ?_ ?_<;>intro hw<;>try omega|fail
   all_goals first|exact bt rfl rfl|exact aP
def Qe(a b:Int)(ha:dJ a)(hb:dJ b): aF aD 173 [I a,I b] (.bJ [I (numOf (ew (a-b))),I (fH (ew (a-b)))]):=by
 unfold dJ at ha hb;by_cases h : -9223372036854775808<=a-b/\a-b<=9223372036854775807
 ·rw[lN h];refine aK zb ?_;intro Q aq au aA;repeat' first|refine ak ?_|refine aj ?_ ?_<;>intro hw<;>try omega|fail
  all_goals first|exact bt rfl rfl|exact aP
 ·rw[lU h];by_cases h1:9223372036854775807<a-b
  ·have ug:=MA h1 (by omega);refine aK zb ?_;intro Q aq au aA;repeat' first|simp (disch:=omega) only[go_sem,aq,au,aA,ug]|refine ak ?_|refine aj ?_ ?_<;>intro hw<;>try omega|fail
   all_goals first|exact bt rfl rfl|exact aP
  ·have ug:=JH (n:=a-b) (by omega) (by omega);refine aK zb ?_;intro Q aq au aA;repeat' first|simp (disch:=omega) only[go_sem,aq,au,aA,ug]|refine ak ?_|refine aj ?_ ?_<;>intro hw<;>try omega|fail
   all_goals first|exact bt rfl rfl|exact aP
def Qf{a b:Int}(ha:dJ a)(hb:b≠0)(h:¬ (a = -9223372036854775808/\b = -1)): dJ (a.tdiv b):=by
 unfold dJ at *;by_cases h1:b = -1
 ·subst h1;rw[Int.tdiv_neg,Int.tdiv_one];omega
 ·by_cases h2:b=1
  ·subst h2;rw[Int.tdiv_one];exact ha
  ·have:=Int.natAbs_tdiv_le_natAbs a b
   have h3:(a.tdiv b).natAbs<=a.natAbs / 2:=by
    rw[Int.natAbs_tdiv];exact Nat.div_le_div_left (by omega) (by omega)
   omega
def Zx(a b:Int)(ha:dJ a)(hb:dJ b): aF aD 265 [I a,I b] (.bJ [I (numOf (pK a b)),I (fH (pK a b))]):=by
 by_cases h0:b=0
 ·subst h0;have e:pK a 0 = .err 16:=rfl;rw[e];refine aK zf ?_;intro Q aq au aA;repeat' first|refine ak ?_|refine aj ?_ ?_<;>intro hw<;>try omega|fail
  all_goals first|exact bt rfl rfl|exact aP
 have e:pK a b=ew (a.tdiv b):=if_neg h0;rw[e];by_cases h:a = -9223372036854775808/\b = -1
 ·obtain⟨rfl,rfl⟩:=h;rw[lU (by decide)];refine aK zf ?_;intro Q aq au aA;repeat' first|refine ak ?_|refine aj ?_ ?_<;>intro hw<;>try omega|fail
  all_goals first|exact bt rfl rfl|exact aP
 ·have hr:=Qf ha h0 h;have ug:de .i64 (a.tdiv b)=a.tdiv b:=sK hr.1 hr.2;rw[lN hr];unfold dJ at ha hb;refine aK zf ?_;intro Q aq au aA;repeat' first|simp (disch:=omega) only[go_sem,aq,au,aA,ug]|refine ak ?_|refine aj ?_ ?_<;>intro hw<;>try omega|fail
  all_goals first|exact bt rfl rfl|exact bt (congrArg (fun z=>[AV.int .i64 z,AV.int .i64 0]) ug) rfl|skip
def adh(a:Int)(h:0<=a)(h':a<=9223372036854775808): de .u64 a=a:=by
 show IntKind.wrap .u64 a=_;simp only[IntKind.wrap,IntKind.bits,IntKind.signed];simp;omega
def abw(a:Int)(h:a<0)(h' : -9223372036854775808<=a): de .u64 a=a+18446744073709551616:=by
 show IntKind.wrap .u64 a=_;simp only[IntKind.wrap,IntKind.bits,IntKind.signed];simp;omega
def MB(a:Int)(ha:dJ a): aF aD 281 [I a] (.int .u64 (a.natAbs:Int)):=by
 unfold dJ at ha;by_cases h:a<0
 ·have e1:=abw a h ha.1
  have e2:de .u64 (0-(a+18446744073709551616)) = -a:=by
   show IntKind.wrap .u64 _=_;simp only[IntKind.wrap,IntKind.bits,IntKind.signed];simp;omega
  have e3:(a.natAbs:Int) = -a:=by omega
  rw[e3];refine aK DR ?_;intro Q aq au aA;repeat' first|simp (disch:=omega) only[go_sem,aq,au,aA,e1,e2]|refine ak ?_|refine aj ?_ ?_<;>intro hw<;>try omega|fail
  all_goals first|exact aN rfl rfl|(rw[e1,e2];exact aN rfl rfl)|skip
 ·have e1:=adh a (by omega) (by omega);have e3:(a.natAbs:Int)=a:=by omega
  rw[e3];refine aK DR ?_;intro Q aq au aA;repeat' first|simp (disch:=omega) only[go_sem,aq,au,aA,e1]|refine ak ?_|refine aj ?_ ?_<;>intro hw<;>try omega|fail
  all_goals first|exact aN rfl rfl|(rw[e1];exact aN rfl rfl)|skip
def bits_Mul(x y:Nat)(hx:x<18446744073709551616)(hy:y<18446744073709551616): aF aD 280 [.int .u64 x,.int .u64 y] (.bJ [.int .u64 ((x*y / 18446744073709551616:Nat):Int),.int .u64 ((x*y % 18446744073709551616:Nat):Int)]):=by
 refine Au ⟨_,Tryz.func280,by kernel_rfl,by kernel_rfl⟩ fun g w σ vs hR hl hv=>?_;have h3:=hv 0 (by simp);have h4:=hv 1 (by simp);rw[Xi hl];generalize vs.getD 0 Go.undef=v at h3;generalize vs.getD 1 Go.undef=u at h4;simp only[dn,jd]at h3 h4;cases h3;cases h4;refine⟨.tuple #[.int .u64 ((x*y / 18446744073709551616:Nat):Int),.int .u64 ((x*y % 18446744073709551616:Nat):Int)],fun g' w'=>?_,(Tryz.bits_Mul x y hx hy w).mono ?_⟩
 ·refine .bJ _ _ rfl fun i hi=>?_;have:i=0\/i=1:=by simp at hi;omega
  rcases this with rfl|rfl
  ·exact .int _ _
  ·exact .int _ _
 rintro e w' ⟨rfl,rfl⟩;exact⟨rfl,rfl,rfl,rfl,Nat.le_refl _,fun _ _=>rfl⟩
def abx(a b:Int): ((a<0↔b<0)->a*b=((a.natAbs*b.natAbs:Nat):Int))/\(¬ (a<0↔b<0)->a*b = -((a.natAbs*b.natAbs:Nat):Int)):=by
 rw[Int.natCast_mul];by_cases h1:a<0<;>by_cases h2:b<0
 ·rw[show (a.natAbs:Int) = -a by omega,show(b.natAbs:Int) = -b by omega,Int.neg_mul_neg];simp[h1,h2]
 ·rw[show (a.natAbs:Int) = -a by omega,show(b.natAbs:Int)=b by omega,Int.neg_mul];simp[h1,h2]
 ·rw[show (a.natAbs:Int)=a by omega,show(b.natAbs:Int) = -b by omega,Int.mul_neg];simp[h1,h2]
 ·rw[show (a.natAbs:Int)=a by omega,show(b.natAbs:Int)=b by omega];simp[h1,h2]
def aby{L:Nat}(h:L<=9223372036854775808): de .i64 (de .u64 (0-(L:Int))) = -(L:Int):=by
 show IntKind.wrap .i64 (IntKind.wrap .u64 _)=_;simp only[IntKind.wrap,IntKind.bits,IntKind.signed];simp;omega
def Zy(a b:Int)(ha:dJ a)(hb:dJ b): aF aD 264 [I a,I b] (.bJ [I (numOf (ew (a*b))),I (fH (ew (a*b)))]):=by
 have c1:=MB a ha;have c2:=MB b hb;have c3:=bits_Mul a.natAbs b.natAbs (by unfold dJ at ha;omega) (by unfold dJ at hb;omega);obtain⟨m1,m2⟩:=abx a b;generalize a.natAbs*b.natAbs=p at *;obtain⟨H,hH⟩:∃ H,p / 18446744073709551616=H:=⟨_,rfl⟩;obtain⟨L,hL⟩:∃ L,p % 18446744073709551616=L:=⟨_,rfl⟩;rw[hH,hL]at c3;have hp:p=H*18446744073709551616+L:=by omega
 have hL2:L<18446744073709551616:=by omega
 clear hH hL;by_cases hs:(a<0↔b<0)
 ·have m:=m1 hs;rw[m];clear m m1 m2;by_cases hr:H=0/\L<=9223372036854775807
  ·obtain⟨rfl,hr⟩:=hr;obtain rfl:p=L:=by omega
   rw[lN (by omega)];refine aK uT ?_;intro Q aq au aA;by_cases hA:a<0
   ·have hB:=hs.1 hA;repeat' first|simp (disch:=omega) only[go_sem,aq,au,aA,decide_eq_true hA,decide_eq_true hB]|refine ak ?_|refine aj ?_ ?_<;>intro hw<;>try omega|fail
    all_goals first|exact bt rfl rfl|(exfalso;omega)|skip
   ·have hB:¬ b<0:=fun h=>hA (hs.2 h);repeat' first|simp (disch:=omega) only[go_sem,aq,au,aA,decide_eq_false hA,decide_eq_false hB]|refine ak ?_|refine aj ?_ ?_<;>intro hw<;>try omega|fail
    all_goals first|exact bt rfl rfl|(exfalso;omega)|skip
  ·rw[lU (by omega)];refine aK uT ?_;intro Q aq au aA;by_cases hA:a<0
   ·have hB:=hs.1 hA;repeat' first|simp (disch:=omega) only[go_sem,aq,au,aA,decide_eq_true hA,decide_eq_true hB]|refine ak ?_|refine aj ?_ ?_<;>intro hw<;>try omega|fail
    all_goals first|exact bt rfl rfl|(exfalso;omega)|skip
   ·have hB:¬ b<0:=fun h=>hA (hs.2 h);repeat' first|simp (disch:=omega) only[go_sem,aq,au,aA,decide_eq_false hA,decide_eq_false hB]|refine ak ?_|refine aj ?_ ?_<;>intro hw<;>try omega|fail
    all_goals first|exact bt rfl rfl|(exfalso;omega)|skip
 ·have m:=m2 hs;rw[m];clear m m1 m2;by_cases hr:H=0/\L<=9223372036854775808
  ·obtain⟨rfl,hr⟩:=hr;obtain rfl:p=L:=by omega
   have ug:=aby hr;rw[lN (by omega)];refine aK uT ?_;intro Q aq au aA;by_cases hA:a<0
   ·have hB:¬ b<0:=fun h=>hs ⟨fun _=>h,fun _=>hA⟩;repeat' first|simp (disch:=omega) only[go_sem,aq,au,aA,decide_eq_true hA,decide_eq_false hB,ug]|refine ak ?_|refine aj ?_ ?_<;>intro hw<;>try omega|fail
    all_goals first|exact bt rfl rfl|exact bt (congrArg (fun z=>[AV.int .i64 z,AV.int .i64 0]) ug) rfl|(exfalso;omega)|skip
   ·have hB:b<0:=Classical.not_not.1 fun h=>hs ⟨fun h'=>absurd h' hA,fun h'=>absurd h' h⟩;repeat' first|simp (disch:=omega) only[go_sem,aq,au,aA,decide_eq_false hA,decide_eq_true hB,ug]|refine ak ?_|refine aj ?_ ?_<;>intro hw<;>try omega|fail
    all_goals first|exact bt rfl rfl|exact bt (congrArg (fun z=>[AV.int .i64 z,AV.int .i64 0]) ug) rfl|(exfalso;omega)|skip
  ·rw[lU (by omega)];refine aK uT ?_;intro Q aq au aA;by_cases hA:a<0
   ·have hB:¬ b<0:=fun h=>hs ⟨fun _=>h,fun _=>hA⟩;repeat' first|simp (disch:=omega) only[go_sem,aq,au,aA,decide_eq_true hA,decide_eq_false hB]|refine ak ?_|refine aj ?_ ?_<;>intro hw<;>try omega|fail
    all_goals first|exact bt rfl rfl|(exfalso;omega)|skip
   ·have hB:b<0:=Classical.not_not.1 fun h=>hs ⟨fun h'=>absurd h' hA,fun h'=>absurd h' h⟩;repeat' first|simp (disch:=omega) only[go_sem,aq,au,aA,decide_eq_false hA,decide_eq_true hB]|refine ak ?_|refine aj ?_ ?_<;>intro hw<;>try omega|fail
    all_goals first|exact bt rfl rfl|(exfalso;omega)|skip
def tN(b:Bool): aF aD 174 [.bool b] (bD (dL b)):=by
 cases b
 all_goals
  refine aK NJ ?_;intro Q aq au aA;repeat' first|refine ak ?_|refine aj ?_ ?_<;>intro hw<;>try omega|fail
  exact aN rfl rfl
def Sf(op a b:Int)(ha:dJ a)(hb:dJ b): cK aD 222 [I op,I a,I b] (ri (mb op a b)):=by
 have hn:=Tv (Gi op a b);have cA:=Qd a b ha hb;have cS:=Qe a b ha hb;have cM:=Zy a b ha hb;have cD:=Zx a b ha hb;have hu:mb op a b=if op=4 then ew (a+b)else if op=5 then ew (a-b)else if op=6 then ew (a*b)else pK a b:=rfl
 by_cases h4:op=4
 ·rw[if_pos h4]at hu;rw[hu]at hn ⊢;subst h4;generalize ew (a+b)=r at *;generalize numOf r=x at *;generalize fH r=y at *;refine cK.fS (qM.go ?_) rfl dS;unfold cj;intro Q aq au aA;repeat' first|refine ak ?_|refine Ay (rN x y) (fun v_ oY=>?_) (fun e_ om=>?_)|refine aj ?_ ?_<;>intro hw<;>try omega|fail
  all_goals first
   | exact jt (hn.symm.trans oY) rfl
   | exact fU (hn.symm.trans om)
   |(exfalso;omega)
   | skip
 rw[if_neg h4]at hu;by_cases h5:op=5
 ·rw[if_pos h5]at hu;rw[hu]at hn ⊢;subst h5;generalize ew (a-b)=r at *;generalize numOf r=x at *;generalize fH r=y at *;refine cK.fS (qM.go ?_) rfl dS;unfold cj;intro Q aq au aA;repeat' first|refine ak ?_|refine Ay (rN x y) (fun v_ oY=>?_) (fun e_ om=>?_)|refine aj ?_ ?_<;>intro hw<;>try omega|fail
  all_goals first
   | exact jt (hn.symm.trans oY) rfl
   | exact fU (hn.symm.trans om)
   |(exfalso;omega)
   | skip
 rw[if_neg h5]at hu;by_cases h6:op=6
 ·rw[if_pos h6]at hu;rw[hu]at hn ⊢;subst h6;generalize ew (a*b)=r at *;generalize numOf r=x at *;generalize fH r=y at *;refine cK.fS (qM.go ?_) rfl dS;unfold cj;intro Q aq au aA;repeat' first|refine ak ?_|refine Ay (rN x y) (fun v_ oY=>?_) (fun e_ om=>?_)|refine aj ?_ ?_<;>intro hw<;>try omega|fail
  all_goals first
   | exact jt (hn.symm.trans oY) rfl
   | exact fU (hn.symm.trans om)
   |(exfalso;omega)
   | skip
 rw[if_neg h6]at hu;rw[hu]at hn ⊢;generalize pK a b=r at *;generalize numOf r=x at *;generalize fH r=y at *;refine cK.fS (qM.go ?_) rfl dS;unfold cj;intro Q aq au aA;repeat' first|refine ak ?_|refine Ay (rN x y) (fun v_ oY=>?_) (fun e_ om=>?_)|refine aj ?_ ?_<;>intro hw<;>try omega|fail
 all_goals first
  | exact jt (hn.symm.trans oY) rfl
  | exact fU (hn.symm.trans om)
  | (exfalso; omega)
    | skip
def Xq(a b:aS)(ha:a.length<=2 ^ 40)(hb:b.length<=2 ^ 40): cK aD 221 [.str a,.str b] (ri (if 40<a.length+b.length then .err 5 else .ok ⟨2,0,a++b⟩)):=by
 by_cases h:40<a.length+b.length
 ·rw[if_pos h];refine cK.of_nil (DL.go ?_) rfl rfl;unfold cj;intro Q aq au aA;repeat' first|refine ak ?_|refine Az (oK 5 (by decide)) ?_|refine aj ?_ ?_<;>intro hw<;>try omega|fail
  all_goals first|(simp only[go_sem,aA];done)|exact aP|rfl
 ·rw[if_neg h];refine aK DL ?_;intro Q aq au aA;repeat' first|refine ak ?_|refine aj ?_ ?_<;>intro hw<;>try omega|fail
  all_goals first|exact aP|exact aN rfl rfl
def AA(k:Int)(v:aH): Bool:=decide (v.kind=k) || decide (v.kind=0)
def uL{k:Int}(v:aH)(h:k≠0): AA k v=bI v.kind k:=by
 unfold AA bI;rw[decide_eq_false h,Bool.or_false]
def pX(k:Int)(l:List aH)(n:Nat): Bool:=(l.take n).any fun v=>decide (v.kind≠k) && bU v
def Ve{k:Int}{l:List aH}{i:Nat}(h:i<l.length): pX k l (i+1)=(pX k l i ||(decide ((l.getD i default).kind≠k) && bU (l.getD i default))):=by
 unfold pX;rw[iO,List.any_append,aB,aE h];simp
def BL(k:Int)(l:List aH)(hl:l.length<=2 ^ 40)(h:∀ i,i<l.length->AA k (l.getD i default)=true): aF aD 171 [I k,aL l] (.bool (pX k l l.length)):=by
 refine aK I3 ?_;intro Q aq au aA;simp only[aL];repeat' first|refine ak ?_|refine aj ?_ ?_<;>intro hw<;>try omega|fail
 with_reducible refine aX [4,6,9,10,11,12,13,14,15,16,17,18,19,20,21] (fun q:Nat × List bE=>[(9,I q.1),(4,.bool (pX k l q.1))]) (fun q=>q.2) (fun q=>q.1<=l.length) (fun q=>l.length-q.1) (0,[]) ?_ ?_ ?_ ?_
 ·simp
 ·rfl
 ·simp only[pX,fF,List.any_nil];exact at_
 rintro⟨i,τ⟩ r h1;dsimp only at h1;by_cases hi:i<l.length
 ·have hk:=h i hi;have hS:=Ve (k:=k) hi;obtain⟨v,hv⟩:∃ v,l.getD i default=v:=⟨_,rfl⟩;rw[hv]at hk hS;unfold AA at hk;unfold bU at hS;simp only[bO,decide_eq_true_eq]at hk;by_cases h2:v.kind=k
  ·have hS':pX k l (i+1)=pX k l i:=by rw[hS,decide_eq_false (by simpa using h2),dO,Bool.or_false]
   repeat' first|simp (disch:=omega) only[go_sem,aq,au,aA,hv]|refine ak ?_|refine aj ?_ ?_<;>intro hw<;>try omega|fail
   all_goals first
    | exact aP
    | (refine ⟨(i + 1, τ ++ [.cells [I v.kind, I v.n, .str v.s]]), ?_, ?_, by first | rfl | (simp [go_sem]; done), bK, ?_⟩
       ·dsimp only;omega
       ·dsimp only;omega
       ·dsimp only;rw[hS'];exact at_)
  ·have h3:v.kind=0:=by omega
   have hS':pX k l (i+1)=true:=by rw[hS,decide_eq_true h2,decide_eq_true h3];simp
   repeat' first|simp (disch:=omega) only[go_sem,aq,au,aA,hv]|refine ak ?_|refine aj ?_ ?_<;>intro hw<;>try omega|fail
   all_goals first
    | exact aP
    | (refine ⟨(i + 1, τ ++ [.cells [I v.kind, I v.n, .str v.s]]), ?_, ?_, by first | rfl | (simp [go_sem]; done), bK, ?_⟩
       ·dsimp only;omega
       ·dsimp only;omega
       ·dsimp only;rw[hS'];exact at_)
 ·obtain rfl:i=l.length:=by omega
  repeat' first|refine ak ?_|refine aj ?_ ?_<;>intro hw<;>try omega|fail
  exact aN rfl rfl
def rO(k:Int)(l:List aH)(hl:l.length<=2 ^ 40)(j:Nat)(hj:j<l.length)(hb:AA k (l.getD j default)=false): cK aD 171 [I k,aL l] (.panic (qy 14)):=by
 refine cK.of_nil (I3.go ?_) (by simp) rfl;unfold cj;intro Q aq au aA;simp only[aL];repeat' first|refine ak ?_|refine aj ?_ ?_<;>intro hw<;>try omega|fail
 with_reducible refine aX [4,6,9,10,11,12,13,14,15,16,17,18,19,20,21] (fun q:Nat × List bE × Bool=>[(9,I q.1),(4,.bool q.2.2)]) (fun q=>q.2.1) (fun q=>q.1<=j) (fun q=>l.length-q.1) (0,[],false) ?_ ?_ ?_ ?_
 ·simp
 ·rfl
 ·exact at_
 rintro⟨i,τ,n⟩ r h1;dsimp only at h1;have hi:i<l.length:=by omega
 have hij:i=j->AA k (l.getD i default)=false:=fun e=>by rw[e];exact hb
 obtain⟨v,hv⟩:∃ v,l.getD i default=v:=⟨_,rfl⟩;rw[hv]at hij;unfold AA at hij;simp only[Bool.or_eq_false_iff,decide_eq_false_iff_not]at hij;by_cases h2:v.kind=k
 ·have hne:i≠j:=fun e=>(hij e).1 h2;repeat' first|simp (disch:=omega) only[go_sem,aq,au,aA,hv]|refine ak ?_|refine Az (oK 14 (by decide)) ?_|refine aj ?_ ?_<;>intro hw<;>try omega|fail
  all_goals first
   |(simp only[go_sem,aA];done)
   | exact aP
   | (refine ⟨(i + 1, τ ++ [.cells [I v.kind, I v.n, .str v.s]], n), ?_, ?_, by first | rfl | (simp [go_sem]; done), bK, at_⟩
      ·dsimp only;omega
      ·dsimp only;omega)
 by_cases h3:v.kind=0
 ·have hne:i≠j:=fun e=>(hij e).2 h3;repeat' first|simp (disch:=omega) only[go_sem,aq,au,aA,hv]|refine ak ?_|refine Az (oK 14 (by decide)) ?_|refine aj ?_ ?_<;>intro hw<;>try omega|fail
  all_goals first
   |(simp only[go_sem,aA];done)
   | exact aP
   | (refine ⟨(i + 1, τ ++ [.cells [I v.kind, I v.n, .str v.s]], true), ?_, ?_, by first | rfl | (simp [go_sem]; done), bK, at_⟩
      ·dsimp only;omega
      ·dsimp only;omega)
 ·repeat' first|simp (disch:=omega) only[go_sem,aq,au,aA,hv]|refine ak ?_|refine Az (oK 14 (by decide)) ?_|refine aj ?_ ?_<;>intro hw<;>try omega|fail
  all_goals first
   |(simp only[go_sem,aA];done)
   | exact aP
def Ls(a:Int): aF aD 226 [I a] (.bool false):=by
 refine aK FM ?_;intro Q aq au aA;repeat' first|refine ak ?_|refine aj ?_ ?_<;>intro hw<;>try omega|fail
 all_goals first|exact aN (by simp) rfl|exact aP
def cmp_isNaN_int(a:Int): aF aD 185 [I a] (.bool false):=by
 refine aK Ho ?_;intro Q aq au aA;repeat' first|refine ak ?_|refine aj ?_ ?_<;>intro hw<;>try omega|fail
 all_goals first|exact aN (by simp) rfl|exact aP
def Tw{a b:Int}(h:a<b): iW a b = -1:=if_pos h
def Tx{a b:Int}(h:b<a): iW a b=1:=by unfold iW;rw[if_neg (by omega),if_pos h]
def Ty{a b:Int}(h:¬ a<b)(h':¬ b<a): iW a b=0:=by unfold iW;rw[if_neg h,if_neg h']
def HJ(a b:Int): aF aD 180 [I a,I b] (I (iW a b)):=by
 refine aK CX ?_;intro Q aq au aA;repeat' first|refine ak ?_|refine cW (Ls _) ?_|refine aj ?_ ?_<;>intro hw<;>try omega|fail
 all_goals refine aN ?_ rfl
 all_goals first|rw[Tw (by omega)]|rw[Tx (by omega)]|rw[Ty (by omega) (by omega)]
def cmp_Compare_int(a b:Int): aF aD 126 [I a,I b] (I (iW a b)):=by
 refine aK DH ?_;intro Q aq au aA;repeat' first|refine ak ?_|refine cW (cmp_isNaN_int _) ?_|refine aj ?_ ?_<;>intro hw<;>try omega|fail
 all_goals refine aN ?_ rfl
 all_goals first|rw[Tw (by omega)]|rw[Tx (by omega)]|rw[Ty (by omega) (by omega)]
def Tz(l:List Int): Int:=(l.find? fun x=>x != 0).getD 0
def Vf(l:List Int)(hl:l.length<=2 ^ 60): aF aD 179 [.aG false E1 (l.map eI)] (I (Tz l)):=by
 refine aK NL ?_ (by simp[AV.cQ,AV.bG,xP]);intro Q aq au aA;repeat' first|refine ak ?_|refine aj ?_ ?_<;>intro hw<;>try omega|fail
 with_reducible refine aX [2,5,8,9,10,11,12,13,14,15,16] (fun i:Nat=>[(8,I i)]) (fun _=>[]) (fun i=>i<=l.length/\ ∀ k,k<i->(l.getD k default != 0)=false) (fun i=>l.length-i) (0) ?_ ?_ ?_ ?_
 ·simp
 ·rfl
 ·exact at_
 rintro i r ⟨h1,h2⟩;by_cases hi:i<l.length
 ·repeat' first|refine ak ?_|refine aj ?_ ?_<;>intro hw<;>try omega|fail
  ·refine aN ?_ rfl;unfold Tz;rw[sO (p:=fun x=>x != 0) hi h2 (by simpa using hw)];rfl
  ·refine⟨i+1,?_,?_,by first|rfl|(simp[go_sem];done),bK,at_⟩<;>(try dsimp only)
   ·exact⟨by omega,bx h2 (by simpa using hw)⟩
   ·omega
 ·repeat' first|refine ak ?_|refine aj ?_ ?_<;>intro hw<;>try omega|fail
  refine aN ?_ rfl;unfold Tz;rw[qg (p:=fun x=>x != 0) (fun k hk=>h2 k (by omega))];rfl
def strings_Compare(a b:aS): aF aD 181 [.str a,.str b] (I (Lib.compareBytes a b)):=by
 refine Au ⟨_,Tryz.func181,by kernel_rfl,by kernel_rfl⟩ fun g w σ vs hR hl hv=>?_;have h3:=hv 0 (by simp);have h4:=hv 1 (by simp);rw[Xi hl];generalize vs.getD 0 Go.undef=v at h3;generalize vs.getD 1 Go.undef=u at h4;simp only[dn,jd]at h3 h4;cases h3;cases h4;refine⟨.int .i64 (Lib.compareBytes a b),fun g' w'=> .int _ _,(Tryz.strings_Compare ⟨a.toArray⟩ ⟨b.toArray⟩ w).mono ?_⟩;rintro e w' ⟨rfl,rfl⟩;exact⟨rfl,rfl,rfl,rfl,Nat.le_refl _,fun _ _=>rfl⟩
def agl(a b:aH): Tz [iW a.kind b.kind,iW a.n b.n,Lib.compareBytes a.s b.s]=e7 a b:=by
 unfold Tz e7;by_cases h1:iW a.kind b.kind=0
 ·rw[if_neg (by simpa using h1),List.find?_cons_of_neg (by simpa using h1)];by_cases h2:iW a.n b.n=0
  ·rw[if_neg (by simpa using h2),List.find?_cons_of_neg (by simpa using h2)];by_cases h3:Lib.compareBytes a.s b.s=0
   ·rw[List.find?_cons_of_neg (by simpa using h3),h3];rfl
   ·rw[List.find?_cons_of_pos (by simpa using h3)];rfl
  ·rw[if_pos h2,List.find?_cons_of_pos (by simpa using h2)];rfl
 ·rw[if_pos h1,List.find?_cons_of_pos (by simpa using h1)];rfl
def nu(a b:aH): aF aD 123 [bD a,bD b] (I (e7 a b)):=by
 rw[<-agl];have c:=Vf [iW a.kind b.kind,iW a.n b.n,Lib.compareBytes a.s b.s] (by simp);generalize Tz _=o at *;simp only[bf,b_,eI]at c;simp only[bD];refine aK Hj ?_;intro Q aq au aA;repeat' first|refine ak ?_|refine cW (HJ _ _) ?_|refine cW (cmp_Compare_int _ _) ?_|refine cW (strings_Compare _ _) ?_|refine yG c ?_|refine aj ?_ ?_<;>intro hw<;>try omega|fail
 all_goals exact aN rfl rfl
def adi{k:Int}(hk:k≠0)(a b:aH): pX k [a,b] 2=(bU a || bU b):=by
 have h:∀ v:aH,(decide (v.kind≠k) && bU v)=bU v:=fun v=>by
  unfold bU;rw[aW];simp only[aC,decide_eq_true_eq];exact⟨fun h=>h.2,fun h=>⟨fun e=>hk (by omega),h⟩⟩
 unfold pX;simp only[List.take_succ_cons,fF,List.any_cons,List.any_nil,Bool.or_false,h]
def adj{k:Int}(hk:k≠0)(a:aH): pX k [a] 1=bU a:=by
 unfold pX bU;simp only[List.take_succ_cons,fF,List.any_cons,List.any_nil,Bool.or_false];rw[aW];simp only[aC,decide_eq_true_eq];exact⟨fun h=>h.2,fun h=>⟨fun e=>hk (by omega),h⟩⟩
def Qg{k:Int}(hk:k≠0)(a b:aH)(ha:bI a.kind k=true)(hb:bI b.kind k=true): aF aD 171 [I k,.aG false EV [bD a,bD b]] (.bool (bU a || bU b)):=by
 have:=BL k [a,b] (by simp) (fun i hi=>by
  rcases i with _|_|i
  ·exact(uL a hk).trans ha
  ·exact(uL b hk).trans hb
  ·simp at hi;omega)
 rw[show ([a,b]:List aH).length=2 from rfl,adi hk]at this;exact this
def Lt{k:Int}(hk:k≠0)(a b:aH)(h:bI a.kind k=false\/bI b.kind k=false): cK aD 171 [I k,.aG false EV [bD a,bD b]] (.panic (qy 14)):=by
 rcases h with h|h
 ·exact rO k [a,b] (by simp) 0 (by simp) ((uL a hk).trans h)
 ·exact rO k [a,b] (by simp) 1 (by simp) ((uL b hk).trans h)
def Xr{k:Int}(hk:k≠0)(a:aH)(ha:bI a.kind k=true): aF aD 171 [I k,.aG false EV [bD a]] (.bool (bU a)):=by
 have:=BL k [a] (by simp) (fun i hi=>by
  rcases i with _|i
  ·exact(uL a hk).trans ha
  ·simp at hi)
 rw[show ([a]:List aH).length=1 from rfl,adj hk]at this;exact this
def TA{k:Int}(hk:k≠0)(a:aH)(h:bI a.kind k=false): cK aD 171 [I k,.aG false EV [bD a]] (.panic (qy 14)) :=
 rO k [a] (by simp) 0 (by simp) ((uL a hk).trans h)
def Qh{op:Int}{a b:aH}: iL op a b=true↔op=4/\(a.kind=2\/b.kind=2):=by simp[iL]
def Zz{op:Int}{a b:aH}: iL op a b=false↔¬ (op=4/\(a.kind=2\/b.kind=2)):=by rw[<-Qh,Bool.not_eq_true]
def Xs(op:Int)(a b:aH)(ha:og a)(hb:og b): cK aD 175 [I op,bD a,bD b] (ri (mo op a b)):=by
 have hS:mo op a b=if !(bI a.kind (if iL op a b then 2 else 1)) || !(bI b.kind (if iL op a b then 2 else 1))then .err 14
  else if bU a || bU b then .ok v0
  else if iL op a b then(if 40<a.s.length+b.s.length then .err 5 else .ok ⟨2,0,a.s++b.s⟩)
  else mb op a.n b.n:=rfl
 have hj:=Xq a.s b.s (by have:=ha.2;omega) (by have:=hb.2;omega);have hr:=Sf op a.n b.n ha.1 hb.1;rw[hS];clear hS;cases ht:iL op a b with
 | true =>
   have hT:=Qh.1 ht;simp only[if_true];by_cases hf:bI a.kind 2=true/\bI b.kind 2=true
   ·have c:=Qg (k:=2) (by decide) a b hf.1 hf.2;rw[if_neg (by simp[hf.1,hf.2])];generalize (bU a || bU b)=n at *;generalize (if 40<a.s.length+b.s.length then g_.err 5 else g_.ok ⟨2,0,a.s++b.s⟩)=J at *;simp only[bD]at c ⊢;refine cK.fS (tu.go ?_) rfl dS;unfold cj;intro Q aq au aA;cases n
    all_goals
     repeat' first|refine ak ?_|refine yG c ?_|refine Ay hj (fun v_ oY=>?_) (fun e_ om=>?_)|refine aj ?_ ?_<;>intro hw<;>try omega|fail
    all_goals first
     | exact aP
     | exact jt rfl rfl
     | exact jt oY rfl
     | exact fU om
   ·have c:=Lt (k:=2) (by decide) a b (by revert hf;cases bI a.kind 2<;>cases bI b.kind 2<;>simp);rw[if_pos (by revert hf;cases bI a.kind 2<;>cases bI b.kind 2<;>simp)];simp only[bD]at c ⊢;refine cK.fS (tu.go ?_) rfl dS;unfold cj;intro Q aq au aA;repeat' first|refine ak ?_|refine Qc c ?_|refine aj ?_ ?_<;>intro hw<;>try omega|fail
    all_goals first
     | exact aP
     | exact fU rfl
 | false =>
   have hT:=Zz.1 ht;simp only[aI,if_false];by_cases hf:bI a.kind 1=true/\bI b.kind 1=true
   ·have c:=Qg (k:=1) (by decide) a b hf.1 hf.2;rw[if_neg (by simp[hf.1,hf.2])];generalize (bU a || bU b)=n at *;generalize mb op a.n b.n=J at *;simp only[bD]at c ⊢;refine cK.fS (tu.go ?_) rfl dS;unfold cj;intro Q aq au aA;cases n
    all_goals
     repeat' first|refine ak ?_|refine yG c ?_|refine Ay hr (fun v_ oY=>?_) (fun e_ om=>?_)|refine aj ?_ ?_<;>intro hw<;>try omega|fail
    all_goals first
     | exact aP
     | exact jt rfl rfl
     | exact jt oY rfl
     | exact fU om
   ·have c:=Lt (k:=1) (by decide) a b (by revert hf;cases bI a.kind 1<;>cases bI b.kind 1<;>simp);rw[if_pos (by revert hf;cases bI a.kind 1<;>cases bI b.kind 1<;>simp)];simp only[bD]at c ⊢;refine cK.fS (tu.go ?_) rfl dS;unfold cj;intro Q aq au aA;repeat' first|refine ak ?_|refine Qc c ?_|refine aj ?_ ?_<;>intro hw<;>try omega|fail
    all_goals first
     | exact aP
     | exact fU rfl
