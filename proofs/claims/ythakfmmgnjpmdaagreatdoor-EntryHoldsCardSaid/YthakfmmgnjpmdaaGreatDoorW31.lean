/- Part. -/
import Derived.Test.YthakfmmgnjpmdaaGreatDoorW30
set_option linter.all false
set_option maxHeartbeats 4000000
namespace Go.Proofs.YthakfmmgnjpmdaaGreatDoor
open Go.AM
set_option maxRecDepth 4000
def TA{a b:Int}: bT a b=true↔(a=nY a b\/a=0)/\(b=nY a b\/b=0):=by
 unfold bT nY;simp only[bU,decide_eq_true_eq];split<;>omega
def R8(a b:aL)(h:bT a.kind b.kind=true): aM aH 186 [bX a,bX b] (I (nY a.kind b.kind)):=by
 have hf:=TA.1 h
 have c:=Ce (nY a.kind b.kind) [a,b] (by simp) (fun i hi=>by
  rcases i with _|_|i
  ·simpa[A6]using hf.1
  ·simpa[A6]using hf.2
  ·simp at hi;omega)
 generalize qj _ _ _=n at c;unfold nY at c ⊢;simp only[aW,bf,cJ,bX]at c;simp only[bX];by_cases h0:a.kind=0
 ·rw[if_pos h0]at c ⊢;refine aR zK ?_;intro Q aB aC aD;repeat' first|refine au ?_|refine zd c ?_|refine aq ?_ ?_<;>intro hw<;>try omega|fail
  all_goals first|exact aU rfl rfl|exact a_
 ·rw[if_neg h0]at c ⊢;refine aR zK ?_;intro Q aB aC aD;repeat' first|refine au ?_|refine zd c ?_|refine aq ?_ ?_<;>intro hw<;>try omega|fail
  all_goals first|exact aU rfl rfl|exact a_
def Qj(a b:aL)(h:bT a.kind b.kind=false): cQ aH 186 [bX a,bX b] (.panic (qP 14)):=by
 have hf:¬ ((a.kind=nY a.kind b.kind\/a.kind=0)/\(b.kind=nY a.kind b.kind\/b.kind=0)):=fun h2=>by rw[TA.2 h2]at h;cases h
 have c:cQ aH 153 [I (nY a.kind b.kind),aW [a,b]] (.panic (qP 14)):=by
  by_cases h1:a.kind=nY a.kind b.kind\/a.kind=0
  ·exact r8 _ [a, b] (by simp) 1 (by simp) (by
    have h2:¬ (b.kind=nY a.kind b.kind\/b.kind=0):=fun h2=>hf ⟨h1,h2⟩;show A6 _ b=false;simpa[A6]using h2)
  ·exact r8 _ [a, b] (by simp) 0 (by simp) (by
    show A6 _ a=false;simpa[A6]using h1)
 unfold nY at c;simp only[aW,bf,cJ,bX]at c;simp only[bX];refine cQ.of_nil (zK.go ?_) rfl rfl;unfold dO;intro Q aB aC aD;by_cases h0:a.kind=0
 ·rw[if_pos h0]at c;repeat' first|refine au ?_|refine Qe c ?_|refine aq ?_ ?_<;>intro hw<;>try omega|fail
  all_goals first|(simp only[go_sem,aD];done)|exact a_|rfl
 ·rw[if_neg h0]at c;repeat' first|refine au ?_|refine Qe c ?_|refine aq ?_ ?_<;>intro hw<;>try omega|fail
  all_goals first|(simp only[go_sem,aD];done)|exact a_|rfl
def A7(a b:aL): decide (a=b)=(a.kind==b.kind && a.n==b.n && a.s==b.s):=by
 obtain⟨a1,a2,a3⟩:=a;obtain⟨b1,b2,b3⟩:=b;rw[cG];simp[and_assoc]
def NI(op:Int)(a b:aL): cQ aH 159 [I op,bX a,bX b] (rK (xA op a b)):=by
 have hS:xA op a b=if bT a.kind b.kind=false then .err 14
  else if op=8 then .ok (fy (decide (a=b)))
  else if op=9 then .ok (fy (!(decide (a=b))))
  else if a.kind=3\/b.kind=3 then .err 14
  else if dB a || dB b then .ok v0
  else if op=10 then .ok (fy (decide (iM a b<0)))
  else if op=11 then .ok (fy (decide (iM a b<=0)))
  else if op=12 then .ok (fy (decide (0<iM a b)))
  else .ok (fy (decide (0<=iM a b))):=rfl
 rw[hS];clear hS;by_cases hf:bT a.kind b.kind=false
 ·rw[if_pos hf];have c:=Qj a b hf;simp only[bX]at c ⊢;refine cQ.gC (lj.go ?_) rfl ep;unfold dO;intro Q aB aC aD;repeat' first|refine au ?_|refine A4 c ?_|refine aq ?_ ?_<;>intro hw<;>try omega|fail
  all_goals first|exact gE rfl|exact a_
 rw[if_neg hf];have c:=R8 a b (by simpa using hf);have cc:=nq a b
 have hk:nY a.kind b.kind=3↔a.kind=3\/b.kind=3:=by
  have:bT a.kind b.kind=true:=by simpa using hf
  unfold nY;unfold bT at this;simp only[bU,decide_eq_true_eq]at this;split<;>omega
 have hb:=A7 a b;have hn:(dB a || dB b)=true↔a.kind=0\/b.kind=0:=by simp[dB]
 generalize nY a.kind b.kind=o at c hk;generalize iM a b=m at *;have ct:=fun x=>uy x;by_cases h8:op=8
 ·rw[if_pos h8,hb];subst h8;simp only[bX]at c cc ct ⊢;refine cQ.gC (lj.go ?_) rfl ep;unfold dO;intro Q aB aC aD;repeat' first|refine au ?_|refine eZ c ?_|refine eZ (ct _) ?_|refine aq ?_ ?_<;>intro hw<;>try omega|fail
  all_goals first|exact a_|(refine jy rfl ?_;first|rfl|(simp[bX];done))
 rw[if_neg h8];by_cases h9:op=9
 ·rw[if_pos h9,hb];subst h9;simp only[bX]at c cc ct ⊢;refine cQ.gC (lj.go ?_) rfl ep;unfold dO;intro Q aB aC aD;repeat' first|refine au ?_|refine eZ c ?_|refine eZ (ct _) ?_|refine aq ?_ ?_<;>intro hw<;>try omega|fail
  all_goals first|exact a_|(refine jy rfl ?_;first|rfl|(simp[bX];done))
 rw[if_neg h9];by_cases h3:a.kind=3\/b.kind=3
 ·rw[if_pos h3];have ho:=hk.2 h3;simp only[bX]at c cc ct ⊢;refine cQ.gC (lj.go ?_) rfl ep;unfold dO;intro Q aB aC aD;repeat' first|refine au ?_|refine eZ c ?_|refine A4 (oR 14 (by decide)) ?_|refine aq ?_ ?_<;>intro hw<;>try omega|fail
  all_goals first|exact gE rfl|exact a_
 rw[if_neg h3];have ho:o≠3:=fun h=>h3 (hk.1 h);by_cases h0:(dB a || dB b)=true
 ·rw[if_pos h0];have h00:=hn.1 h0;simp only[bX]at c cc ct ⊢;refine cQ.gC (lj.go ?_) rfl ep;unfold dO;intro Q aB aC aD;repeat' first|refine au ?_|refine eZ c ?_|refine aq ?_ ?_<;>intro hw<;>try omega|fail
  all_goals first|exact jy rfl rfl|exact a_
 rw[if_neg h0];have h00:¬ (a.kind=0\/b.kind=0):=fun h=>h0 (hn.2 h);clear hn hk hb h3;simp only[bX]at c cc ct ⊢;refine cQ.gC (lj.go ?_) rfl ep;unfold dO;intro Q aB aC aD;repeat' first|refine au ?_|refine eZ c ?_|refine eZ (ct _) ?_|refine aq ?_ ?_<;>intro hw<;>try omega|fail
 all_goals first
  | exact a_
  |(refine jy (u:=fy (decide (m<0))) ?_ ?_<;>first|rfl|(repeat' (first|rw[if_pos (by assumption)]|rw[if_neg (by assumption)]));done)
  |(refine jy (u:=fy (decide (m<=0))) ?_ ?_<;>first|rfl|(repeat' (first|rw[if_pos (by assumption)]|rw[if_neg (by assumption)]));done)
  |(refine jy (u:=fy (decide (0<m))) ?_ ?_<;>first|rfl|(repeat' (first|rw[if_pos (by assumption)]|rw[if_neg (by assumption)]));done)
  |(refine jy (u:=fy (decide (0<=m))) ?_ ?_<;>first|rfl|(repeat' (first|rw[if_pos (by assumption)]|rw[if_neg (by assumption)]));done)
def R9(op:Int)(a b:aL): cQ aH 158 [I op,bX a,bX b] (rK (rq op a b)):=by
 have hS:rq op a b=if !(bT a.kind 3) || !(bT b.kind 3)then .err 14
  else if a=fy (decide (op=15))\/b=fy (decide (op=15))then .ok (fy (decide (op=15)))
  else if dB a || dB b then .ok v0
  else .ok (fy (decide (op=14))):=rfl
 rw[hS];clear hS;have ct:=fun x=>uy x;by_cases hf:bT a.kind 3=true/\bT b.kind 3=true
 ·rw[if_neg (by simp[hf.1,hf.2])];have c:=Qh (k:=3) (by decide) a b hf.1 hf.2;have s7:=A7 a (fy (decide (op=15)));have gG:=A7 b (fy (decide (op=15)));have cte:=uy (decide (op=15));have ct4:=uy (decide (op=14));generalize fy (decide (op=15))=e at *;generalize fy (decide (op=14))=e4 at *;generalize (dB a || dB b)=n at *;simp only[bX]at c cte ct4 ⊢;by_cases h1:a=e
  ·rw[if_pos (.inl h1)];rw[decide_eq_true h1]at s7;refine cQ.gC (q9.go ?_) rfl ep;unfold dO;intro Q aB aC aD;repeat' first|simp (disch:=omega) only[go_sem,aB,aC,aD,s7.symm]|refine au ?_|refine zd c ?_|refine aq ?_ ?_<;>intro hw<;>try omega|fail
   all_goals first|exact jy rfl rfl|exact a_
  ·rw[decide_eq_false h1]at s7;by_cases h2:b=e
   ·rw[if_pos (.inr h2)];rw[decide_eq_true h2]at gG;refine cQ.gC (q9.go ?_) rfl ep;unfold dO;intro Q aB aC aD;repeat' first|simp (disch:=omega) only[go_sem,aB,aC,aD,s7.symm,gG.symm]|refine au ?_|refine zd c ?_|refine aq ?_ ?_<;>intro hw<;>try omega|fail
    all_goals first|exact jy rfl rfl|exact a_
   ·rw[if_neg (fun h=>h.elim h1 h2)];rw[decide_eq_false h2]at gG;refine cQ.gC (q9.go ?_) rfl ep;unfold dO;intro Q aB aC aD;cases n
    all_goals
     repeat' first|simp (disch:=omega) only[go_sem,aB,aC,aD,s7.symm,gG.symm]|refine au ?_|refine zd c ?_|refine aq ?_ ?_<;>intro hw<;>try omega|fail
    all_goals first|exact jy rfl rfl|exact a_
 ·rw[if_pos (by revert hf;cases bT a.kind 3<;>cases bT b.kind 3<;>simp)];have c:=KP (k:=3) (by decide) a b (by revert hf;cases bT a.kind 3<;>cases bT b.kind 3<;>simp);simp only[bX]at c ⊢;refine cQ.gC (q9.go ?_) rfl ep;unfold dO;intro Q aB aC aD;repeat' first|refine au ?_|refine Qe c ?_|refine aq ?_ ?_<;>intro hw<;>try omega|fail
  all_goals first|exact gE rfl|exact a_
def Mx {n : FuncId} {args : List AV} {r : AV} {K G : Prop} (h : aM aH n args r) (k : K) (hg : aM aH n args r -> K -> G := by
    intro h k;with_reducible exact SS h k):G:=hg h k
def qQ(cs:List cN)(row:List aL): AV:= .agg [bV cs,aW row]
def N6(cs:List cN)(row:List aL)(s:aO): iW:=if uR cs s<0 then .err 13 else .ok (row.getD (uR cs s).toNat default)
def Jo(cs:List cN)(row:List aL)(s:aO)(hl:cs.length=row.length)(Es:cs.length<=2 ^ 60): cQ aH 152 [qQ cs row,.str s] (rK (N6 cs row s)):=by
 refine cQ.gC (DN.go ?_) (by simp[qQ]) ep;unfold dO;intro Q aB aC aD;simp only[qQ,bV,aW];repeat' first|refine au ?_|refine aq ?_ ?_<;>intro hw<;>try omega|fail
 with_reducible refine bE [5,6,10,11,12,13,14,15,16,17,18,19,20,21,22,23,24] (fun q:Nat × List bj=>[(10,I q.1)]) (fun q=> .cells [.aN false EC (cs.map ew),.aN false EV (row.map bX)]:: .cells [I 0,I 0,.str []]::q.2) (fun q=>q.1<=cs.length/\ ∀ k,k<q.1->((cs.getD k default).name==s)=false) (fun q=>cs.length-q.1) (0,[]) ?_ ?_ ?_ ?_
 ·simp
 ·rfl
 ·exact at_
 rintro⟨i,τ⟩ r ⟨h1,h2⟩;dsimp only at h1 h2;by_cases hi:i<cs.length
 ·have bR:=fun h=>pO (p:=fun c:cN=>c.name==s) hi h2 h;have dV:=fun h=>bQ (q:=fun k=>((cs.getD k default).name==s)=false) h2 (i:=i) h;obtain⟨c,hc⟩:∃ c,cs.getD i default=c:=⟨_,rfl⟩;rw[hc]at bR dV;repeat' first|simp (disch:=omega) only[go_sem,aB,aC,aD,hc]|refine au ?_|refine aq ?_ ?_<;>intro hw<;>try omega|fail
  all_goals first
   | exact a_
   | (have e : uR cs s = i := bR (by simp_all)
      refine jy (u:=row.getD i default) ?_ rfl;unfold N6;rw[e,if_neg (by omega)];rfl)
   | (refine ⟨(i + 1, τ ++ [.cells [.str c.name, I c.kind, .aN false EV (c.order.map bX)]]), ?_, ?_, by first | rfl | (simp [go_sem]; done), cZ, at_⟩
      ·exact⟨by dsimp only;omega,dV (by simp_all)⟩
      ·dsimp only;omega)
 ·have e:uR cs s = -1:=mH (p:=fun c:cN=>c.name==s) fun k hk=>h2 k (by omega);repeat' first|refine au ?_|refine A4 (oR 13 (by decide)) ?_|refine aq ?_ ?_<;>intro hw<;>try omega|fail
  all_goals first
   | exact a_
   | (refine gE ?_
      unfold N6;rw[e];rfl)
def VL(cs:List cN)(row:List aL)(v:aL)(s:aO)(rs:List iW): qi cs row 2 v s rs=N6 cs row s:=rfl
def Yq(cs:List cN)(row:List aL)(v:aL)(s:aO)(rs:List iW): qi cs row 1 v s rs = .ok v:=rfl
def Et{cs:List cN}{row:List aL}{op:Int}{v:aL}{s:aO}{rs:List iW}(h1:op≠1)(h2:op≠2){e:Int}(h:rs.getD 0 default = .err e): qi cs row op v s rs = .err e:=by
 unfold qi;rw[if_neg h1,if_neg h2,h]
def Yr{cs:List cN}{row:List aL}{v:aL}{s:aO}{a:aL}: qi cs row 3 v s [.ok a]=KN a:=rfl
def aa2{cs:List cN}{row:List aL}{v:aL}{s:aO}{a:aL}{r1 r2:iW}: qi cs row 16 v s [.ok a,r1,r2]=if bT a.kind 3=false then .err 14 else if a=fy true then r1 else r2:=rfl
def VM{cs:List cN}{row:List aL}{op:Int}{v:aL}{s:aO}{a:aL}{e:Int}(h1:4<=op)(h2:op<=15): qi cs row op v s [.ok a,.err e] = .err e:=by
 unfold qi;rw[if_neg (by omega),if_neg (by omega)];show(if op=3 then _ else _)=_;rw[if_neg (by omega),if_neg (by omega)];rfl
def Ys{cs:List cN}{row:List aL}{op:Int}{v:aL}{s:aO}{a b:aL}(h1:4<=op)(h2:op<=15): qi cs row op v s [.ok a,.ok b]=KM op a b:=by
 unfold qi;rw[if_neg (by omega),if_neg (by omega)];show(if op=3 then _ else _)=_;rw[if_neg (by omega),if_neg (by omega)];rfl
def Jp(x:Expr): Prop:=cq x=true/\ig x/\fW x<=2 ^ 60
def My{op:Int}{v:aL}{s:aO}{l:List Expr}(h:Jp (.mk op v s l)){y:Expr}(hy:y ∈ l): Jp y:=by
 obtain⟨h1,h2,h3⟩:=h;simp only[cq,aj,decide_eq_true_eq]at h1;simp only[ig]at h2;simp only[fW]at h3;have hne:l≠[]:=fun e=>by rw[e]at hy;cases hy
 have n1:op≠1:=fun e=>by subst e;have:=h1.1;simp[jG]at this;exact hne (by simpa using this)
 have n2:op≠2:=fun e=>by subst e;have:=h1.1;simp[jG]at this;exact hne (by simpa using this)
 have h4:=h1.2;rw[if_neg n1,if_neg n2]at h4;simp only[aj]at h4;have:=AE hy;exact⟨Cd h4.2 hy,xI h2.2.2.2.2 hy,by omega⟩
def R_{op:Int}{v:aL}{s:aO}{l:List Expr}(h:Jp (.mk op v s l)): (l.length:Int)=jG op:=by
 obtain⟨h1,_,_⟩:=h;simp only[cq,aj,decide_eq_true_eq]at h1;exact h1.1
def Yt{cs:List cN}{row:List aL}(hl:cs.length=row.length)(hrow:∀ w ∈ row,gk w){x:Expr}(h:Jp x): (rY cs row x).good:=Qd hl hrow x h.1 h.2.1
def Jq(cs:List cN)(row:List aL)(hl:cs.length=row.length)(Es:cs.length<=2 ^ 60)(hrow:∀ w ∈ row,gk w)(x:Expr): Jp x->cQ aH 114 [qQ cs row,aT x] (rK (rY cs row x)):=by
 induction x using Expr.ind with
 | h op v s l ih =>
   intro hx;have U8:=R_ hx;have sU:∀ y ∈ l,cQ aH 114 [qQ cs row,aT y] (rK (rY cs row y)):=fun y hy=>ih y hy (My hx hy);have Jr:∀ y ∈ l,(rY cs row y).good:=fun y hy=>Yt hl hrow (My hx hy);clear ih hx;simp only[rY];rw[Fw];by_cases o1:op=1
   ·subst o1;rw[Yq];simp only[aT,qQ,bV,aW];refine cQ.gC (fx.go ?_) (by simp) ep;unfold dO;intro Q aB aC aD;repeat' first|refine au ?_|refine aq ?_ ?_<;>intro hw<;>try omega|fail
    all_goals first|exact jy rfl rfl|exact a_
   by_cases o2:op=2
   ·subst o2;rw[VL];have c:=Jo cs row s hl Es;simp only[aT,qQ,bV,aW]at c ⊢;refine cQ.gC (fx.go ?_) (by simp) ep;unfold dO;intro Q aB aC aD;repeat' first|refine au ?_|refine A3 c (fun v_ pD=>?_) (fun e_ oD=>?_)|refine aq ?_ ?_<;>intro hw<;>try omega|fail
    all_goals first|exact jy pD rfl|exact gE oD|exact a_
   rcases qH U8 o1 o2 with⟨rfl,hn⟩|⟨h4,XH,hn⟩|⟨rfl,hn⟩
   ·obtain ⟨y, rfl⟩ : ∃ y, l = [y] := by
     match l,hn with
     | [y],_=>exact⟨y,rfl⟩
    have c0:=sU y (by simp);have g0:=Jr y (by simp);simp only[bf,cJ];generalize rY cs row y=r0 at *;simp only[aT,qQ,bV,aW,bf,cJ]at c0 ⊢;rw[bq]at c0;cases r0 with
    | err e =>
      have c0:cQ aH 114 _ (.panic (qP e)):=c0;rw[Et (by decide) (by decide) rfl];refine cQ.gC (fx.go ?_) (by simp) ep;unfold dO;intro Q aB aC aD;repeat' first|refine au ?_|refine A4 c0 ?_|refine aq ?_ ?_<;>intro hw<;>try omega|fail
      all_goals first|exact gE rfl|exact fun _ _=>gE rfl|exact a_
    | ok a =>
      have c0:aM aH 114 _ (bX a):=c0;rw[Yr];unfold KN;cases hf:bT a.kind 1 with
      | false =>
        have c1:=Tz (k:=1) (by decide) a hf;rw[if_pos rfl];simp only[bX]at c0 c1;refine cQ.gC (fx.go ?_) (by simp) ep;unfold dO;intro Q aB aC aD;repeat' first|refine au ?_|refine Mx c0 ?_|refine Qe c1 ?_|refine aq ?_ ?_<;>intro hw<;>try omega|fail
        all_goals first|exact gE rfl|exact a_
      | true =>
        have c1:=Yo (k:=1) (by decide) a hf;have cS:=Qg 0 a.n (by unfold ku;omega) g0.2.1;have hp:=Tt (Er (0-a.n));rw[if_neg (by decide)];generalize jR (0-a.n)=q at *;generalize numOf q=n at *;generalize oS q=m at *;simp only[bX]at c0 c1;generalize dB a=z at *;refine cQ.gC (fx.go ?_) (by simp) ep;unfold dO;intro Q aB aC aD;cases z
        all_goals
         repeat' first|refine au ?_|refine Mx c0 ?_|refine zd c1 ?_|refine A3 (r7 n m) (fun v_ pD=>?_) (fun e_ oD=>?_)|refine aq ?_ ?_<;>intro hw<;>try omega|fail
        all_goals first
         | exact jy rfl rfl
         | exact jy (hp.symm.trans pD) rfl
         | exact gE (hp.symm.trans oD)
         | exact a_
   ·obtain ⟨y, z, rfl⟩ : ∃ y z, l = [y, z] := by
     match l,hn with
     | [y,z],_=>exact⟨y,z,rfl⟩
    have c0:=sU y (by simp);have g0:=Jr y (by simp);have c1:=sU z (by simp);have g1:=Jr z (by simp);simp only[bf,cJ];generalize rY cs row y=r0 at *;generalize rY cs row z=r1 at *;simp only[aT,qQ,bV,aW,bf,cJ]at c0 c1 ⊢;rw[bq]at c0 c1;clear sU Jr;cases r0 with
    | err e =>
      have c0:cQ aH 114 _ (.panic (qP e)):=c0;rw[Et (by omega) (by omega) rfl];refine cQ.gC (fx.go ?_) (by simp) ep;unfold dO;intro Q aB aC aD;repeat' first|refine au ?_|refine A4 c0 ?_|refine aq ?_ ?_<;>intro hw<;>try omega|fail
      all_goals first|exact gE rfl|exact fun _ _=>gE rfl|exact a_
    | ok a =>
      have c0:aM aH 114 _ (bX a):=c0;cases r1 with
      | err e =>
        have c1:cQ aH 114 _ (.panic (qP e)):=c1;rw[VM h4 XH];simp only[bX]at c0;refine cQ.gC (fx.go ?_) (by simp) ep;unfold dO;intro Q aB aC aD;repeat' first|simp (disch:=omega) only[go_sem,aB,aC,aD,Int.reduceToNat]|refine au ?_|refine Mx c0 ?_|refine A4 c1 ?_|refine aq ?_ ?_<;>intro hw<;>try omega|fail
        all_goals first|exact gE rfl|exact fun _ _=>gE rfl|exact a_
      | ok b =>
        have c1:aM aH 114 _ (bX b):=c1;rw[Ys h4 XH];have cs:=Yp op a b g0.2 g1.2;have cc:=NI op a b;have ct:=R9 op a b;have hS:KM op a b=if op<=7 then vM op a b else if op<=13 then xA op a b else rq op a b:=rfl
        rw[hS];clear hS g0 g1;generalize vM op a b=q1 at *;generalize xA op a b=q2 at *;generalize rq op a b=q3 at *;simp only[bX]at c0 c1 cs cc ct;refine cQ.gC (fx.go ?_) (by simp) ep;unfold dO;intro Q aB aC aD;repeat' first|simp (disch:=omega) only[go_sem,aB,aC,aD,Int.reduceToNat]|refine au ?_|refine Mx c0 ?_|refine Mx c1 ?_|refine A3 cs (fun v_ pD=>?_) (fun e_ oD=>?_)|refine A3 cc (fun v_ pD=>?_) (fun e_ oD=>?_)|refine A3 ct (fun v_ pD=>?_) (fun e_ oD=>?_)|refine aq ?_ ?_<;>intro hw<;>try omega|fail
        all_goals first
         |(rw[if_pos (by omega)];first|exact jy pD rfl|exact gE oD)
         |(rw[if_neg (by omega),if_pos (by omega)];first|exact jy pD rfl|exact gE oD)
         |(rw[if_neg (by omega),if_neg (by omega)];first|exact jy pD rfl|exact gE oD)
         | exact a_
   ·obtain ⟨y, z, u, rfl⟩ : ∃ y z u, l = [y, z, u] := by
     match l,hn with
     | [y,z,u],_=>exact⟨y,z,u,rfl⟩
    have c0:=sU y (by simp);have c1:=sU z (by simp);have c2:=sU u (by simp);simp only[bf,cJ];generalize rY cs row y=r0 at *;generalize rY cs row z=r1 at *;generalize rY cs row u=r2 at *;simp only[aT,qQ,bV,aW,bf,cJ]at c0 c1 c2 ⊢;rw[bq]at c0 c1 c2;clear sU Jr;cases r0 with
    | err e =>
      have c0:cQ aH 114 _ (.panic (qP e)):=c0;rw[Et (by decide) (by decide) rfl];refine cQ.gC (fx.go ?_) (by simp) ep;unfold dO;intro Q aB aC aD;repeat' first|refine au ?_|refine A4 c0 ?_|refine aq ?_ ?_<;>intro hw<;>try omega|fail
      all_goals first|exact gE rfl|exact fun _ _=>gE rfl|exact a_
    | ok a =>
      have c0:aM aH 114 _ (bX a):=c0;rw[aa2];cases hf:bT a.kind 3 with
      | false =>
        have cf:=Tz (k:=3) (by decide) a hf;rw[if_pos rfl];simp only[bX]at c0 cf;refine cQ.gC (fx.go ?_) (by simp) ep;unfold dO;intro Q aB aC aD;repeat' first|refine au ?_|refine Mx c0 ?_|refine Qe cf ?_|refine aq ?_ ?_<;>intro hw<;>try omega|fail
        all_goals first|exact gE rfl|exact a_
      | true =>
        have cf:=Yo (k:=3) (by decide) a hf;have ct:=uy true;have hb:=A7 a (fy true);rw[if_neg (by decide)];by_cases ha:a=fy true
        ·rw[if_pos ha];rw[decide_eq_true ha]at hb;generalize fy true=e at *;simp only[bX]at c0 cf ct;refine cQ.gC (fx.go ?_) (by simp) ep;unfold dO;intro Q aB aC aD;repeat' first|simp (disch:=omega) only[go_sem,aB,aC,aD,Int.reduceToNat,hb.symm]|refine au ?_|refine Mx c0 ?_|refine zd cf ?_|refine A3 c1 (fun v_ pD=>?_) (fun e_ oD=>?_)|refine aq ?_ ?_<;>intro hw<;>try omega|fail
         all_goals first|exact jy pD rfl|exact gE oD|exact fun _ _=>gE oD|exact a_
        ·rw[if_neg ha];rw[decide_eq_false ha]at hb;generalize fy true=e at *;simp only[bX]at c0 cf ct;refine cQ.gC (fx.go ?_) (by simp) ep;unfold dO;intro Q aB aC aD;repeat' first|simp (disch:=omega) only[go_sem,aB,aC,aD,Int.reduceToNat,hb.symm]|refine au ?_|refine Mx c0 ?_|refine zd cf ?_|refine A3 c2 (fun v_ pD=>?_) (fun e_ oD=>?_)|refine aq ?_ ?_<;>intro hw<;>try omega|fail
         all_goals first|exact jy pD rfl|exact gE oD|exact fun _ _=>gE oD|exact a_
structure TO {α : Type} (c : α-> α->Int):Prop where
 eq:∀ a b,c a b=0↔a=b
 anti:∀ a b,c b a = - c a b
 trans:∀ a b d,c a b<0->c b d<0->c a d<0
def aa3: TO jJ:=by
 refine⟨fun a b=>?_,fun a b=>?_,fun a b d=>?_⟩
 ·unfold jJ;split<;>(try split)<;>constructor<;>intro h<;>omega
 ·unfold jJ;split<;>split<;>(try split)<;>omega
 ·unfold jJ;intro h1 h2;rw[if_pos]
  ·omega
  ·split at h1<;>split at h2<;>(try split at h1)<;>(try split at h2)<;>omega
def TO.lex{α β : Type}{c1 : α-> α->Int}{c2 : β-> β->Int}(h1:TO c1)(h2:TO c2): TO (fun(p q : α × β)=>if c1 p.1 q.1≠0 then c1 p.1 q.1 else c2 p.2 q.2):=by
 refine⟨fun a b=>?_,fun a b=>?_,fun a b d=>?_⟩
 ·obtain⟨a1,a2⟩:=a;obtain⟨b1,b2⟩:=b;dsimp only;by_cases h:c1 a1 b1=0
  ·rw[if_neg (by simpa using h),h2.eq,(h1.eq _ _).1 h];simp
  ·rw[if_pos h];constructor
   ·intro h';exact absurd h' h
   ·intro h';cases h';exact absurd ((h1.eq _ _).2 rfl) h
 ·rw[h1.anti,h2.anti];by_cases h:c1 a.1 b.1=0
  ·rw[if_neg (by omega),if_neg (by omega)]
  ·rw[if_pos (by omega),if_pos (by omega)]
 ·intro ha hb;by_cases h:c1 a.1 b.1=0
  ·rw[if_neg (by omega)]at ha;rw[(h1.eq _ _).1 h];by_cases h':c1 b.1 d.1=0
   ·rw[if_neg (by omega)]at hb ⊢;exact h2.trans _ _ _ ha hb
   ·rw[if_pos h']at hb ⊢;exact hb
  ·rw[if_pos h]at ha;by_cases h':c1 b.1 d.1=0
   ·rw[<-(h1.eq _ _).1 h',if_pos h];exact ha
   ·rw[if_pos h']at hb;have:=h1.trans _ _ _ ha hb;rw[if_pos (by omega)];exact this
def TO.map{α β : Type}{c : β-> β->Int}(h:TO c)(f : α-> β)(hf:∀ a b,f a=f b->a=b): TO (fun a b=>c (f a) (f b)) :=
 ⟨fun a b=>⟨fun e=>hf _ _ ((h.eq _ _).1 e),fun e=>(h.eq _ _).2 (by rw[e])⟩,fun a b=>h.anti _ _,fun a b d=>h.trans _ _ _⟩
def oE{α : Type}(c : α-> α->Int): List α->List α->Int
 | [],[]=>0
 | [],_::_=> -1
 | _::_,[]=>1
 | a::r,b::t=>if c a b≠0 then c a b else oE c r t
def TO.list{α : Type}{c : α-> α->Int}(h:TO c): TO (oE c):=by
 refine⟨fun a=>?_,fun a=>?_,fun a=>?_⟩
 ·induction a with
  | nil=>intro b;cases b<;>simp[oE]
  | cons x r ih =>
    intro b;cases b with
    | nil=>simp[oE]
    | cons y t =>
      simp only[oE];by_cases hx:c x y=0
      ·rw[if_neg (by simpa using hx),ih,(h.eq _ _).1 hx];simp
      ·rw[if_pos hx];constructor
       ·intro h';exact absurd h' hx
       ·intro h';cases h';exact absurd ((h.eq _ _).2 rfl) hx
 ·induction a with
  | nil=>intro b;cases b<;>simp[oE]
  | cons x r ih =>
    intro b;cases b with
    | nil=>simp[oE]
    | cons y t =>
      simp only[oE];rw[h.anti,ih];by_cases hx:c x y=0
      ·rw[if_neg (by omega),if_neg (by omega)]
      ·rw[if_pos (by omega),if_pos (by omega)]
 ·induction a with
  | nil =>
    intro b d hb hd;cases b with
    | nil=>simp[oE]at hb
    | cons y t =>
      cases d with
      | nil=>simp[oE]at hd
      | cons z u=>simp[oE]
  | cons x r ih =>
    intro b d hb hd;cases b with
    | nil=>simp[oE]at hb
    | cons y t =>
      cases d with
      | nil=>simp[oE]at hd
      | cons z u =>
        simp only[oE]at hb hd ⊢;by_cases hx:c x y=0
        ·rw[if_neg (by omega)]at hb;rw[(h.eq _ _).1 hx];by_cases hy:c y z=0
         ·rw[if_neg (by omega)]at hd ⊢;exact ih _ _ hb hd
         ·rw[if_pos hy]at hd ⊢;exact hd
        ·rw[if_pos hx]at hb;by_cases hy:c y z=0
         ·rw[<-(h.eq _ _).1 hy,if_pos hx];exact hb
         ·rw[if_pos hy]at hd;have:=h.trans _ _ _ hb hd;rw[if_pos (by omega)];exact this
def KQ(a b:UInt8): Int:=if a<b then -1 else if b<a then 1 else 0
def aiN: TO KQ:=by
 have e:KQ=fun a b=>jJ a.toNat b.toNat:=by
  funext a b
  unfold KQ jJ;simp only[UInt8.lt_iff_toNat_lt,Int.ofNat_lt]
 rw[e];exact aa3.map (fun a:UInt8=>(a.toNat:Int)) (fun a b h=>UInt8.toNat_inj.1 (by omega))
def Mz: ∀ a b:aO,Lib.compareBytes a b=oE KQ a b
 | [],[]=>rfl
 | [],_::_=>rfl
 | _::_,[]=>rfl
 | x :: r, y :: t => by
   simp only[Lib.compareBytes,oE,Mz r t];unfold KQ;by_cases h1:x<y
   ·simp[h1]
   ·by_cases h2:y<x
    ·simp[h1,h2]
    ·simp[h1,h2]
def aiO: TO iM:=by
 have e:iM=fun a b=>(fun(p q:Int × Int × aO)=>if jJ p.1 q.1≠0 then jJ p.1 q.1 else(fun(p q:Int × aO)=>if jJ p.1 q.1≠0 then jJ p.1 q.1 else oE KQ p.2 q.2) p.2 q.2) (a.kind,a.n,a.s) (b.kind,b.n,b.s):=by
  funext a b
  simp only[iM,Mz]
 rw[e]
 exact(aa3.lex (aa3.lex aiN.list)).map (fun a:aL=>(a.kind,a.n,a.s)) (fun a b h=>by
  obtain⟨a1,a2,a3⟩:=a;obtain⟨b1,b2,b3⟩:=b;simp only[Prod.mk.injEq]at h;obtain⟨rfl,rfl,rfl⟩:=h;rfl)
def Qk: ∀ a b:List aL,iu a b=oE iM a b
 | [],[]=>rfl
 | [],_::_=>rfl
 | _::_,[]=>rfl
 | x::r,y::t=>by simp only[iu,oE,Qk r t]
def Eu: TO iu:=by
 have e:iu=oE iM:=by funext a b;exact Qk a b
 rw[e];exact aiO.list
abbrev Row:=List aL
abbrev pE(a b:Row): Prop:=iu a b<=0
def aa4(a:Row): pE a a:=by show iu a a<=0;rw[(Eu.eq a a).2 rfl];omega
def oJ{a b d:Row}(h1:pE a b)(h2:pE b d): pE a d:=by
 have h1:iu a b<=0:=h1;have h2:iu b d<=0:=h2;show iu a d<=0;by_cases e1:iu a b=0
 ·rw[(Eu.eq _ _).1 e1];exact h2
 ·by_cases e2:iu b d=0
  ·rw[<-(Eu.eq _ _).1 e2];exact h1
  ·have:=Eu.trans a b d (by omega) (by omega);omega
def aa5{a b:Row}(h1:pE a b)(h2:pE b a): a=b:=by
 have h1:iu a b<=0:=h1;have h2:iu b a<=0:=h2;rw[Eu.anti a b]at h2;exact(Eu.eq _ _).1 (by omega)
abbrev lO(l:List Row): Prop:=l.Pairwise pE
def Js: ∀ {l m:List Row},lO l->lO m->l.Perm m->l=m
 | [],m,_,_,h=>h.nil_eq
 | a :: l, m, hl, hm, h => by
   cases m with
   | nil=>exact absurd h.symm.nil_eq (by simp)
   | cons b m =>
     have hab:a=b:=by
      have h1:a ∈ b::m:=h.subset (by simp);have h2:b ∈ a::l:=h.symm.subset (by simp);rcases List.mem_cons.1 h1 with h1|h1
      ·exact h1
      ·rcases List.mem_cons.1 h2 with h2|h2
       ·exact h2.symm
       ·exact aa5 ((eY.1 hl).1 _ h2) ((eY.1 hm).1 _ h1)
     subst hab;rw[Js (eY.1 hl).2 (eY.1 hm).2 (List.perm_cons a |>.1 h)]
def MA(x:Row)(l:List Row): (Em x l).Perm (x::l):=by
 induction l with
 | nil=>exact .refl _
 | cons y r ih =>
   simp only[Em];split
   ·exact .refl _
   ·exact(ih.cons y).trans (.swap x y r)
def aa6{x:Row}{l:List Row}(h:lO l): lO (Em x l):=by
 induction l with
 | nil=>simp[Em]
 | cons y r ih =>
   have h':=eY.1 h;simp only[Em];split
   ·rename_i hx;have hx:iu x y<=0:=by omega
    refine eY.2 ⟨fun z hz=>?_,h⟩;rcases List.mem_cons.1 hz with rfl|hz
    ·exact hx
    ·exact oJ (b:=y) hx (h'.1 z hz)
   ·rename_i hx;have hyx:pE y x:=by show iu y x<=0;rw[Eu.anti x y];omega
    refine eY.2 ⟨fun z hz=>?_,ih h'.2⟩;have:=(MA x r).subset hz;rcases List.mem_cons.1 this with rfl|hz
    ·exact hyx
    ·exact h'.1 z hz
def Cf: ∀(l acc:List Row),(xy l acc).Perm (l++acc)
 | [],acc=> .refl _
 | x :: r, acc => by
   simp only[xy];refine(Cf r (Em x acc)).trans ?_;refine((MA x acc).append_left r).trans ?_;exact List.perm_middle
def MB: ∀(l:List Row) {acc:List Row},lO acc->lO (xy l acc)
 | [],acc,h=>h
 | x :: r, acc, h => by
   simp only[xy];exact MB r (aa6 h)
def ez(l:List Row): List Row:=xy l []
def sM(l:List Row): lO (ez l):=MB l .nil
def lP(l:List Row): (ez l).Perm l:=by
 have:=Cf l [];rwa[bB]at this
def A8{l m:List Row}(h:lO m)(hp:m.Perm l): m=ez l:=Js h (sM l) (hp.trans (lP l).symm)
def Cg{l m:List Row}(h:l.Perm m): ez l=ez m:=A8 (sM l) ((lP l).trans h)
def Ev{l:List Row}(h:lO l): ez l=l:=(A8 h (.refl _)).symm
def nX(l:List Row): (ez l).length=l.length:=(lP l).length_eq
def MC{s1 s2:List Row}{x:Row}(h:lO (s1++s2))(h1:∀ y ∈ s1,pE y x)(h2:∀ y ∈ s2,pE x y): lO (s1++x::s2):=by
 obtain⟨a,b,c⟩:=fC.1 h;refine fC.2 ⟨a,eY.2 ⟨h2,b⟩,fun y hy z hz=>?_⟩;rcases List.mem_cons.1 hz with rfl|hz
 ·exact h1 y hy
 ·exact c y hy z hz
def Yu{x1 x2 y1 y2:List Row}(hx:lO (x1++x2))(hy:lO (y1++y2))(h1:∀ a ∈ x1,∀ b ∈ y2,pE a b)(h2:∀ a ∈ y1,∀ b ∈ x2,pE a b): ez (x1++y1)++ez (x2++y2)=ez ((x1++x2)++(y1++y2)):=by
 obtain⟨_,_,c⟩:=fC.1 hx;obtain⟨_,_,d⟩:=fC.1 hy;refine A8 ?_ ?_
 ·refine fC.2 ⟨sM _,sM _,fun a ha b hb=>?_⟩;have ha:=(lP _).subset ha;have hb:=(lP _).subset hb;rcases List.mem_append.1 ha with ha|ha<;>rcases List.mem_append.1 hb with hb|hb
  ·exact c a ha b hb
  ·exact h1 a ha b hb
  ·exact h2 a ha b hb
  ·exact d a ha b hb
 ·refine((lP _).append (lP _)).trans ?_;rw[aP,aP];refine List.Perm.append_left x1 ?_;rw[<-aP,<-aP];exact(List.perm_append_comm (l₁:=y1) (l₂:=x2)).append_right y2
def xL{l:List Row}(h:lO l){i j:Nat}(hij:i<=j)(hj:j<l.length): pE (l.getD i default) (l.getD j default):=by
 rw[ai,ai,aF hj,aF (by omega)];rcases Nat.lt_or_eq_of_le hij with h1|rfl
 ·exact List.pairwise_iff_getElem.1 h i j (by omega) hj h1
 ·exact aa4 _
def yD{l:List Row}{n:Nat}{x:Row}(h:x ∈ l.take n): ∃ i,i<n/\i<l.length/\l.getD i default=x:=by
 obtain⟨i,hi,rfl⟩:=bP h;rw[List.length_take]at hi;refine⟨i,by omega,by omega,?_⟩;rw[ai,aF (by omega),List.getElem_take];rfl
def yE{l:List Row}{n:Nat}{x:Row}(h:x ∈ l.drop n): ∃ i,n<=i/\i<l.length/\l.getD i default=x:=by
 obtain⟨i,hi,rfl⟩:=bP h;rw[List.length_drop]at hi;refine⟨n+i,by omega,by omega,?_⟩;rw[ai,aF (by omega),List.getElem_drop];rfl
def wz{a b:Row}(h:¬ iu a b<0): pE b a:=by show iu b a<=0;rw[Eu.anti a b];omega
def N7{a b:Row}(h:iu a b<0): pE a b:=by show iu a b<=0;omega
def aa7 {X Y : List Row} (hX : lO X) (hY : lO Y) {h s : Nat} (hs1 : s <= X.length) (Lu : s <= h) (Yv : h - s <= Y.length)
    (h1:s=0\/h-s=Y.length\/¬ iu (Y.getD (h-s) default) (X.getD (s-1) default)<0) (h2:s=X.length\/s=h\/iu (Y.getD (h-1-s) default) (X.getD s default)<0) :
    (∀ a ∈ X.take s,∀ b ∈ Y.drop (h-s),pE a b)/\(∀ a ∈ Y.take (h-s),∀ b ∈ X.drop s,pE a b):=by
 constructor
 ·intro a ha b hb;obtain⟨i,hi,Dh,rfl⟩:=yD ha;obtain⟨j,hj,uM,rfl⟩:=yE hb;rcases h1 with h1|h1|h1
  ·omega
  ·omega
  ·exact oJ (xL hX (show i<=s-1 by omega) (by omega)) (oJ (wz h1) (xL hY hj uM))
 ·intro a ha b hb;obtain⟨i,hi,Dh,rfl⟩:=yD ha;obtain⟨j,hj,uM,rfl⟩:=yE hb;rcases h2 with h2|h2|h2
  ·omega
  ·omega
  ·exact oJ (xL hY (show i<=h-1-s by omega) (by omega)) (oJ (N7 h2) (xL hX hj uM))
def aa8 {X Y : List Row} (hX : lO X) (hY : lO Y) {h s : Nat} (hs1 : s <= X.length) (Lu : s <= h) (Yv : h - s <= Y.length)
    (h1:s=0\/h-s=Y.length\/¬ iu (Y.getD (h-s) default) (X.getD (s-1) default)<0) (h2:s=X.length\/s=h\/iu (Y.getD (h-1-s) default) (X.getD s default)<0) :
    ez (X.take s++Y.take (h-s))++ez (X.drop s++Y.drop (h-s))=ez (X++Y):=by
 obtain⟨a,b⟩:=aa7 hX hY hs1 Lu Yv h1 h2;have:=Yu (x1:=X.take s) (x2:=X.drop s) (y1:=Y.take (h-s)) (y2:=Y.drop (h-s)) (by rw[dw];exact hX) (by rw[dw];exact hY) a b;rw[dw,dw]at this;exact this
def Ql{Y:List Row}(hY:lO Y){x:Row}{i:Nat}(hi:i<=Y.length)(h1:i=0\/pE (Y.getD (i-1) default) x)(h2:i=Y.length\/pE x (Y.getD i default)): Y.take i++x::Y.drop i=ez (x::Y):=by
 refine A8 (MC (by rw[dw];exact hY) (fun y hy=>?_) (fun y hy=>?_)) ?_
 ·obtain⟨j,hj,uM,rfl⟩:=yD hy;rcases h1 with h1|h1
  ·omega
  ·exact oJ (xL hY (show j<=i-1 by omega) (by omega)) h1
 ·obtain⟨j,hj,uM,rfl⟩:=yE hy;rcases h2 with h2|h2
  ·omega
  ·exact oJ h2 (xL hY hj uM)
 ·refine List.perm_middle.trans ?_;rw[dw]
def adw(x:Row): lO [x]:=by simp
def KR{X:List Row}{k:Nat}(hk:k<X.length): ez (X.take (k+1))=ez (X.getD k default::ez (X.take k)):=by
 refine Cg ?_;rw[iR,aF hk,ai,aF hk];refine(List.perm_append_comm).trans ?_;exact((lP _).symm.cons _)
