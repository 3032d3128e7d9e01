/- Part. -/
import Derived.Test.YthakfmmgnjpmdaaGreatW28
set_option linter.all false
set_option maxHeartbeats 4000000
namespace Go.Proofs.YthakfmmgnjpmdaaGreat
open Go.AM
set_option maxRecDepth 4000
def TB{a b:Int}: bI a b=true↔(a=nh a b\/a=0)/\(b=nh a b\/b=0):=by
 unfold bI nh;simp only[bO,decide_eq_true_eq];split<;>omega
def Sg(a b:aH)(h:bI a.kind b.kind=true): aF aD 223 [bD a,bD b] (I (nh a.kind b.kind)):=by
 have hf:=TB.1 h
 have c:=BL (nh a.kind b.kind) [a,b] (by simp) (fun i hi=>by
  rcases i with _|_|i
  ·simpa[AA]using hf.1
  ·simpa[AA]using hf.2
  ·simp at hi;omega)
 generalize pX _ _ _=n at c;unfold nh at c ⊢;simp only[aL,bf,b_,bD]at c;simp only[bD];by_cases h0:a.kind=0
 ·rw[if_pos h0]at c ⊢;refine aK zd ?_;intro Q aq au aA;repeat' first|refine ak ?_|refine yG c ?_|refine aj ?_ ?_<;>intro hw<;>try omega|fail
  all_goals first|exact aN rfl rfl|exact aP
 ·rw[if_neg h0]at c ⊢;refine aK zd ?_;intro Q aq au aA;repeat' first|refine ak ?_|refine yG c ?_|refine aj ?_ ?_<;>intro hw<;>try omega|fail
  all_goals first|exact aN rfl rfl|exact aP
def Qi(a b:aH)(h:bI a.kind b.kind=false): cK aD 223 [bD a,bD b] (.panic (qy 14)):=by
 have hf:¬ ((a.kind=nh a.kind b.kind\/a.kind=0)/\(b.kind=nh a.kind b.kind\/b.kind=0)):=fun h2=>by rw[TB.2 h2]at h;cases h
 have c:cK aD 171 [I (nh a.kind b.kind),aL [a,b]] (.panic (qy 14)):=by
  by_cases h1:a.kind=nh a.kind b.kind\/a.kind=0
  ·exact rO _ [a, b] (by simp) 1 (by simp) (by
    have h2:¬ (b.kind=nh a.kind b.kind\/b.kind=0):=fun h2=>hf ⟨h1,h2⟩;show AA _ b=false;simpa[AA]using h2)
  ·exact rO _ [a, b] (by simp) 0 (by simp) (by
    show AA _ a=false;simpa[AA]using h1)
 unfold nh at c;simp only[aL,bf,b_,bD]at c;simp only[bD];refine cK.of_nil (zd.go ?_) rfl rfl;unfold cj;intro Q aq au aA;by_cases h0:a.kind=0
 ·rw[if_pos h0]at c;repeat' first|refine ak ?_|refine Qc c ?_|refine aj ?_ ?_<;>intro hw<;>try omega|fail
  all_goals first|(simp only[go_sem,aA];done)|exact aP|rfl
 ·rw[if_neg h0]at c;repeat' first|refine ak ?_|refine Qc c ?_|refine aj ?_ ?_<;>intro hw<;>try omega|fail
  all_goals first|(simp only[go_sem,aA];done)|exact aP|rfl
def nw(a b:aH): decide (a=b)=(a.kind==b.kind && a.n==b.n && a.s==b.s):=by
 obtain⟨a1,a2,a3⟩:=a;obtain⟨b1,b2,b3⟩:=b;rw[aW];simp[and_assoc]
def N5(op:Int)(a b:aH): cK aD 177 [I op,bD a,bD b] (ri (nZ op a b)):=by
 have hS:nZ op a b=if bI a.kind b.kind=false then .err 14
  else if op=8 then .ok (dL (decide (a=b)))
  else if op=9 then .ok (dL (!(decide (a=b))))
  else if a.kind=3\/b.kind=3 then .err 14
  else if bU a || bU b then .ok v0
  else if op=10 then .ok (dL (decide (e7 a b<0)))
  else if op=11 then .ok (dL (decide (e7 a b<=0)))
  else if op=12 then .ok (dL (decide (0<e7 a b)))
  else .ok (dL (decide (0<=e7 a b))):=rfl
 rw[hS];clear hS;by_cases hf:bI a.kind b.kind=false
 ·rw[if_pos hf];have c:=Qi a b hf;simp only[bD]at c ⊢;refine cK.fS (kW.go ?_) rfl dS;unfold cj;intro Q aq au aA;repeat' first|refine ak ?_|refine Az c ?_|refine aj ?_ ?_<;>intro hw<;>try omega|fail
  all_goals first|exact fU rfl|exact aP
 rw[if_neg hf];have c:=Sg a b (by simpa using hf);have cc:=nu a b
 have hk:nh a.kind b.kind=3↔a.kind=3\/b.kind=3:=by
  have:bI a.kind b.kind=true:=by simpa using hf
  unfold nh;unfold bI at this;simp only[bO,decide_eq_true_eq]at this;split<;>omega
 have hb:=nw a b;have hn:(bU a || bU b)=true↔a.kind=0\/b.kind=0:=by simp[bU]
 generalize nh a.kind b.kind=o at c hk;generalize e7 a b=m at *;have ct:=fun x=>tN x;by_cases h8:op=8
 ·rw[if_pos h8,hb];subst h8;simp only[bD]at c cc ct ⊢;refine cK.fS (kW.go ?_) rfl dS;unfold cj;intro Q aq au aA;repeat' first|refine ak ?_|refine cW c ?_|refine cW (ct _) ?_|refine aj ?_ ?_<;>intro hw<;>try omega|fail
  all_goals first|exact aP|(refine jt rfl ?_;first|rfl|(simp[bD];done))
 rw[if_neg h8];by_cases h9:op=9
 ·rw[if_pos h9,hb];subst h9;simp only[bD]at c cc ct ⊢;refine cK.fS (kW.go ?_) rfl dS;unfold cj;intro Q aq au aA;repeat' first|refine ak ?_|refine cW c ?_|refine cW (ct _) ?_|refine aj ?_ ?_<;>intro hw<;>try omega|fail
  all_goals first|exact aP|(refine jt rfl ?_;first|rfl|(simp[bD];done))
 rw[if_neg h9];by_cases h3:a.kind=3\/b.kind=3
 ·rw[if_pos h3];have ho:=hk.2 h3;simp only[bD]at c cc ct ⊢;refine cK.fS (kW.go ?_) rfl dS;unfold cj;intro Q aq au aA;repeat' first|refine ak ?_|refine cW c ?_|refine Az (oK 14 (by decide)) ?_|refine aj ?_ ?_<;>intro hw<;>try omega|fail
  all_goals first|exact fU rfl|exact aP
 rw[if_neg h3];have ho:o≠3:=fun h=>h3 (hk.1 h);by_cases h0:(bU a || bU b)=true
 ·rw[if_pos h0];have TC:=hn.1 h0;simp only[bD]at c cc ct ⊢;refine cK.fS (kW.go ?_) rfl dS;unfold cj;intro Q aq au aA;repeat' first|refine ak ?_|refine cW c ?_|refine aj ?_ ?_<;>intro hw<;>try omega|fail
  all_goals first|exact jt rfl rfl|exact aP
 rw[if_neg h0];have TC:¬ (a.kind=0\/b.kind=0):=fun h=>h0 (hn.2 h);clear hn hk hb h3;simp only[bD]at c cc ct ⊢;refine cK.fS (kW.go ?_) rfl dS;unfold cj;intro Q aq au aA;repeat' first|refine ak ?_|refine cW c ?_|refine cW cc ?_|refine cW (ct _) ?_|refine aj ?_ ?_<;>intro hw<;>try omega|fail
 all_goals first
  | exact aP
  |(refine jt (u:=dL (decide (m<0))) ?_ ?_<;>first|rfl|(repeat' (first|rw[if_pos (by assumption)]|rw[if_neg (by assumption)]));done)
  |(refine jt (u:=dL (decide (m<=0))) ?_ ?_<;>first|rfl|(repeat' (first|rw[if_pos (by assumption)]|rw[if_neg (by assumption)]));done)
  |(refine jt (u:=dL (decide (0<m))) ?_ ?_<;>first|rfl|(repeat' (first|rw[if_pos (by assumption)]|rw[if_neg (by assumption)]));done)
  |(refine jt (u:=dL (decide (0<=m))) ?_ ?_<;>first|rfl|(repeat' (first|rw[if_pos (by assumption)]|rw[if_neg (by assumption)]));done)
def Sh(op:Int)(a b:aH): cK aD 176 [I op,bD a,bD b] (ri (kP op a b)):=by
 have hS:kP op a b=if !(bI a.kind 3) || !(bI b.kind 3)then .err 14
  else if a=dL (decide (op=15))\/b=dL (decide (op=15))then .ok (dL (decide (op=15)))
  else if bU a || bU b then .ok v0
  else .ok (dL (decide (op=14))):=rfl
 rw[hS];clear hS;have ct:=fun x=>tN x;by_cases hf:bI a.kind 3=true/\bI b.kind 3=true
 ·rw[if_neg (by simp[hf.1,hf.2])];have c:=Qg (k:=3) (by decide) a b hf.1 hf.2;have Iy:=nw a (dL (decide (op=15)));have k9:=nw b (dL (decide (op=15)));have cte:=tN (decide (op=15));have ct4:=tN (decide (op=14));generalize dL (decide (op=15))=e at *;generalize dL (decide (op=14))=e4 at *;generalize (bU a || bU b)=n at *;simp only[bD]at c cte ct4 ⊢;by_cases h1:a=e
  ·rw[if_pos (.inl h1)];rw[decide_eq_true h1]at Iy;refine cK.fS (qL.go ?_) rfl dS;unfold cj;intro Q aq au aA;repeat' first|simp (disch:=omega) only[go_sem,aq,au,aA,Iy.symm]|refine ak ?_|refine yG c ?_|refine cW cte ?_|refine aj ?_ ?_<;>intro hw<;>try omega|fail
   all_goals first|exact jt rfl rfl|exact aP
  ·rw[decide_eq_false h1]at Iy;by_cases h2:b=e
   ·rw[if_pos (.inr h2)];rw[decide_eq_true h2]at k9;refine cK.fS (qL.go ?_) rfl dS;unfold cj;intro Q aq au aA;repeat' first|simp (disch:=omega) only[go_sem,aq,au,aA,Iy.symm,k9.symm]|refine ak ?_|refine yG c ?_|refine cW cte ?_|refine aj ?_ ?_<;>intro hw<;>try omega|fail
    all_goals first|exact jt rfl rfl|exact aP
   ·rw[if_neg (fun h=>h.elim h1 h2)];rw[decide_eq_false h2]at k9;refine cK.fS (qL.go ?_) rfl dS;unfold cj;intro Q aq au aA;cases n
    all_goals
     repeat' first|simp (disch:=omega) only[go_sem,aq,au,aA,Iy.symm,k9.symm]|refine ak ?_|refine yG c ?_|refine cW cte ?_|refine cW ct4 ?_|refine aj ?_ ?_<;>intro hw<;>try omega|fail
    all_goals first|exact jt rfl rfl|exact aP
 ·rw[if_pos (by revert hf;cases bI a.kind 3<;>cases bI b.kind 3<;>simp)];have c:=Lt (k:=3) (by decide) a b (by revert hf;cases bI a.kind 3<;>cases bI b.kind 3<;>simp);simp only[bD]at c ⊢;refine cK.fS (qL.go ?_) rfl dS;unfold cj;intro Q aq au aA;repeat' first|refine ak ?_|refine Qc c ?_|refine aj ?_ ?_<;>intro hw<;>try omega|fail
  all_goals first|exact fU rfl|exact aP
def MC {n : FuncId} {args : List AV} {r : AV} {K G : Prop} (h : aF aD n args r) (k : K) (hg : aF aD n args r -> K -> G := by
    intro h k;with_reducible exact S7 h k):G:=hg h k
def qz(cs:List bQ)(row:List aH): AV:= .agg [aY cs,aL row]
def JI(cs:List bQ)(row:List aH)(s:aS): g_:=if k_ cs s<0 then .err 13 else .ok (row.getD (k_ cs s).toNat default)
def JJ(cs:List bQ)(row:List aH)(s:aS)(hl:cs.length=row.length)(qA:cs.length<=2 ^ 60): cK aD 170 [qz cs row,.str s] (ri (JI cs row s)):=by
 refine cK.fS (DK.go ?_) (by simp[qz]) dS;unfold cj;intro Q aq au aA;simp only[qz,aY,aL];repeat' first|refine ak ?_|refine aj ?_ ?_<;>intro hw<;>try omega|fail
 with_reducible refine aX [5,6,10,11,12,13,14,15,16,17,18,19,20,21,22,23,24] (fun q:Nat × List bE=>[(10,I q.1)]) (fun q=> .cells [.aG false EC (cs.map bW),.aG false EV (row.map bD)]:: .cells [I 0,I 0,.str []]::q.2) (fun q=>q.1<=cs.length/\ ∀ k,k<q.1->((cs.getD k default).name==s)=false) (fun q=>cs.length-q.1) (0,[]) ?_ ?_ ?_ ?_
 ·simp
 ·rfl
 ·exact at_
 rintro⟨i,τ⟩ r ⟨h1,h2⟩;dsimp only at h1 h2;by_cases hi:i<cs.length
 ·have gV:=fun h=>lK (p:=fun c:bQ=>c.name==s) hi h2 h;have dD:=fun h=>bx (q:=fun k=>((cs.getD k default).name==s)=false) h2 (i:=i) h;obtain⟨c,hc⟩:∃ c,cs.getD i default=c:=⟨_,rfl⟩;rw[hc]at gV dD;repeat' first|simp (disch:=omega) only[go_sem,aq,au,aA,hc]|refine ak ?_|refine aj ?_ ?_<;>intro hw<;>try omega|fail
  all_goals first
   | exact aP
   | (have e : k_ cs s = i := gV (by simp_all)
      refine jt (u:=row.getD i default) ?_ rfl;unfold JI;rw[e,if_neg (by omega)];rfl)
   | (refine ⟨(i + 1, τ ++ [.cells [.str c.name, I c.kind, .aG false EV (c.order.map bD)]]), ?_, ?_, by first | rfl | (simp [go_sem]; done), bK, at_⟩
      ·exact⟨by dsimp only;omega,dD (by simp_all)⟩
      ·dsimp only;omega)
 ·have e:k_ cs s = -1:=kQ (p:=fun c:bQ=>c.name==s) fun k hk=>h2 k (by omega);repeat' first|refine ak ?_|refine Az (oK 13 (by decide)) ?_|refine aj ?_ ?_<;>intro hw<;>try omega|fail
  all_goals first
   | exact aP
   | (refine fU ?_
      unfold JI;rw[e];rfl)
def JK(cs:List bQ)(row:List aH)(v:aH)(s:aS)(rs:List g_): pW cs row 2 v s rs=JI cs row s:=rfl
def MD(cs:List bQ)(row:List aH)(v:aH)(s:aS)(rs:List g_): pW cs row 1 v s rs = .ok v:=rfl
def sR{cs:List bQ}{row:List aH}{op:Int}{v:aH}{s:aS}{rs:List g_}(h1:op≠1)(h2:op≠2){e:Int}(h:rs.getD 0 default = .err e): pW cs row op v s rs = .err e:=by
 unfold pW;rw[if_neg h1,if_neg h2,h]
def ME{cs:List bQ}{row:List aH}{v:aH}{s:aS}{a:aH}: pW cs row 3 v s [.ok a]=zn a:=rfl
def Qj{cs:List bQ}{row:List aH}{v:aH}{s:aS}{a:aH}{r1 r2:g_}: pW cs row 16 v s [.ok a,r1,r2]=if bI a.kind 3=false then .err 14 else if a=dL true then r1 else r2:=rfl
def JL{cs:List bQ}{row:List aH}{op:Int}{v:aH}{s:aS}{a:aH}{e:Int}(h1:4<=op)(h2:op<=15): pW cs row op v s [.ok a,.err e] = .err e:=by
 unfold pW;rw[if_neg (by omega),if_neg (by omega)];show(if op=3 then _ else _)=_;rw[if_neg (by omega),if_neg (by omega)];rfl
def MG{cs:List bQ}{row:List aH}{op:Int}{v:aH}{s:aS}{a b:aH}(h1:4<=op)(h2:op<=15): pW cs row op v s [.ok a,.ok b]=HE op a b:=by
 unfold pW;rw[if_neg (by omega),if_neg (by omega)];show(if op=3 then _ else _)=_;rw[if_neg (by omega),if_neg (by omega)];rfl
def Fq(x:Expr): Prop:=dw x=true/\iG x/\fE x<=2 ^ 60
def yV{op:Int}{v:aH}{s:aS}{l:List Expr}(h:Fq (.mk op v s l)){y:Expr}(hy:y ∈ l): Fq y:=by
 obtain⟨h1,h2,h3⟩:=h;simp only[dw,aC,decide_eq_true_eq]at h1;simp only[iG]at h2;simp only[fE]at h3;have hne:l≠[]:=fun e=>by rw[e]at hy;cases hy
 have n1:op≠1:=fun e=>by subst e;have:=h1.1;simp[lB]at this;exact hne (by simpa using this)
 have n2:op≠2:=fun e=>by subst e;have:=h1.1;simp[lB]at this;exact hne (by simpa using this)
 have h4:=h1.2;rw[if_neg n1,if_neg n2]at h4;simp only[aC]at h4;have:=sP hy;exact⟨BK h4.2 hy,Fk h2.2.2.2.2 hy,by omega⟩
def Gj{op:Int}{v:aH}{s:aS}{l:List Expr}(h:Fq (.mk op v s l)): (l.length:Int)=lB op:=by
 obtain⟨h1,_,_⟩:=h;simp only[dw,aC,decide_eq_true_eq]at h1;exact h1.1
def En{cs:List bQ}{row:List aH}(hl:cs.length=row.length)(hrow:∀ w ∈ row,fC w){x:Expr}(h:Fq x): (mB cs row x).good:=Qb hl hrow x h.1 h.2.1
def JM(cs:List bQ)(row:List aH)(hl:cs.length=row.length)(qA:cs.length<=2 ^ 60)(hrow:∀ w ∈ row,fC w)(x:Expr): Fq x->cK aD 119 [qz cs row,aJ x] (ri (mB cs row x)):=by
 induction x using Expr.ind with
 | h op v s l ih =>
   intro hx;have vO:=Gj hx;have mX:∀ y ∈ l,cK aD 119 [qz cs row,aJ y] (ri (mB cs row y)):=fun y hy=>ih y hy (yV hx hy);have oL:∀ y ∈ l,(mB cs row y).good:=fun y hy=>En hl hrow (yV hx hy);clear ih hx;simp only[mB];rw[Aw];by_cases o1:op=1
   ·subst o1;rw[MD];simp only[aJ,qz,aY,aL];refine cK.fS (eH.go ?_) (by simp) dS;unfold cj;intro Q aq au aA;repeat' first|refine ak ?_|refine aj ?_ ?_<;>intro hw<;>try omega|fail
    all_goals first|exact jt rfl rfl|exact aP
   by_cases o2:op=2
   ·subst o2;rw[JK];have c:=JJ cs row s hl qA;simp only[aJ,qz,aY,aL]at c ⊢;refine cK.fS (eH.go ?_) (by simp) dS;unfold cj;intro Q aq au aA;repeat' first|refine ak ?_|refine Ay c (fun v_ oY=>?_) (fun e_ om=>?_)|refine aj ?_ ?_<;>intro hw<;>try omega|fail
    all_goals first|exact jt oY rfl|exact fU om|exact aP
   rcases lC vO o1 o2 with⟨rfl,hn⟩|⟨h4,CD,hn⟩|⟨rfl,hn⟩
   ·obtain ⟨y, rfl⟩ : ∃ y, l = [y] := by
     match l,hn with
     | [y],_=>exact⟨y,rfl⟩
    have c0:=mX y (by simp);have g0:=oL y (by simp);simp only[bf,b_];generalize mB cs row y=r0 at *;simp only[aJ,qz,aY,aL,bf,b_]at c0 ⊢;rw[aU]at c0;cases r0 with
    | err e =>
      have c0:cK aD 119 _ (.panic (qy e)):=c0;rw[sR (by decide) (by decide) rfl];refine cK.fS (eH.go ?_) (by simp) dS;unfold cj;intro Q aq au aA;repeat' first|refine ak ?_|refine Az c0 ?_|refine aj ?_ ?_<;>intro hw<;>try omega|fail
      all_goals first|exact fU rfl|exact fun _ _=>fU rfl|exact aP
    | ok a =>
      have c0:aF aD 119 _ (bD a):=c0;rw[ME];unfold zn;cases hf:bI a.kind 1 with
      | false =>
        have c1:=TA (k:=1) (by decide) a hf;rw[if_pos rfl];simp only[bD]at c0 c1;refine cK.fS (eH.go ?_) (by simp) dS;unfold cj;intro Q aq au aA;repeat' first|refine ak ?_|refine MC c0 ?_|refine Qc c1 ?_|refine aj ?_ ?_<;>intro hw<;>try omega|fail
        all_goals first|exact fU rfl|exact aP
      | true =>
        have c1:=Xr (k:=1) (by decide) a hf;have cS:=Qe 0 a.n (by unfold dJ;omega) g0.2.1;have hp:=Tv (Em (0-a.n));rw[if_neg (by decide)];generalize ew (0-a.n)=q at *;generalize numOf q=n at *;generalize fH q=m at *;simp only[bD]at c0 c1;generalize bU a=z at *;refine cK.fS (eH.go ?_) (by simp) dS;unfold cj;intro Q aq au aA;cases z
        all_goals
         repeat' first|refine ak ?_|refine MC c0 ?_|refine yG c1 ?_|refine cW cS ?_|refine Ay (rN n m) (fun v_ oY=>?_) (fun e_ om=>?_)|refine aj ?_ ?_<;>intro hw<;>try omega|fail
        all_goals first
         | exact jt rfl rfl
         | exact jt (hp.symm.trans oY) rfl
         | exact fU (hp.symm.trans om)
         | exact aP
   ·obtain ⟨y, z, rfl⟩ : ∃ y z, l = [y, z] := by
     match l,hn with
     | [y,z],_=>exact⟨y,z,rfl⟩
    have c0:=mX y (by simp);have g0:=oL y (by simp);have c1:=mX z (by simp);have g1:=oL z (by simp);simp only[bf,b_];generalize mB cs row y=r0 at *;generalize mB cs row z=r1 at *;simp only[aJ,qz,aY,aL,bf,b_]at c0 c1 ⊢;rw[aU]at c0 c1;clear mX oL;cases r0 with
    | err e =>
      have c0:cK aD 119 _ (.panic (qy e)):=c0;rw[sR (by omega) (by omega) rfl];refine cK.fS (eH.go ?_) (by simp) dS;unfold cj;intro Q aq au aA;repeat' first|refine ak ?_|refine Az c0 ?_|refine aj ?_ ?_<;>intro hw<;>try omega|fail
      all_goals first|exact fU rfl|exact fun _ _=>fU rfl|exact aP
    | ok a =>
      have c0:aF aD 119 _ (bD a):=c0;cases r1 with
      | err e =>
        have c1:cK aD 119 _ (.panic (qy e)):=c1;rw[JL h4 CD];simp only[bD]at c0;refine cK.fS (eH.go ?_) (by simp) dS;unfold cj;intro Q aq au aA;repeat' first|simp (disch:=omega) only[go_sem,aq,au,aA,Int.reduceToNat]|refine ak ?_|refine MC c0 ?_|refine Az c1 ?_|refine aj ?_ ?_<;>intro hw<;>try omega|fail
        all_goals first|exact fU rfl|exact fun _ _=>fU rfl|exact aP
      | ok b =>
        have c1:aF aD 119 _ (bD b):=c1;rw[MG h4 CD];have cs:=Xs op a b g0.2 g1.2;have cc:=N5 op a b;have ct:=Sh op a b;have hS:HE op a b=if op<=7 then mo op a b else if op<=13 then nZ op a b else kP op a b:=rfl
        rw[hS];clear hS g0 g1;generalize mo op a b=q1 at *;generalize nZ op a b=q2 at *;generalize kP op a b=q3 at *;simp only[bD]at c0 c1 cs cc ct;refine cK.fS (eH.go ?_) (by simp) dS;unfold cj;intro Q aq au aA;repeat' first|simp (disch:=omega) only[go_sem,aq,au,aA,Int.reduceToNat]|refine ak ?_|refine MC c0 ?_|refine MC c1 ?_|refine Ay cs (fun v_ oY=>?_) (fun e_ om=>?_)|refine Ay cc (fun v_ oY=>?_) (fun e_ om=>?_)|refine Ay ct (fun v_ oY=>?_) (fun e_ om=>?_)|refine aj ?_ ?_<;>intro hw<;>try omega|fail
        all_goals first
         |(rw[if_pos (by omega)];first|exact jt oY rfl|exact fU om)
         |(rw[if_neg (by omega),if_pos (by omega)];first|exact jt oY rfl|exact fU om)
         |(rw[if_neg (by omega),if_neg (by omega)];first|exact jt oY rfl|exact fU om)
         | exact aP
   ·obtain ⟨y, z, u, rfl⟩ : ∃ y z u, l = [y, z, u] := by
     match l,hn with
     | [y,z,u],_=>exact⟨y,z,u,rfl⟩
    have c0:=mX y (by simp);have c1:=mX z (by simp);have c2:=mX u (by simp);simp only[bf,b_];generalize mB cs row y=r0 at *;generalize mB cs row z=r1 at *;generalize mB cs row u=r2 at *;simp only[aJ,qz,aY,aL,bf,b_]at c0 c1 c2 ⊢;rw[aU]at c0 c1 c2;clear mX oL;cases r0 with
    | err e =>
      have c0:cK aD 119 _ (.panic (qy e)):=c0;rw[sR (by decide) (by decide) rfl];refine cK.fS (eH.go ?_) (by simp) dS;unfold cj;intro Q aq au aA;repeat' first|refine ak ?_|refine Az c0 ?_|refine aj ?_ ?_<;>intro hw<;>try omega|fail
      all_goals first|exact fU rfl|exact fun _ _=>fU rfl|exact aP
    | ok a =>
      have c0:aF aD 119 _ (bD a):=c0;rw[Qj];cases hf:bI a.kind 3 with
      | false =>
        have cf:=TA (k:=3) (by decide) a hf;rw[if_pos rfl];simp only[bD]at c0 cf;refine cK.fS (eH.go ?_) (by simp) dS;unfold cj;intro Q aq au aA;repeat' first|refine ak ?_|refine MC c0 ?_|refine Qc cf ?_|refine aj ?_ ?_<;>intro hw<;>try omega|fail
        all_goals first|exact fU rfl|exact aP
      | true =>
        have cf:=Xr (k:=3) (by decide) a hf;have ct:=tN true;have hb:=nw a (dL true);rw[if_neg (by decide)];by_cases ha:a=dL true
        ·rw[if_pos ha];rw[decide_eq_true ha]at hb;generalize dL true=e at *;simp only[bD]at c0 cf ct;refine cK.fS (eH.go ?_) (by simp) dS;unfold cj;intro Q aq au aA;repeat' first|simp (disch:=omega) only[go_sem,aq,au,aA,Int.reduceToNat,hb.symm]|refine ak ?_|refine MC c0 ?_|refine yG cf ?_|refine cW ct ?_|refine Ay c1 (fun v_ oY=>?_) (fun e_ om=>?_)|refine aj ?_ ?_<;>intro hw<;>try omega|fail
         all_goals first|exact jt oY rfl|exact fU om|exact fun _ _=>fU om|exact aP
        ·rw[if_neg ha];rw[decide_eq_false ha]at hb;generalize dL true=e at *;simp only[bD]at c0 cf ct;refine cK.fS (eH.go ?_) (by simp) dS;unfold cj;intro Q aq au aA;repeat' first|simp (disch:=omega) only[go_sem,aq,au,aA,Int.reduceToNat,hb.symm]|refine ak ?_|refine MC c0 ?_|refine yG cf ?_|refine cW ct ?_|refine Ay c2 (fun v_ oY=>?_) (fun e_ om=>?_)|refine aj ?_ ?_<;>intro hw<;>try omega|fail
         all_goals first|exact jt oY rfl|exact fU om|exact fun _ _=>fU om|exact aP
structure TO {α : Type} (c : α-> α->Int):Prop where
 eq:∀ a b,c a b=0↔a=b
 anti:∀ a b,c b a = - c a b
 trans:∀ a b d,c a b<0->c b d<0->c a d<0
def ZA: TO iW:=by
 refine⟨fun a b=>?_,fun a b=>?_,fun a b d=>?_⟩
 ·unfold iW;split<;>(try split)<;>constructor<;>intro h<;>omega
 ·unfold iW;split<;>split<;>(try split)<;>omega
 ·unfold iW;intro h1 h2;rw[if_pos]
  ·omega
  ·split at h1<;>split at h2<;>(try split at h1)<;>(try split at h2)<;>omega
def TO.lex{α β : Type}{c1 : α-> α->Int}{c2 : β-> β->Int}(h1:TO c1)(h2:TO c2): TO (fun(p q : α × β)=>if c1 p.1 q.1≠0 then c1 p.1 q.1 else c2 p.2 q.2):=by
 refine⟨fun a b=>?_,fun a b=>?_,fun a b d=>?_⟩
 ·obtain⟨a1,a2⟩:=a;obtain⟨b1,b2⟩:=b;dsimp only;by_cases h:c1 a1 b1=0
  ·rw[if_neg (by simpa using h),h2.eq,(h1.eq _ _).1 h];simp
  ·rw[if_pos h];constructor
   ·intro h';exact absurd h' h
   ·intro h';cases h';exact absurd ((h1.eq _ _).2 rfl) h
 ·rw[h1.anti,h2.anti];by_cases h:c1 a.1 b.1=0
  ·rw[if_neg (by omega),if_neg (by omega)]
  ·rw[if_pos (by omega),if_pos (by omega)]
 ·intro ha hb;by_cases h:c1 a.1 b.1=0
  ·rw[if_neg (by omega)]at ha;rw[(h1.eq _ _).1 h];by_cases h':c1 b.1 d.1=0
   ·rw[if_neg (by omega)]at hb ⊢;exact h2.trans _ _ _ ha hb
   ·rw[if_pos h']at hb ⊢;exact hb
  ·rw[if_pos h]at ha;by_cases h':c1 b.1 d.1=0
   ·rw[<-(h1.eq _ _).1 h',if_pos h];exact ha
   ·rw[if_pos h']at hb;have:=h1.trans _ _ _ ha hb;rw[if_pos (by omega)];exact this
def TO.map{α β : Type}{c : β-> β->Int}(h:TO c)(f : α-> β)(hf:∀ a b,f a=f b->a=b): TO (fun a b=>c (f a) (f b)) :=
 ⟨fun a b=>⟨fun e=>hf _ _ ((h.eq _ _).1 e),fun e=>(h.eq _ _).2 (by rw[e])⟩,fun a b=>h.anti _ _,fun a b d=>h.trans _ _ _⟩
def oq{α : Type}(c : α-> α->Int): List α->List α->Int
 | [],[]=>0
 | [],_::_=> -1
 | _::_,[]=>1
 | a::r,b::t=>if c a b≠0 then c a b else oq c r t
def TO.list{α : Type}{c : α-> α->Int}(h:TO c): TO (oq c):=by
 refine⟨fun a=>?_,fun a=>?_,fun a=>?_⟩
 ·induction a with
  | nil=>intro b;cases b<;>simp[oq]
  | cons x r ih =>
    intro b;cases b with
    | nil=>simp[oq]
    | cons y t =>
      simp only[oq];by_cases hx:c x y=0
      ·rw[if_neg (by simpa using hx),ih,(h.eq _ _).1 hx];simp
      ·rw[if_pos hx];constructor
       ·intro h';exact absurd h' hx
       ·intro h';cases h';exact absurd ((h.eq _ _).2 rfl) hx
 ·induction a with
  | nil=>intro b;cases b<;>simp[oq]
  | cons x r ih =>
    intro b;cases b with
    | nil=>simp[oq]
    | cons y t =>
      simp only[oq];rw[h.anti,ih];by_cases hx:c x y=0
      ·rw[if_neg (by omega),if_neg (by omega)]
      ·rw[if_pos (by omega),if_pos (by omega)]
 ·induction a with
  | nil =>
    intro b d hb hd;cases b with
    | nil=>simp[oq]at hb
    | cons y t =>
      cases d with
      | nil=>simp[oq]at hd
      | cons z u=>simp[oq]
  | cons x r ih =>
    intro b d hb hd;cases b with
    | nil=>simp[oq]at hb
    | cons y t =>
      cases d with
      | nil=>simp[oq]at hd
      | cons z u =>
        simp only[oq]at hb hd ⊢;by_cases hx:c x y=0
        ·rw[if_neg (by omega)]at hb;rw[(h.eq _ _).1 hx];by_cases hy:c y z=0
         ·rw[if_neg (by omega)]at hd ⊢;exact ih _ _ hb hd
         ·rw[if_pos hy]at hd ⊢;exact hd
        ·rw[if_pos hx]at hb;by_cases hy:c y z=0
         ·rw[<-(h.eq _ _).1 hy,if_pos hx];exact hb
         ·rw[if_pos hy]at hd;have:=h.trans _ _ _ hb hd;rw[if_pos (by omega)];exact this
def Lu(a b:UInt8): Int:=if a<b then -1 else if b<a then 1 else 0
def agm: TO Lu:=by
 have e:Lu=fun a b=>iW a.toNat b.toNat:=by
  funext a b
  unfold Lu iW;simp only[UInt8.lt_iff_toNat_lt,Int.ofNat_lt]
 rw[e];exact ZA.map (fun a:UInt8=>(a.toNat:Int)) (fun a b h=>UInt8.toNat_inj.1 (by omega))
def MH: ∀ a b:aS,Lib.compareBytes a b=oq Lu a b
 | [],[]=>rfl
 | [],_::_=>rfl
 | _::_,[]=>rfl
 | x :: r, y :: t => by
   simp only[Lib.compareBytes,oq,MH r t];unfold Lu;by_cases h1:x<y
   ·simp[h1]
   ·by_cases h2:y<x
    ·simp[h1,h2]
    ·simp[h1,h2]
def agn: TO e7:=by
 have e:e7=fun a b=>(fun(p q:Int × Int × aS)=>if iW p.1 q.1≠0 then iW p.1 q.1 else(fun(p q:Int × aS)=>if iW p.1 q.1≠0 then iW p.1 q.1 else oq Lu p.2 q.2) p.2 q.2) (a.kind,a.n,a.s) (b.kind,b.n,b.s):=by
  funext a b
  simp only[e7,MH]
 rw[e]
 exact(ZA.lex (ZA.lex agm.list)).map (fun a:aH=>(a.kind,a.n,a.s)) (fun a b h=>by
  obtain⟨a1,a2,a3⟩:=a;obtain⟨b1,b2,b3⟩:=b;simp only[Prod.mk.injEq]at h;obtain⟨rfl,rfl,rfl⟩:=h;rfl)
def Qk: ∀ a b:List aH,eY a b=oq e7 a b
 | [],[]=>rfl
 | [],_::_=>rfl
 | _::_,[]=>rfl
 | x::r,y::t=>by simp only[eY,oq,Qk r t]
def Eo: TO eY:=by
 have e:eY=oq e7:=by funext a b;exact Qk a b
 rw[e];exact agn.list
abbrev Row:=List aH
abbrev oZ(a b:Row): Prop:=eY a b<=0
def ZB(a:Row): oZ a a:=by show eY a a<=0;rw[(Eo.eq a a).2 rfl];omega
def oB{a b d:Row}(h1:oZ a b)(h2:oZ b d): oZ a d:=by
 have h1:eY a b<=0:=h1;have h2:eY b d<=0:=h2;show eY a d<=0;by_cases e1:eY a b=0
 ·rw[(Eo.eq _ _).1 e1];exact h2
 ·by_cases e2:eY b d=0
  ·rw[<-(Eo.eq _ _).1 e2];exact h1
  ·have:=Eo.trans a b d (by omega) (by omega);omega
def ZC{a b:Row}(h1:oZ a b)(h2:oZ b a): a=b:=by
 have h1:eY a b<=0:=h1;have h2:eY b a<=0:=h2;rw[Eo.anti a b]at h2;exact(Eo.eq _ _).1 (by omega)
abbrev lE(l:List Row): Prop:=l.Pairwise oZ
def JN: ∀ {l m:List Row},lE l->lE m->l.Perm m->l=m
 | [],m,_,_,h=>h.nil_eq
 | a :: l, m, hl, hm, h => by
   cases m with
   | nil=>exact absurd h.symm.nil_eq (by simp)
   | cons b m =>
     have hab:a=b:=by
      have h1:a ∈ b::m:=h.subset (by simp);have h2:b ∈ a::l:=h.symm.subset (by simp);rcases List.mem_cons.1 h1 with h1|h1
      ·exact h1
      ·rcases List.mem_cons.1 h2 with h2|h2
       ·exact h2.symm
       ·exact ZC ((er.1 hl).1 _ h2) ((er.1 hm).1 _ h1)
     subst hab;rw[JN (er.1 hl).2 (er.1 hm).2 (List.perm_cons a |>.1 h)]
def MI(x:Row)(l:List Row): (rh x l).Perm (x::l):=by
 induction l with
 | nil=>exact .refl _
 | cons y r ih =>
   simp only[rh];split
   ·exact .refl _
   ·exact(ih.cons y).trans (.swap x y r)
def ZD{x:Row}{l:List Row}(h:lE l): lE (rh x l):=by
 induction l with
 | nil=>simp[rh]
 | cons y r ih =>
   have h':=er.1 h;simp only[rh];split
   ·rename_i hx;have hx:eY x y<=0:=by omega
    refine er.2 ⟨fun z hz=>?_,h⟩;rcases List.mem_cons.1 hz with rfl|hz
    ·exact hx
    ·exact oB (b:=y) hx (h'.1 z hz)
   ·rename_i hx;have hyx:oZ y x:=by show eY y x<=0;rw[Eo.anti x y];omega
    refine er.2 ⟨fun z hz=>?_,ih h'.2⟩;have:=(MI x r).subset hz;rcases List.mem_cons.1 this with rfl|hz
    ·exact hyx
    ·exact h'.1 z hz
def BM: ∀(l acc:List Row),(nK l acc).Perm (l++acc)
 | [],acc=> .refl _
 | x :: r, acc => by
   simp only[nK];refine(BM r (rh x acc)).trans ?_;refine((MI x acc).append_left r).trans ?_;exact List.perm_middle
def MJ: ∀(l:List Row) {acc:List Row},lE acc->lE (nK l acc)
 | [],acc,h=>h
 | x :: r, acc, h => by
   simp only[nK];exact MJ r (ZD h)
def dV(l:List Row): List Row:=nK l []
def sx(l:List Row): lE (dV l):=MJ l .nil
def lF(l:List Row): (dV l).Perm l:=by
 have:=BM l [];rwa[bH]at this
def AB{l m:List Row}(h:lE m)(hp:m.Perm l): m=dV l:=JN h (sx l) (hp.trans (lF l).symm)
def BN{l m:List Row}(h:l.Perm m): dV l=dV m:=AB (sx l) ((lF l).trans h)
def Ep{l:List Row}(h:lE l): dV l=l:=(AB h (.refl _)).symm
def nW(l:List Row): (dV l).length=l.length:=(lF l).length_eq
def MK{s1 s2:List Row}{x:Row}(h:lE (s1++s2))(h1:∀ y ∈ s1,oZ y x)(h2:∀ y ∈ s2,oZ x y): lE (s1++x::s2):=by
 obtain⟨a,b,c⟩:=eR.1 h;refine eR.2 ⟨a,er.2 ⟨h2,b⟩,fun y hy z hz=>?_⟩;rcases List.mem_cons.1 hz with rfl|hz
 ·exact h1 y hy
 ·exact c y hy z hz
def Xt{x1 x2 y1 y2:List Row}(hx:lE (x1++x2))(hy:lE (y1++y2))(h1:∀ a ∈ x1,∀ b ∈ y2,oZ a b)(h2:∀ a ∈ y1,∀ b ∈ x2,oZ a b): dV (x1++y1)++dV (x2++y2)=dV ((x1++x2)++(y1++y2)):=by
 obtain⟨_,_,c⟩:=eR.1 hx;obtain⟨_,_,d⟩:=eR.1 hy;refine AB ?_ ?_
 ·refine eR.2 ⟨sx _,sx _,fun a ha b hb=>?_⟩;have ha:=(lF _).subset ha;have hb:=(lF _).subset hb;rcases List.mem_append.1 ha with ha|ha<;>rcases List.mem_append.1 hb with hb|hb
  ·exact c a ha b hb
  ·exact h1 a ha b hb
  ·exact h2 a ha b hb
  ·exact d a ha b hb
 ·refine((lF _).append (lF _)).trans ?_;rw[aR,aR];refine List.Perm.append_left x1 ?_;rw[<-aR,<-aR];exact(List.perm_append_comm (l₁:=y1) (l₂:=x2)).append_right y2
def wV{l:List Row}(h:lE l){i j:Nat}(hij:i<=j)(hj:j<l.length): oZ (l.getD i default) (l.getD j default):=by
 rw[aB,aB,aE hj,aE (by omega)];rcases Nat.lt_or_eq_of_le hij with h1|rfl
 ·exact List.pairwise_iff_getElem.1 h i j (by omega) hj h1
 ·exact ZB _
def xV{l:List Row}{n:Nat}{x:Row}(h:x ∈ l.take n): ∃ i,i<n/\i<l.length/\l.getD i default=x:=by
 obtain⟨i,hi,rfl⟩:=bT h;rw[List.length_take]at hi;refine⟨i,by omega,by omega,?_⟩;rw[aB,aE (by omega),List.getElem_take];rfl
def xW{l:List Row}{n:Nat}{x:Row}(h:x ∈ l.drop n): ∃ i,n<=i/\i<l.length/\l.getD i default=x:=by
 obtain⟨i,hi,rfl⟩:=bT h;rw[List.length_drop]at hi;refine⟨n+i,by omega,by omega,?_⟩;rw[aB,aE (by omega),List.getElem_drop];rfl
def vy{a b:Row}(h:¬ eY a b<0): oZ b a:=by show eY b a<=0;rw[Eo.anti a b];omega
def Ov{a b:Row}(h:eY a b<0): oZ a b:=by show eY a b<=0;omega
def ZE {X Y : List Row} (hX : lE X) (hY : lE Y) {h s : Nat} (hs1 : s <= X.length) (Dh : s <= h) (Xu : h - s <= Y.length)
    (h1:s=0\/h-s=Y.length\/¬ eY (Y.getD (h-s) default) (X.getD (s-1) default)<0) (h2:s=X.length\/s=h\/eY (Y.getD (h-1-s) default) (X.getD s default)<0) :
    (∀ a ∈ X.take s,∀ b ∈ Y.drop (h-s),oZ a b)/\(∀ a ∈ Y.take (h-s),∀ b ∈ X.drop s,oZ a b):=by
 constructor
 ·intro a ha b hb;obtain⟨i,hi,Io,rfl⟩:=xV ha;obtain⟨j,hj,sJ,rfl⟩:=xW hb;rcases h1 with h1|h1|h1
  ·omega
  ·omega
  ·exact oB (wV hX (show i<=s-1 by omega) (by omega)) (oB (vy h1) (wV hY hj sJ))
 ·intro a ha b hb;obtain⟨i,hi,Io,rfl⟩:=xV ha;obtain⟨j,hj,sJ,rfl⟩:=xW hb;rcases h2 with h2|h2|h2
  ·omega
  ·omega
  ·exact oB (wV hY (show i<=h-1-s by omega) (by omega)) (oB (Ov h2) (wV hX hj sJ))
def ZG {X Y : List Row} (hX : lE X) (hY : lE Y) {h s : Nat} (hs1 : s <= X.length) (Dh : s <= h) (Xu : h - s <= Y.length)
    (h1:s=0\/h-s=Y.length\/¬ eY (Y.getD (h-s) default) (X.getD (s-1) default)<0) (h2:s=X.length\/s=h\/eY (Y.getD (h-1-s) default) (X.getD s default)<0) :
    dV (X.take s++Y.take (h-s))++dV (X.drop s++Y.drop (h-s))=dV (X++Y):=by
 obtain⟨a,b⟩:=ZE hX hY hs1 Dh Xu h1 h2;have:=Xt (x1:=X.take s) (x2:=X.drop s) (y1:=Y.take (h-s)) (y2:=Y.drop (h-s)) (by rw[di];exact hX) (by rw[di];exact hY) a b;rw[di,di]at this;exact this
def Ql{Y:List Row}(hY:lE Y){x:Row}{i:Nat}(hi:i<=Y.length)(h1:i=0\/oZ (Y.getD (i-1) default) x)(h2:i=Y.length\/oZ x (Y.getD i default)): Y.take i++x::Y.drop i=dV (x::Y):=by
 refine AB (MK (by rw[di];exact hY) (fun y hy=>?_) (fun y hy=>?_)) ?_
 ·obtain⟨j,hj,sJ,rfl⟩:=xV hy;rcases h1 with h1|h1
  ·omega
  ·exact oB (wV hY (show j<=i-1 by omega) (by omega)) h1
 ·obtain⟨j,hj,sJ,rfl⟩:=xW hy;rcases h2 with h2|h2
  ·omega
  ·exact oB h2 (wV hY hj sJ)
 ·refine List.perm_middle.trans ?_;rw[di]
def abz(x:Row): lE [x]:=by simp
def Lv{X:List Row}{k:Nat}(hk:k<X.length): dV (X.take (k+1))=dV (X.getD k default::dV (X.take k)):=by
 refine BN ?_;rw[iO,aE hk,aB,aE hk];refine(List.perm_append_comm).trans ?_;exact((lF _).symm.cons _)
