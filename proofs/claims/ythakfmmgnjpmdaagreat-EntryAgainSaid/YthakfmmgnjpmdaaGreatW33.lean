/- Part. -/
import Derived.Test.YthakfmmgnjpmdaaGreatW32
set_option linter.all false
set_option maxHeartbeats 4000000
namespace Go.Proofs.YthakfmmgnjpmdaaGreat
open Go.AM
set_option maxRecDepth 4000
def Lz(k n:Int)(s:aS): bD ⟨k,n,s⟩ = .agg [I k,I n,.str s]:=rfl
def jJ {p q : AV} {τ : ae} {R r : g_} {v : AV} {e : Int} (hp : AV.bG [p, q] = true) (h : R = r) (hv : v = bD (valOf r)) (he : e = fH r) :
    ∃ r0 vW tq,Out.ret (oneOf [v])=Out.ret r0/\bE.cells [p,q,I e]:: τ = bE.cells vW::tq/\View (.dead::tq) r0 (bD (valOf R))/\bn (.dead::tq) vW [p,q,I (fH R)]:=by
 subst h;subst hv;subst he;refine bZ (View.refl _ (xD _)) (bn.refl ?_);simpa[AV.bG,AV.cQ]using hp
def nx(cs:List bQ)(row:List aH): AV.bG [.aG false EC (cs.map bW),.aG false EV (row.map bD)]=true:=by
 have:=d_ cs row 0;simp only[nM,aY,aL,AV.bG,AV.cQ,Bool.and_true]at this ⊢;exact this
def Vk(cs:List bQ)(row:List aH)(op:Int)(a b:aH)(ha:og a)(hb:og b): rP cs row 202 [I op,bD a,bD b] (mo op a b):=by
 obtain⟨k,n,s⟩:=a;obtain⟨k',n',s'⟩:=b;obtain⟨hn,hs⟩:=ha;obtain⟨hn',hs'⟩:=hb;dsimp only at hn hs hn' hs';have cf:=tP cs row;have cn:=EF cs row op n n' hn hn';obtain⟨R,hR⟩:∃ R,mo op ⟨k,n,s⟩ ⟨k',n',s'⟩=R:=⟨_,rfl⟩;rw[hR];obtain⟨A,hA⟩:∃ A,mb op n n'=A:=⟨_,rfl⟩;rw[hA]at cn;unfold rP at *;refine br.bM (CZ.go ?_) rfl (d_ _ _ _);unfold cj;intro Q aq au aA;simp only[nM,aY,aL,Lz]at *;repeat' first|refine ak ?_|refine cW (jI _ _) ?_|refine bh (cf _) ?_|refine bh cn ?_|refine aj ?_ ?_<;>intro hw<;>try omega|fail
 all_goals first
  |(refine jJ (r:= .err 14) (nx cs row) (hR.symm.trans ?_) rfl rfl;unfold mo iL bU;clear hR cf cn aq au aA;simp_all;done)
  | (refine jJ (r := .err 5) (nx cs row) (hR.symm.trans ?_) rfl rfl; have h9 : 40 < s.length + s'.length := by omega
     unfold mo iL bU;clear hR cf cn aq au aA;simp_all;done)
  |(refine jJ (r:= .ok v0) (nx cs row) (hR.symm.trans ?_) rfl rfl;unfold mo iL bU;clear hR cf cn aq au aA;simp_all;done)
  |(refine jJ (r:=A) (nx cs row) (hR.symm.trans ?_) rfl rfl;unfold mo iL bU;clear hR cf cn aq au aA;simp_all;done)
  | (refine jJ (r := .ok ⟨2, 0, s ++ s'⟩) (nx cs row) (hR.symm.trans ?_) rfl rfl; have h9 : ¬ 40 < s.length + s'.length := by omega
     unfold mo iL bU;clear hR cf cn aq au aA;simp_all;done)
  | skip
def LA(cs:List bQ)(row:List aH)(op:Int)(a b:aH)(h1:8<=op)(h2:op<=13): rP cs row 203 [I op,bD a,bD b] (nZ op a b):=by
 have cc:=o8 a b;have cf:=tP cs row;have ct:=zp;have hD:=nw a b;obtain⟨k,n,s⟩:=a;obtain⟨k',n',s'⟩:=b;obtain⟨R,hR⟩:∃ R,nZ op ⟨k,n,s⟩ ⟨k',n',s'⟩=R:=⟨_,rfl⟩;rw[hR];unfold rP at *;refine br.bM (yf.go ?_) rfl (d_ _ _ _);unfold cj;intro Q aq au aA;simp only[nM,aY,aL,Lz]at *;repeat' first|refine ak ?_|refine cW (jI _ _) ?_|refine cW (ct _) ?_|refine bh (cf _) ?_|refine aj ?_ ?_<;>intro hw<;>try omega|fail
 all_goals first
  |(refine jJ (r:= .err 14) (nx cs row) (hR.symm.trans ?_) rfl rfl;unfold nZ bU;rw[hD];clear cf cc ct hR aq au aA;simp_all;done)
  |(refine jJ (r:= .ok v0) (nx cs row) (hR.symm.trans ?_) rfl rfl;unfold nZ bU;rw[hD];clear cf cc ct hR aq au aA;simp_all;done)
  |(refine jJ (r:= .ok (dL _)) (nx cs row) (hR.symm.trans ?_) rfl rfl;unfold nZ bU;rw[hD];clear cf cc ct hR aq au aA;simp_all;done)
  | skip
def Qv(cs:List bQ)(row:List aH)(op:Int)(a b:aH)(h1:14<=op)(h2:op<=15): rP cs row 204 [I op,bD a,bD b] (kP op a b):=by
 have cf:=tP cs row;have ct:=zp;have hD:=fun z=>nw a z;have hE:=fun z=>nw b z;obtain⟨k,n,s⟩:=a;obtain⟨k',n',s'⟩:=b;obtain⟨R,hR⟩:∃ R,kP op ⟨k,n,s⟩ ⟨k',n',s'⟩=R:=⟨_,rfl⟩;rw[hR];have hD:∀ z:aH,(aH.mk k n s=z)=((k==z.kind && n==z.n && s==z.s)=true):=fun z=>by rw[<-hD z,decide_eq_true_eq]
 have hE:∀ z:aH,(aH.mk k' n' s'=z)=((k'==z.kind && n'==z.n && s'==z.s)=true):=fun z=>by rw[<-hE z,decide_eq_true_eq]
 obtain rfl|rfl:op=14\/op=15:=by omega
 all_goals
  unfold rP at *;refine br.bM (Ab.go ?_) rfl (d_ _ _ _);unfold cj;intro Q aq au aA;simp only[nM,aY,aL,Lz]at *;repeat' first|refine ak ?_|refine cW (jI _ _) ?_|refine cW (ct _) ?_|refine bh (cf _) ?_|refine aj ?_ ?_<;>intro hw<;>try omega|fail
  all_goals first
   |(refine jJ (r:= .err 14) (nx cs row) (hR.symm.trans ?_) rfl rfl;unfold kP bU;simp only[hD,hE];clear cf ct hD hE hR aq au aA;simp_all[dL];done)
   |(refine jJ (r:= .ok v0) (nx cs row) (hR.symm.trans ?_) rfl rfl;unfold kP bU;simp only[hD,hE];clear cf ct hD hE hR aq au aA;simp_all[dL];done)
   |(refine jJ (r:= .ok (dL _)) (nx cs row) (hR.symm.trans ?_) rfl rfl;unfold kP bU;simp only[hD,hE];clear cf ct hD hE hR aq au aA;simp_all[dL];done)
   | skip
end Go.Proofs.YthakfmmgnjpmdaaGreat
namespace Go.Proofs.YthakfmmgnjpmdaaGreat
open Go.AM
set_option maxRecDepth 4000
def mE{e:Int}(h:(g_.err e).good): e≠0:=by
 have h:e=2\/e=5\/e=13\/e=14\/e=15\/e=16:=h;omega
def qB(v:aH): valOf (.ok v)=v:=rfl
def qC(v:aH): fH (.ok v)=0:=rfl
def oD(e:Int): valOf (.err e)=v0:=rfl
def oE(e:Int): fH (.err e)=e:=rfl
def c9(a:aH): bD a = .agg [I a.kind,I a.n,.str a.s]:=rfl
def adr(cs:List bQ)(s:aS): k_ cs s = -1\/(0<=k_ cs s/\(k_ cs s).toNat<cs.length):=by
 have h:k_ cs s<cs.length:=HI;unfold k_ iT at *;split
 ·rename_i i hi;rw[hi]at h;dsimp only at h;exact .inr ⟨by omega,by omega⟩
 ·exact .inl rfl
def HP(cs:List bQ)(row:List aH)(hl:cs.length=row.length)(qA:cs.length<=2 ^ 60)(hrow:∀ w ∈ row,fC w)(x:Expr): Fq x->rP cs row 148 [aJ x] (mB cs row x):=by
 induction x using Expr.ind with
 | h op v s l ih =>
   intro hx;have vO:=Gj hx;have mX:∀ y ∈ l,rP cs row 148 [aJ y] (mB cs row y):=fun y hy=>ih y hy (yV hx hy);have oL:∀ y ∈ l,(mB cs row y).good:=fun y hy=>En hl hrow (yV hx hy);clear ih hx;simp only[mB];rw[Aw];have cf:=tP cs row;have hp:=nx cs row;by_cases o1:op=1
   ·subst o1;rw[MD];unfold rP at *;refine br.bM (dU.go ?_) (by simp[AV.bG]) (d_ _ _ _);unfold cj;intro Q aq au aA;simp only[aJ,nM,aY,aL];repeat' first|refine ak ?_|refine aj ?_ ?_<;>intro hw<;>try omega|fail
    all_goals first|exact jJ (r:= .ok v) hp rfl rfl rfl|exact aP
   by_cases o2:op=2
   ·subst o2;rw[JK];have c:=Hx cs s qA;have hA:=adr cs s;have hu:JI cs row s=if k_ cs s<0 then .err 13 else .ok (row.getD (k_ cs s).toNat default):=rfl
    rw[hu];clear hu;generalize k_ cs s=i at *;rcases hA with rfl|⟨h0,h1⟩
    ·rw[if_pos (by decide)];unfold rP at *;refine br.bM (dU.go ?_) (by simp[AV.bG]) (d_ _ _ _);unfold cj;intro Q aq au aA;simp only[aJ,nM,aY,aL]at *;repeat' first|refine ak ?_|refine cW c ?_|refine bh (cf _) ?_|refine aj ?_ ?_<;>intro hw<;>try omega|fail
     all_goals first|exact jJ (r:= .err 13) hp rfl rfl rfl|exact aP
    ·obtain⟨j,rfl⟩:∃ j:Nat,i=j:=⟨i.toNat,by omega⟩;rw[if_neg (by omega)];have h1:j<row.length:=by omega
     rw[show (j:Int).toNat=j from rfl];unfold rP at *;refine br.bM (dU.go ?_) (by simp[AV.bG]) (d_ _ _ _);unfold cj;intro Q aq au aA;simp only[aJ,nM,aY,aL]at *;repeat' first|refine ak ?_|refine cW c ?_|refine bh (cf _) ?_|refine aj ?_ ?_<;>intro hw<;>try omega|fail
     all_goals first|exact jJ (r:= .ok (row.getD j default)) hp rfl rfl rfl|exact aP|skip
   rcases lC vO o1 o2 with⟨rfl,hn⟩|⟨h4,CD,hn⟩|⟨rfl,hn⟩
   ·obtain ⟨y, rfl⟩ : ∃ y, l = [y] := by
     match l,hn with
     | [y],_=>exact⟨y,rfl⟩
    clear vO hn;have c0:=mX y (by simp);have g0:=oL y (by simp);clear mX oL;simp only[bf,b_];generalize mB cs row y=r0 at *;unfold rP at *;cases r0 with
    | err e =>
      have he:=mE g0;rw[sR (by decide) (by decide) rfl];simp only[aJ,nM,aY,aL,bf,b_,qB,qC,oD,oE]at c0 ⊢;rw[aU]at c0;refine br.bM (dU.go ?_) (by simp[AV.bG]) (d_ _ _ _);unfold cj;intro Q aq au aA;repeat' first|simp (disch:=omega) only[go_sem,aq,au,aA,Int.reduceToNat]|refine ak ?_|refine bh c0 ?_|refine aj ?_ ?_<;>intro hw<;>try omega|fail
      all_goals first
       | exact jJ (r:= .err e) hp rfl rfl rfl
       | exact aP
       | skip
    | ok a =>
      rw[ME];have cn:=EF cs row 5 0 a.n (by unfold dJ;omega) g0.2.1;have hu:mb 5 0 a.n=ew (0-a.n):=rfl;rw[hu]at cn;obtain⟨A,hA⟩:∃ A,ew (0-a.n)=A:=⟨_,rfl⟩;rw[hA]at cn;clear hu g0;obtain⟨R,hR⟩:∃ R,zn a=R:=⟨_,rfl⟩;rw[hR];unfold rP at *;simp only[aJ,nM,aY,aL,bf,b_,qB,qC,oD,oE]at c0 cf cn ⊢;rw[aU]at c0;simp only[bD]at c0;refine br.bM (dU.go ?_) (by simp[AV.bG]) (d_ _ _ _);unfold cj;intro Q aq au aA;repeat' first|simp (disch:=omega) only[go_sem,aq,au,aA,Int.reduceToNat]|refine ak ?_|refine bh c0 ?_|refine bh (cf _) ?_|refine bh cn ?_|refine aj ?_ ?_<;>intro hw<;>try omega|fail
      all_goals first
       |(refine jJ (r:= .ok a) hp (hR.symm.trans ?_) rfl rfl;unfold zn bU bI;clear hR hA cn cf c0 aq au aA;simp_all;done)
       |(refine jJ (r:= .err 14) hp (hR.symm.trans ?_) rfl rfl;unfold zn bU bI;clear hR hA cn cf c0 aq au aA;simp_all;done)
       |(refine jJ (r:=A) hp (hR.symm.trans ?_) rfl rfl;unfold zn bU bI;clear hR cn cf c0 aq au aA;simp_all;done)
       | exact aP
       | skip
   ·obtain ⟨y, z, rfl⟩ : ∃ y z, l = [y, z] := by
     match l,hn with
     | [y,z],_=>exact⟨y,z,rfl⟩
    clear vO hn;have c0:=mX y (by simp);have g0:=oL y (by simp);have c1:=mX z (by simp);have g1:=oL z (by simp);clear mX oL;simp only[bf,b_];generalize mB cs row y=r0 at *;generalize mB cs row z=r1 at *;unfold rP at *;cases r0 with
    | err e =>
      have he:=mE g0;rw[sR (by omega) (by omega) rfl];simp only[aJ,nM,aY,aL,bf,b_,qB,qC,oD,oE]at c0 ⊢;rw[aU]at c0;refine br.bM (dU.go ?_) (by simp[AV.bG]) (d_ _ _ _);unfold cj;intro Q aq au aA;repeat' first|simp (disch:=omega) only[go_sem,aq,au,aA,Int.reduceToNat]|refine ak ?_|refine bh c0 ?_|refine aj ?_ ?_<;>intro hw<;>try omega|fail
      all_goals first
       | exact jJ (r:= .err e) hp rfl rfl rfl
       | exact aP
       | skip
    | ok a =>
      cases r1 with
      | err e =>
        have he:=mE g1;rw[JL h4 CD];simp only[aJ,nM,aY,aL,bf,b_,qB,qC,oD,oE]at c0 c1 ⊢;rw[aU]at c0 c1;simp only[bD]at c0;refine br.bM (dU.go ?_) (by simp[AV.bG]) (d_ _ _ _);unfold cj;intro Q aq au aA;repeat' first|simp (disch:=omega) only[go_sem,aq,au,aA,Int.reduceToNat]|refine ak ?_|refine bh c0 ?_|refine bh c1 ?_|refine aj ?_ ?_<;>intro hw<;>try omega|fail
        all_goals first
         | exact jJ (r:= .err e) hp rfl rfl rfl
         | exact aP
         | skip
      | ok b =>
        rw[MG h4 CD];have Gk:=Vk cs row op a b g0.2 g1.2;have Qw:=fun h h'=>LA cs row op a b h h';have Qx:=fun h=>Qv cs row op a b h CD;have hS:HE op a b=if op<=7 then mo op a b else if op<=13 then nZ op a b else kP op a b:=rfl
        rw[hS];clear hS g0 g1;generalize mo op a b=q1 at *;generalize nZ op a b=q2 at *;generalize kP op a b=q3 at *;unfold rP at *;simp only[aJ,nM,aY,aL,bf,b_,qB,qC,oD,oE]at c0 c1 Gk Qw Qx ⊢;rw[aU]at c0 c1;simp only[c9 a,c9 b]at c0 c1 Gk Qw Qx;by_cases h7:op<=7
        ·rw[if_pos h7];clear Qw Qx;refine br.bM (dU.go ?_) (by simp[AV.bG]) (d_ _ _ _);unfold cj;intro Q aq au aA;repeat' first|simp (disch:=omega) only[go_sem,aq,au,aA,Int.reduceToNat]|refine ak ?_|refine bh c0 ?_|refine bh c1 ?_|refine bh Gk ?_|refine aj ?_ ?_<;>intro hw<;>try omega|fail
         all_goals first
          | exact jJ (r:=q1) hp rfl rfl rfl
          | exact aP
          | skip
        rw[if_neg h7];by_cases Tt:op<=13
        ·rw[if_pos Tt];have Qw:=Qw (by omega) Tt;clear Gk Qx;refine br.bM (dU.go ?_) (by simp[AV.bG]) (d_ _ _ _);unfold cj;intro Q aq au aA;repeat' first|simp (disch:=omega) only[go_sem,aq,au,aA,Int.reduceToNat]|refine ak ?_|refine bh c0 ?_|refine bh c1 ?_|refine bh Qw ?_|refine aj ?_ ?_<;>intro hw<;>try omega|fail
         all_goals first
          | exact jJ (r:=q2) hp rfl rfl rfl
          | exact aP
          | skip
        rw[if_neg Tt];have Qx:=Qx (by omega);clear Gk Qw;refine br.bM (dU.go ?_) (by simp[AV.bG]) (d_ _ _ _);unfold cj;intro Q aq au aA;repeat' first|simp (disch:=omega) only[go_sem,aq,au,aA,Int.reduceToNat]|refine ak ?_|refine bh c0 ?_|refine bh c1 ?_|refine bh Qx ?_|refine aj ?_ ?_<;>intro hw<;>try omega|fail
        all_goals first
         | exact jJ (r:=q3) hp rfl rfl rfl
         | exact aP
         | skip
   ·obtain ⟨y, z, u, rfl⟩ : ∃ y z u, l = [y, z, u] := by
     match l,hn with
     | [y,z,u],_=>exact⟨y,z,u,rfl⟩
    clear vO hn;have c0:=mX y (by simp);have g0:=oL y (by simp);have c1:=mX z (by simp);have c2:=mX u (by simp);clear mX oL;simp only[bf,b_];generalize mB cs row y=r0 at *;generalize mB cs row z=r1 at *;generalize mB cs row u=r2 at *;unfold rP at *;cases r0 with
    | err e =>
      have he:=mE g0;rw[sR (by decide) (by decide) rfl];simp only[aJ,nM,aY,aL,bf,b_,qB,qC,oD,oE]at c0 ⊢;rw[aU]at c0;refine br.bM (dU.go ?_) (by simp[AV.bG]) (d_ _ _ _);unfold cj;intro Q aq au aA;repeat' first|simp (disch:=omega) only[go_sem,aq,au,aA,Int.reduceToNat]|refine ak ?_|refine bh c0 ?_|refine aj ?_ ?_<;>intro hw<;>try omega|fail
      all_goals first
       | exact jJ (r:= .err e) hp rfl rfl rfl
       | exact aP
       | skip
    | ok a =>
      rw[Qj];have ct:=zp true;have hb:=nw a (dL true);simp only[aJ,nM,aY,aL,bf,b_,qB,qC,oD,oE]at c0 c1 c2 cf ⊢;rw[aU]at c0 c1 c2;cases hf:bI a.kind 3 with
      | false =>
        rw[if_pos rfl];simp only[c9 a]at c0;refine br.bM (dU.go ?_) (by simp[AV.bG]) (d_ _ _ _);unfold cj;intro Q aq au aA;repeat' first|simp (disch:=omega) only[go_sem,aq,au,aA,Int.reduceToNat,hf]|refine ak ?_|refine cW (jI _ _) ?_|refine bh c0 ?_|refine bh (cf _) ?_|refine aj ?_ ?_<;>intro hw<;>try omega|fail
        all_goals first
         | exact jJ (r:= .err 14) hp rfl rfl rfl
         | exact aP
         | skip
      | true =>
        rw[if_neg (by decide)];by_cases ha:a=dL true
        ·rw[if_pos ha];rw[decide_eq_true ha]at hb;clear ha;generalize dL true=e at *;simp only[c9 a,c9 e]at c0 ct;refine br.bM (dU.go ?_) (by simp[AV.bG]) (d_ _ _ _);unfold cj;intro Q aq au aA;repeat' first|simp (disch:=omega) only[go_sem,aq,au,aA,Int.reduceToNat,hf,hb.symm]|refine ak ?_|refine cW (jI _ _) ?_|refine bh c0 ?_|refine cW ct ?_|refine bh c1 ?_|refine aj ?_ ?_<;>intro hw<;>try omega|fail
         all_goals first
          | exact jJ (r:=r1) hp rfl rfl rfl
          | exact aP
          | skip
        ·rw[if_neg ha];rw[decide_eq_false ha]at hb;clear ha;generalize dL true=e at *;simp only[c9 a,c9 e]at c0 ct;refine br.bM (dU.go ?_) (by simp[AV.bG]) (d_ _ _ _);unfold cj;intro Q aq au aA;repeat' first|simp (disch:=omega) only[go_sem,aq,au,aA,Int.reduceToNat,hf,hb.symm]|refine ak ?_|refine cW (jI _ _) ?_|refine bh c0 ?_|refine cW ct ?_|refine bh c2 ?_|refine aj ?_ ?_<;>intro hw<;>try omega|fail
         all_goals first
          | exact jJ (r:=r2) hp rfl rfl rfl
          | exact aP
          | skip
end Go.Proofs.YthakfmmgnjpmdaaGreat
namespace Go.Proofs.YthakfmmgnjpmdaaGreat
open Go.AM
set_option maxRecDepth 4000
def BS(x:Expr)(cs:List bQ)(row:List aH)(hx:iG x)(hz:fE x<=2 ^ 60)(qA:cs.length<=2 ^ 60)(hr:row.length<=2 ^ 40)(hrow:∀ w ∈ row,og w): aF aD 91 [aJ x,aY cs,aL row] (vT (gN x cs row)):=by
 have c1:=zh x hx hz;have c2:=MO row (by omega) hrow;by_cases h1:dw x=true/\cs.length=row.length/\qw row=true
 case neg =>
  rw[EA (fun h=>h1 h),lV];generalize dw x=b1 at *;generalize qw row=b2 at *;rw[aU]at c1 ⊢;simp only[aY,aL]at c1 c2 ⊢;refine aK vJ ?_;intro Q aq au aA;repeat' first|refine ak ?_|refine aj ?_ ?_<;>intro hw<;>try omega|fail
  all_goals first
   | exact bt rfl rfl
   |(exfalso;refine h1 ⟨?_,?_,?_⟩<;>first|omega|(simp_all;done))
   | skip
 obtain⟨qZ,hl,rD⟩:=h1;rw[JR qZ hl rD];have hg:∀ w ∈ row,fC w:=fun w hw=>⟨bg.1 rD w hw,hrow w hw⟩;have dI:=HP cs row hl qA hg x ⟨qZ,hx,hz⟩;have oL:=En hl hg (x:=x) ⟨qZ,hx,hz⟩;generalize mB cs row x=r at *;clear hg hrow;rw[qZ]at c1;rw[rD]at c2;unfold rP at dI;cases r with
 | ok v =>
   rw[qX];rw[aU]at c1 dI ⊢;simp only[nM,aY,aL,qB,qC,c9 v]at c1 c2 dI ⊢;refine aK vJ ?_;intro Q aq au aA;repeat' first|refine ak ?_|refine bh dI ?_|refine aj ?_ ?_<;>intro hw<;>try omega|fail
   all_goals first|exact bt rfl rfl|exact aP|skip
 | err e =>
   have he:=mE oL;rw[lV];rw[aU]at c1 dI ⊢;simp only[nM,aY,aL,oD,oE]at c1 c2 dI ⊢;refine aK vJ ?_;intro Q aq au aA;repeat' first|refine ak ?_|refine bh dI ?_|refine aj ?_ ?_<;>intro hw<;>try omega|fail
   all_goals first|exact bt rfl rfl|exact aP|skip
end Go.Proofs.YthakfmmgnjpmdaaGreat
namespace Go.Proofs.YthakfmmgnjpmdaaGreat
open Go.AM
set_option maxRecDepth 4000
def oN{σ : ae}{x y B:Bool}(h:B=y)(hx:x=y): ∃ r0,Out.ret (oneOf [AV.bool x])=Out.ret r0/\View σ r0 (AV.bool B):=by
 subst h;subst hx;exact aN rfl rfl
def Sl(t:Test)(v a b:aH): aF aD 198 [bS t,bD v,bD a,bD b] (.bool (mP t v a b)):=by
 have c1:=o8 v a;have c2:=o8 v b;have hD:=nw v a;obtain⟨B,hB⟩:∃ B,mP t v a b=B:=⟨_,rfl⟩;rw[hB];obtain⟨m1,h1⟩:∃ m,e7 v a=m:=⟨_,rfl⟩;obtain⟨m2,h2⟩:∃ m,e7 v b=m:=⟨_,rfl⟩;rw[h1]at c1;rw[h2]at c2;obtain⟨k,ta,tb,lo,hi⟩:=t;simp only[bS,c9 v,c9 a,c9 b]at c1 c2 ⊢;refine aK K7 ?_;intro Q aq au aA;repeat' first|refine ak ?_|refine cW c1 ?_|refine cW c2 ?_|refine aj ?_ ?_<;>intro hw<;>try omega|fail
 all_goals first
  |(refine oN (hB.symm) ?_;unfold mP bU;rw[h1,h2,hD];clear c1 c2 hB hD aq au aA;simp_all;done)
  | (refine oN (hB.symm) ?_; unfold mP bU; rw [h1, h2, hD]; clear c1 c2 hB hD aq au aA; have h9 : decide (0 < m1) = false := decide_eq_false (by omega)
     rw[h9];clear h9 h1 h2;simp_all;done)
  | exact aP
  | skip
end Go.Proofs.YthakfmmgnjpmdaaGreat
namespace Go.Proofs.YthakfmmgnjpmdaaGreat
open Go.AM
set_option maxRecDepth 4000
def JT{c:Cell}{v:aH}{cs:List bQ}{row:List aH}(h:¬ (gW c=true/\bp v=true/\cs.length=row.length/\qw row=true)): lD c v cs row=(false,2):=by
 unfold lD;rw[if_neg];intro h2;simp only[aC,decide_eq_true_eq]at h2;exact h ⟨h2.1.1.1,h2.1.1.2,h2.1.2,h2.2⟩
def Gm{c:Cell}{v:aH}{cs:List bQ}{row:List aH}(h1:gW c=true)(h2:bp v=true)(h3:cs.length=row.length)(h4:qw row=true): lD c v cs row=oh cs row v c.any c.neg c.tests:=by
 unfold lD;rw[if_pos (by simp[h1,h2,h3,h4])]
section
variable {α : Type} (τ : List α) (x y z w : α)
def XH: τ++[x]++[y]++[z] = τ++[x,y,z]:=by simp
def XI: τ++[x]++[y] = τ++[x,y]:=by simp
def BU: (τ++[x]++[y]++[z])[τ.length]? = some x:=by rw[XH];simp
def BV: (τ++[x]++[y]++[z])[τ.length+1]? = some y:=by rw[XH,bR (by omega)];simp
def BW: (τ++[x]++[y]++[z])[τ.length+1+1]? = some z:=by rw[XH,bR (by omega),show τ.length+1+1 - τ.length=2 by omega];rfl
def xZ: (τ++[x]++[y])[τ.length]? = some x:=by rw[XI];simp
def zq: (τ++[x]++[y])[τ.length+1]? = some y:=by rw[XI,bR (by omega)];simp
def BX: (τ++[x]++[y]++[z]).set (τ.length+1+1) w = τ++[x]++[y]++[w]:=by rw[XH,XH,eC _ _ (by omega),show τ.length+1+1 - τ.length=2 by omega];rfl
def zu: (τ++[x]++[y]).set (τ.length+1) w = τ++[x]++[w]:=by rw[XI,XI,eC _ _ (by omega),show τ.length+1 - τ.length=1 by omega];rfl
end
def CM(p:Bool × Int): AV:= .bJ [.bool p.1,I p.2]
def jM{σ : ae}{b:Bool}{e:Int}{p:Bool × Int}(h:p=(b,e)): ∃ r0,Out.ret (oneOf [AV.bool b,I e])=Out.ret r0/\View σ r0 (CM p):=by
 subst h;exact bt rfl rfl
def Sm(c:Cell)(v:aH)(cs:List bQ)(row:List aH)(hc:pI c)(hv:og v)(qA:cs.length<=2 ^ 60)(hr:row.length<=2 ^ 40)(hrow:∀ w ∈ row,og w): aF aD 146 [bY c,bD v,aY cs,aL row] (CM (lD c v cs row)):=by
 have c1:=zj c hc.ok;have c2:aF aD 145 [.agg [I v.kind,I v.n,.str v.s]] (.bool (bp v)):=pB v.kind v.n v.s (by have:=hv.2;omega);have c3:=MO row (by omega) hrow;by_cases h1:gW c=true/\bp v=true/\cs.length=row.length/\qw row=true
 case neg =>
  rw[JT h1];generalize gW c=b1 at *;generalize bp v=b2 at *;generalize qw row=b3 at *;simp only[bY,gG,bD,aY,aL]at c1 c2 c3 ⊢;refine aK z8 ?_;intro Q aq au aA;repeat' first|refine ak ?_|refine cW c1 ?_|refine cW c2 ?_|refine cW c3 ?_|refine aj ?_ ?_<;>intro hw<;>try omega|fail
  all_goals first
   | exact jM rfl
   |(exfalso;refine h1 ⟨?_,?_,?_,?_⟩<;>first|omega|(simp_all;done))
   | skip
 obtain⟨hrc,CK,hl,rD⟩:=h1;rw[Gm hrc CK hl rD];rw[hrc]at c1;rw[CK]at c2;rw[rD]at c3;clear hrc CK rD;have hA:=fun k (hk:k<c.tests.length)=>BS (c.tests.getD k default).a cs row (hc.2 _ (aO hk)).1.1 (by have:=(hc.2 _ (aO hk)).1.2;omega) qA hr hrow;have hB:=fun k (hk:k<c.tests.length)=>BS (c.tests.getD k default).b cs row (hc.2 _ (aO hk)).2.1 (by have:=(hc.2 _ (aO hk)).2.2;omega) qA hr hrow;have gA:=fun k (hk:k<c.tests.length)=>lp (cs:=cs) hrow (hc.2 _ (aO hk)).1.1;have gB:=fun k (hk:k<c.tests.length)=>lp (cs:=cs) hrow (hc.2 _ (aO hk)).2.1;have hlen:=hc.1;clear hc hrow;obtain⟨any,neg,L⟩:=c;dsimp only at *;obtain⟨R,hR⟩:∃ R,oh cs row v any neg L=R:=⟨_,rfl⟩;rw[hR];simp only[bY,gG,aY,aL,c9 v]at c1 c2 c3 ⊢;refine aK z8 ?_;intro Q aq au aA;repeat' first|refine ak ?_|refine cW c1 ?_|refine cW c2 ?_|refine cW c3 ?_|refine aj ?_ ?_<;>intro hw<;>try omega|fail
 with_reducible refine aX [8,9,10,11,12,13,14,35,36,37,38,39,40,41,42,43,44,45,46,47,48,49,50,51,52,53,54,55,56,57,58,59,60,61,62,63,64,65,66,67,68,69,70,71,72,73,74,75,76,77,78,79,80,81,82,83,84,85,86,87,88,89,90,91,92,93,94,95,96,97,98,99,100] (fun q:Nat × List bE=>[(10,I q.1)]) (fun q=> .cells [.bool any,.bool neg,.aG false ES (L.map bS)]:: .cells [I v.kind,I v.n,.str v.s]::q.2) (fun q=>q.1<=L.length/\oh cs row v any neg (L.drop q.1)=R) (fun q=>L.length-q.1) (0,[]) ?_ ?_ ?_ ?_
 ·exact⟨by simp,by rw[e8];exact hR⟩
 ·rfl
 ·exact at_
 rintro⟨i,τ⟩ r ⟨h1,h2⟩;dsimp only at h1 h2;clear hR;by_cases hi:i<L.length
 ·have cA:=hA i hi;have cB:=hB i hi;have gA:=gA i hi;have gB:=gB i hi;clear hA hB;rw[fZ hi]at h2;obtain⟨t,ht⟩:∃ t,L.getD i default=t:=⟨_,rfl⟩;rw[ht]at cA cB gA gB h2;have hT:(if(kH cs row v t).2≠0 then(false,(kH cs row v t).2)else if(kH cs row v t).1=true then(!neg,0)else oh cs row v any neg (L.drop (i+1)))=R:=h2;clear h2
  have F:∀ p,kH cs row v t=p->(p.2≠0->R=(false,p.2))/\(p=(true,0)->R=(!neg,0))/\(p=(false,0)->oh cs row v any neg (L.drop (i+1))=R):=by
   rintro p hp;rw[hp]at hT;refine⟨fun h=>?_,fun h=>?_,fun h=>?_⟩
   ·rw[if_pos h]at hT;exact hT.symm
   ·subst h;exact hT.symm
   ·subst h;exact hT
  clear hT;have f1:=fun x=>BJ t v.kind x;have f2:=Sl t v;have hk:kH cs row v t=kH cs row v t:=rfl
  conv at hk=>rhs;unfold kH
  generalize gN t.a cs row=ra at *;generalize gN t.b cs row=rb at *;rw[aU]at cA cB;simp only[bS,cH,aY,aL,c9]at cA cB f1 f2;cases ra with
  | err e =>
    have he:=mE gA;rw[lV]at cA;dsimp only at hk;simp only[c9]at cA;repeat' first|simp (disch:=omega) only[go_sem,aq,au,aA,ht,BU,BV,BW,xZ,zq,BX,zu]|refine ak ?_|refine cW cA ?_|refine aj ?_ ?_<;>intro hw<;>try omega|fail
    all_goals first|exact jM (F _ hk |>.1 he)|exact aP|skip
  | ok a =>
    rw[qX]at cA;simp only[c9]at cA;dsimp only at hk;have f1a:=f1 a.kind;by_cases h6:t.kind=6
    ·rw[if_pos h6]at hk;cases rb with
     | err e =>
       have he:=mE gB;rw[lV]at cB;dsimp only at hk;simp only[c9]at cB;repeat' first|simp (disch:=omega) only[go_sem,aq,au,aA,ht,BU,BV,BW,xZ,zq,BX,zu]|refine ak ?_|refine cW cA ?_|refine cW cB ?_|refine aj ?_ ?_<;>intro hw<;>try omega|fail
       all_goals first|exact jM (F _ hk |>.1 he)|exact aP|skip
     | ok b =>
       rw[qX]at cB;simp only[c9]at cB;dsimp only at hk;have f1b:=f1 b.kind;have f2:=f2 a b;unfold tL at hk;clear f1 gA gB;generalize kE t v.kind a.kind=p1 at *;generalize kE t v.kind b.kind=p2 at *;generalize mP t v a b=p3 at *;cases p1 with
       | false =>
         have hk:kH cs row v t=(false,14):=by cases p2<;>exact hk
         have hk:kH cs row v t=(false,14):=hk;have G:=F _ hk;clear F hk;repeat' first|simp (disch:=omega) only[go_sem,aq,au,aA,ht,BU,BV,BW,xZ,zq,BX,zu]|refine ak ?_|refine cW cA ?_|refine cW cB ?_|refine cW f1a ?_|refine cW f1b ?_|refine cW f2 ?_|refine aj ?_ ?_<;>intro hw<;>try omega|fail
         all_goals first
          | exact jM (G.1 (by decide))
          | exact aP
          | skip
       | true =>
         cases p2 with
         | false =>
           have hk:kH cs row v t=(false,14):=hk;have G:=F _ hk;clear F hk;repeat' first|simp (disch:=omega) only[go_sem,aq,au,aA,ht,BU,BV,BW,xZ,zq,BX,zu]|refine ak ?_|refine cW cA ?_|refine cW cB ?_|refine cW f1a ?_|refine cW f1b ?_|refine cW f2 ?_|refine aj ?_ ?_<;>intro hw<;>try omega|fail
           all_goals first
            | exact jM (G.1 (by decide))
            | exact aP
            | skip
         | true =>
           cases p3 with
           | true =>
             have hk:kH cs row v t=(true,0):=hk;have G:=F _ hk;clear F hk;repeat' first|simp (disch:=omega) only[go_sem,aq,au,aA,ht,BU,BV,BW,xZ,zq,BX,zu]|refine ak ?_|refine cW cA ?_|refine cW cB ?_|refine cW f1a ?_|refine cW f1b ?_|refine cW f2 ?_|refine aj ?_ ?_<;>intro hw<;>try omega|fail
             all_goals first
              | exact jM (G.2.1 rfl)
              | exact aP
              | skip
           | false =>
             have hk:kH cs row v t=(false,0):=hk;have G:=F _ hk;clear F hk;repeat' first|simp (disch:=omega) only[go_sem,aq,au,aA,ht,BU,BV,BW,xZ,zq,BX,zu]|refine ak ?_|refine cW cA ?_|refine cW cB ?_|refine cW f1a ?_|refine cW f1b ?_|refine cW f2 ?_|refine aj ?_ ?_<;>intro hw<;>try omega|fail
             all_goals first
              |(refine⟨(i+1,τ++[.cells [I t.kind,I t.a.op,I t.a.v.kind,I t.a.v.n,.str t.a.v.s,.str t.a.s,.aG false EX (t.a.l.map aJ),I t.b.op,I t.b.v.kind,I t.b.v.n,.str t.b.v.s,.str t.b.s,.aG false EX (t.b.l.map aJ),.bool t.lo,.bool t.hi],.cells [I a.kind,I a.n,.str a.s],.cells [I b.kind,I b.n,.str b.s]]),⟨by dsimp only;omega,G.2.2 rfl⟩,by dsimp only;omega,by first|rfl|(simp[go_sem];done),bK,at_⟩)
              | exact aP
              | skip
    ·rw[if_neg h6]at hk;have f2:=f2 a a;unfold tL at hk;clear f1 gA gB cB;generalize kE t v.kind a.kind=p1 at *;generalize mP t v a a=p3 at *;cases p1 with
     | false =>
       have hk:kH cs row v t=(false,14):=hk;have G:=F _ hk;clear F hk;repeat' first|simp (disch:=omega) only[go_sem,aq,au,aA,ht,BU,BV,BW,xZ,zq,BX,zu]|refine ak ?_|refine cW cA ?_|refine cW f1a ?_|refine cW f2 ?_|refine aj ?_ ?_<;>intro hw<;>try omega|fail
       all_goals first
        | exact jM (G.1 (by decide))
        | exact aP
        | skip
     | true =>
       cases p3 with
       | true =>
         have hk:kH cs row v t=(true,0):=hk;have G:=F _ hk;clear F hk;repeat' first|simp (disch:=omega) only[go_sem,aq,au,aA,ht,BU,BV,BW,xZ,zq,BX,zu]|refine ak ?_|refine cW cA ?_|refine cW f1a ?_|refine cW f2 ?_|refine aj ?_ ?_<;>intro hw<;>try omega|fail
         all_goals first
          | exact jM (G.2.1 rfl)
          | exact aP
          | skip
       | false =>
         have hk:kH cs row v t=(false,0):=hk;have G:=F _ hk;clear F hk;repeat' first|simp (disch:=omega) only[go_sem,aq,au,aA,ht,BU,BV,BW,xZ,zq,BX,zu]|refine ak ?_|refine cW cA ?_|refine cW f1a ?_|refine cW f2 ?_|refine aj ?_ ?_<;>intro hw<;>try omega|fail
         all_goals first
          |(refine⟨(i+1,τ++[.cells [I t.kind,I t.a.op,I t.a.v.kind,I t.a.v.n,.str t.a.v.s,.str t.a.s,.aG false EX (t.a.l.map aJ),I t.b.op,I t.b.v.kind,I t.b.v.n,.str t.b.v.s,.str t.b.s,.aG false EX (t.b.l.map aJ),.bool t.lo,.bool t.hi],.cells [I a.kind,I a.n,.str a.s],.cells [I a.kind,I a.n,.str a.s]]),⟨by dsimp only;omega,G.2.2 rfl⟩,by dsimp only;omega,by first|rfl|(simp[go_sem];done),bK,at_⟩)
          | exact aP
          | skip
 ·rw[a_ (by omega)]at h2;have h2:(any || neg,0)=R:=h2;repeat' first|refine ak ?_|refine aj ?_ ?_<;>intro hw<;>try omega|fail
  all_goals first
   | exact jM (h2.symm.trans (by simp_all))
   | exact aP
   | skip
end Go.Proofs.YthakfmmgnjpmdaaGreat
namespace Go.Proofs.YthakfmmgnjpmdaaGreat
open Go.AM
set_option maxRecDepth 4000
def AJ(l:List aH)(v:aH)(hl:l.length<=2 ^ 60): aF aD 261 [aL l,bD v] (.bool (l.any fun x=>x==v)):=by
 have c:=qu l v hl;rw[<-uF];generalize iT _ l=i at *;simp only[aL,c9]at c ⊢;refine aK xy ?_;intro Q aq au aA;repeat' first|refine ak ?_|refine cW c ?_|refine aj ?_ ?_<;>intro hw<;>try omega|fail
 all_goals exact aN rfl rfl
def Vl{v:aH}(h:bp v=true): (v==v0)=bU v:=by
 unfold bU;rw[aW,beq_iff_eq,decide_eq_true_eq];exact⟨fun e=>by rw[e];rfl,fun e=>Ax h e⟩
def yY(t:Test)(a b:aH): List aH:=if t.kind=6 then [a,b]else [a]
def Sn(t:Test)(v a b:aH)(ha:bp a=true)(hb:bp b=true)(h6:¬ t.kind=6->b=a)(hk6:1<=t.kind/\t.kind<=6): aF aD 216 [bS t,bD v,aL (yY t a b)] (.bool (mP t v a b)):=by
 have c0:=AJ (yY t a b) v0 (by unfold yY;split<;>simp)
 have ads:((yY t a b).any fun x=>x==v0)=(bU a || bU b):=by
  unfold yY;split
  ·simp[Vl ha,Vl hb]
  ·rename_i h;rw[h6 h];simp[Vl ha]
 rw[ads]at c0;have c1:=nu v a;have c2:=nu v b;have hD:=nw v a;obtain⟨B,hB⟩:∃ B,mP t v a b=B:=⟨_,rfl⟩;rw[hB];obtain⟨m1,h1⟩:∃ m,e7 v a=m:=⟨_,rfl⟩;obtain⟨m2,h2⟩:∃ m,e7 v b=m:=⟨_,rfl⟩;rw[h1]at c1;rw[h2]at c2;obtain⟨N,hN⟩:∃ N,(bU a || bU b)=N:=⟨_,rfl⟩;rw[hN]at c0;clear ha hb ads;obtain⟨k,ta,tb,lo,hi⟩:=t;unfold yY at *;dsimp only at *;by_cases hk:k=6
 ·rw[if_pos hk]at *;simp only[bS,aL,bf,b_,c9 v,c9 a,c9 b,c9 v0]at c0 c1 c2 ⊢;have e0:AV.agg [I v0.kind,I v0.n,.str v0.s]=AV.agg [I 0,I 0,.str []]:=rfl;rw[e0]at c0;refine aK Ac ?_;intro Q aq au aA;repeat' first|simp (disch:=omega) only[go_sem,aq,au,aA,Int.reduceToNat]|refine ak ?_|refine cW c0 ?_|refine cW c1 ?_|refine cW c2 ?_|refine aj ?_ ?_<;>intro hw<;>try omega|fail
  all_goals first
   |(refine oN (hB.symm) ?_;unfold mP;rw[h1,h2,hD,Bool.or_assoc,hN];unfold bU;clear c0 c1 c2 hB hD hN aq au aA;simp_all;done)
   | (refine oN (hB.symm) ?_; unfold mP; rw [h1, h2, hD, Bool.or_assoc, hN]; unfold bU; have h9 : decide (0 < m1) = false := decide_eq_false (by omega)
      rw[h9];clear h9 c0 c1 c2 hB hD hN h1 h2 aq au aA;simp_all;done)
   | exact aP
   | skip
 ·have hba:=h6 hk;subst hba;rw[if_neg hk]at *;simp only[bS,aL,bf,b_,c9 v,c9 b,c9 v0]at c0 c1 c2 ⊢;have e0:AV.agg [I v0.kind,I v0.n,.str v0.s]=AV.agg [I 0,I 0,.str []]:=rfl;rw[e0]at c0;clear h6;refine aK Ac ?_;intro Q aq au aA;repeat' first|simp (disch:=omega) only[go_sem,aq,au,aA,Int.reduceToNat]|refine ak ?_|refine cW c0 ?_|refine cW c1 ?_|refine cW c2 ?_|refine aj ?_ ?_<;>intro hw<;>try omega|fail
  all_goals first
   |(refine oN (hB.symm) ?_;unfold mP;rw[h1,hD,Bool.or_assoc,hN];unfold bU;clear c0 c1 c2 hB hD hN aq au aA;simp_all;done)
   | exact aP
   | skip
end Go.Proofs.YthakfmmgnjpmdaaGreat
namespace Go.Proofs.YthakfmmgnjpmdaaGreat
open Go.AM
set_option maxRecDepth 4000
def HQ(c:Cell)(v:aH)(cs:List bQ)(row:List aH): Bool:=gW c && bp v && decide (cs.length=row.length) && qw row
def TN(b:Bool): (iz b=0)↔b=true:=by cases b<;>simp[iz]
def lq{σ : ae}{x y:Int}(h:y=x): ∃ r0,Out.ret (oneOf [I x])=Out.ret r0/\View σ r0 (I y):=by
 subst h;exact aN rfl rfl
def ZX(c:Cell)(v:aH)(cs:List bQ)(row:List aH)(hc:pI c)(hv:og v)(qA:cs.length<=2 ^ 60)(hr:row.length<=2 ^ 40)(hrow:∀ w ∈ row,og w): aF aD 167 [bY c,bD v,aY cs,aL row] (I (if HQ c v cs row=true then 0 else 2)):=by
 have c1:=BE c hc.ok;have c2:aF aD 115 [.agg [I v.kind,I v.n,.str v.s]] (I (iz (bp v))):=jT v.kind v.n v.s hv.1.1 hv.1.2;have cv:=fun k (hk:k<row.length)=>(show aF aD 115 [.agg [I (row.getD k default).kind,I (row.getD k default).n,.str (row.getD k default).s]] (I (iz (bp (row.getD k default)))) from jT _ _ _ (hrow _ (aO hk)).1.1 (hrow _ (aO hk)).1.2);clear hc hv hrow;obtain⟨R,hR⟩:∃ R,HQ c v cs row=R:=⟨_,rfl⟩;rw[hR];by_cases h1:gW c=true/\bp v=true/\cs.length=row.length
 case neg =>
  have e:R=false:=by
   rw[<-hR];unfold HQ;cases h:(gW c && bp v && decide (cs.length=row.length))with
   | false=>rfl
   | true=>simp only[aC,decide_eq_true_eq]at h;exact absurd ⟨h.1.1,h.1.2,h.2⟩ h1
  rw[e,if_neg (by decide)];have e1:=TN (gW c);have e2:=TN (bp v);have h1:¬ (iz (gW c)=0/\iz (bp v)=0/\cs.length=row.length):=fun h=>h1 ⟨e1.1 h.1,e2.1 h.2.1,h.2.2⟩;clear e1 e2 cv hR;generalize iz (gW c)=x1 at *;generalize iz (bp v)=x2 at *;simp only[bY,gG,c9,aY,aL]at c1 c2 ⊢;refine aK FX ?_;intro Q aq au aA;repeat' first|refine ak ?_|refine cW c1 ?_|refine cW c2 ?_|refine aj ?_ ?_<;>intro hw<;>try omega|fail
  all_goals first
   | exact lq rfl
   |(exfalso;exact h1 ⟨by omega,by omega,by omega⟩)
   | skip
 obtain⟨hrc,CK,hl⟩:=h1;have Cn:qw row=R:=by rw[<-hR];unfold HQ;simp[hrc,CK,hl]
 rw[hrc]at c1;rw[CK]at c2;have z:iz true=0:=rfl;rw[z]at c1 c2;clear hR z;simp only[bY,gG,c9,aY,aL]at c1 c2 ⊢;refine aK FX ?_;intro Q aq au aA;repeat' first|refine ak ?_|refine cW c1 ?_|refine cW c2 ?_|refine aj ?_ ?_<;>intro hw<;>try omega|fail
 with_reducible refine aX [8,10,28,29,30,31,32,33,34,35] (fun q:Nat × List bE=>[(28,I q.1)]) (fun q=> .cells [.bool c.any,.bool c.neg,.aG false ES (c.tests.map bS)]:: .cells [I v.kind,I v.n,.str v.s]::q.2) (fun q=>q.1<=row.length/\ ∀ k,k<q.1->bp (row.getD k default)=true) (fun q=>row.length-q.1) (0,[]) ?_ ?_ ?_ ?_
 ·simp
 ·rfl
 ·exact at_
 rintro⟨i,τ⟩ r ⟨g1,g2⟩;dsimp only at g1 g2;by_cases hi:i<row.length
 ·have c3:=cv i hi;have hne:=fun h=>TM hi h;have dD:=fun he=>bx (q:=fun k=>bp (row.getD k default)=true) g2 (i:=i) he;obtain⟨w,lf⟩:∃ w,row.getD i default=w:=⟨_,rfl⟩;rw[lf]at c3 hne dD;clear cv;cases hb:bp w with
  | true =>
    have dD:=dD hb;rw[hb]at c3;have z:iz true=0:=rfl;rw[z]at c3;clear hne;repeat' first|simp (disch:=omega) only[go_sem,aq,au,aA,lf]|refine ak ?_|refine cW c3 ?_|refine aj ?_ ?_<;>intro hw<;>try omega|fail
    all_goals first
     | exact aP
     |(refine⟨(i+1,τ++[.cells [I w.kind,I w.n,.str w.s]]),⟨by dsimp only;omega,dD⟩,by dsimp only;omega,by first|rfl|(simp[go_sem];done),bK,at_⟩)
     | skip
  | false =>
    have e:R=false:=by rw[<-Cn];exact hne hb
    rw[hb]at c3;have z:iz false=2:=rfl;rw[z]at c3;clear dD hne;repeat' first|simp (disch:=omega) only[go_sem,aq,au,aA,lf]|refine ak ?_|refine cW c3 ?_|refine aj ?_ ?_<;>intro hw<;>try omega|fail
    all_goals first
     | exact aP
     | exact lq (by rw[e];rfl)
     | skip
 ·have e:R=true:=by rw[<-Cn];exact XG fun k hk=>g2 k (by omega)
  clear cv;repeat' first|refine ak ?_|refine aj ?_ ?_<;>intro hw<;>try omega|fail
  all_goals first
   | exact lq (by rw[e];rfl)
   | exact aP
   | skip
