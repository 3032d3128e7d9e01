/- Part. -/
import Derived.Test.YtoldfccfpameeaaGreatDoorV11
import Derived.RecoverIn
set_option linter.all false
set_option maxHeartbeats 8000000
namespace Go.Proofs.YtoldfccfpameeaaGreatDoor
open Go.AM
set_option maxRecDepth 4000
def Wm{a b:Int}: cG a b=true↔(a=oM a b\/a=0)/\(b=oM a b\/b=0):=by
 unfold cG oM;simp only[cH,aM];split<;>omega
def US(a b:aW)(h:cG a.kind b.kind=true): aQ aI 262 [cR a,cR b] (I (oM a.kind b.kind)):=by
 have hf:=Wm.1 h
 have c:=Dy (oM a.kind b.kind) [a,b] aR (fun i hi=>by
  rcases i with _|_|i
  ·simpa[Ch]using hf.1
  ·simpa[Ch]using hf.2
  ·simp at hi;omega)
 generalize qN _ _ _=n at c;unfold oM at c ⊢;simp only[br,bB,cY,cR]at c;simp only[cR];by_cases h0:a.kind=0
 ·rw[au h0]at c ⊢;refine aY A9 ?_;intro Q aJ aK aL;repeat' first|refine aC ?_|refine Ab c ?_|refine aB ?_ ?_<;>intro hw<;>try omega|fail
  all_goals first|exact a_ rfl rfl|exact bI
 rw[aj h0]at c ⊢;refine aY A9 ?_;intro Q aJ aK aL;repeat' first|refine aC ?_|refine Ab c ?_|refine aB ?_ ?_<;>intro hw<;>try omega|fail
 all_goals first|exact a_ rfl rfl|exact bI
def S8(a b:aW)(h:cG a.kind b.kind=false): dA aI 262 [cR a,cR b] (.panic (rJ 14)):=by
 have hf:¬ ((a.kind=oM a.kind b.kind\/a.kind=0)/\(b.kind=oM a.kind b.kind\/b.kind=0)):=fun h2=>by rw[Wm.2 h2]at h;cases h
 have c:dA aI 229 [I (oM a.kind b.kind),br [a,b]] (.panic (rJ 14)):=by
  by_cases h1:a.kind=oM a.kind b.kind\/a.kind=0
  ·exact s7 _ [a, b] aR 1 aR (by
    have h2:¬ (b.kind=oM a.kind b.kind\/b.kind=0):=fun h2=>hf ⟨h1,h2⟩;show Ch _ b=false;simpa[Ch]using h2)
  exact s7 _ [a,b] aR 0 aR (by
   show Ch _ a=false;simpa[Ch]using h1)
 unfold oM at c;simp only[br,bB,cY,cR]at c;simp only[cR];refine dA.of_nil (A9.go ?_) rfl rfl;unfold dO;intro Q aJ aK aL;by_cases h0:a.kind=0
 ·rw[au h0]at c;repeat' first|refine aC ?_|refine SW c ?_|refine aB ?_ ?_<;>intro hw<;>try omega|fail
  all_goals first|(simp only[go_sem,aL];done)|exact bI|rfl
 rw[aj h0]at c;repeat' first|refine aC ?_|refine SW c ?_|refine aB ?_ ?_<;>intro hw<;>try omega|fail
 all_goals first|(simp only[go_sem,aL];done)|exact bI|rfl
def Ci(a b:aW): decide (a=b)=(a.kind==b.kind && a.n==b.n && a.s==b.s):=by
 obtain⟨a1,a2,a3⟩:=a;obtain⟨b1,b2,b3⟩:=b;rw[cQ];simp[and_assoc]
def Qi(op:Int)(a b:aW): dA aI 235 [I op,cR a,cR b] (sH (ye op a b)):=by
 have hS:ye op a b=if cG a.kind b.kind=false then .err 14
  else if op=8 then .ok (fK (decide (a=b)))
  else if op=9 then .ok (fK (!(decide (a=b))))
  else if a.kind=3\/b.kind=3 then .err 14
  else if ek a || ek b then .ok v0
  else if op=10 then .ok (fK (decide (jr a b<0)))
  else if op=11 then .ok (fK (decide (jr a b<=0)))
  else if op=12 then .ok (fK (decide (0<jr a b)))
  else .ok (fK (decide (0<=jr a b))):=rfl
 rw[hS];clear hS;by_cases hf:cG a.kind b.kind=false
 ·rw[au hf];have c:=S8 a b hf;simp only[cR]at c ⊢;refine dA.iA (lI.go ?_) rfl eO;unfold dO;intro Q aJ aK aL;repeat' first|refine aC ?_|refine Cf c ?_|refine aB ?_ ?_<;>intro hw<;>try omega|fail
  all_goals first|exact iC rfl|exact bI
 rw[aj hf];have c:=US a b (by simpa using hf);have cc:=nR a b
 have hk:oM a.kind b.kind=3↔a.kind=3\/b.kind=3:=by
  have:cG a.kind b.kind=true:=by simpa using hf
  unfold oM;unfold cG at this;simp only[cH,aM]at this;split<;>omega
 have hb:=Ci a b;have hn:(ek a || ek b)=true↔a.kind=0\/b.kind=0:=by simp[ek]
 generalize oM a.kind b.kind=o at c hk;generalize jr a b=m at *;have ct:=fun x=>uR x;by_cases h8:op=8
 ·rw[au h8,hb];subst h8;simp only[cR]at c cc ct ⊢;refine dA.iA (lI.go ?_) rfl eO;unfold dO;intro Q aJ aK aL;repeat' first|refine aC ?_|refine eS c ?_|refine eS (ct _) ?_|refine aB ?_ ?_<;>intro hw<;>try omega|fail
  all_goals first|exact bI|(refine j3 rfl ?_;first|rfl|(simp[cR];done))
 rw[aj h8];by_cases h9:op=9
 ·rw[au h9,hb];subst h9;simp only[cR]at c cc ct ⊢;refine dA.iA (lI.go ?_) rfl eO;unfold dO;intro Q aJ aK aL;repeat' first|refine aC ?_|refine eS c ?_|refine eS (ct _) ?_|refine aB ?_ ?_<;>intro hw<;>try omega|fail
  all_goals first|exact bI|(refine j3 rfl ?_;first|rfl|(simp[cR];done))
 rw[aj h9];by_cases h3:a.kind=3\/b.kind=3
 ·rw[au h3];have ho:=hk.2 h3;simp only[cR]at c cc ct ⊢;refine dA.iA (lI.go ?_) rfl eO;unfold dO;intro Q aJ aK aL;repeat' first|refine aC ?_|refine eS c ?_|refine Cf (pW 14 da) ?_|refine aB ?_ ?_<;>intro hw<;>try omega|fail
  all_goals first|exact iC rfl|exact bI
 rw[aj h3];have ho:o≠3:=fun h=>h3 (hk.1 h);by_cases h0:(ek a || ek b)=true
 ·rw[au h0];have rK:=hn.1 h0;simp only[cR]at c cc ct ⊢;refine dA.iA (lI.go ?_) rfl eO;unfold dO;intro Q aJ aK aL;repeat' first|refine aC ?_|refine eS c ?_|refine aB ?_ ?_<;>intro hw<;>try omega|fail
  all_goals first|exact j3 rfl rfl|exact bI
 rw[aj h0];have rK:¬ (a.kind=0\/b.kind=0):=fun h=>h0 (hn.2 h);clear hn hk hb h3;simp only[cR]at c cc ct ⊢;refine dA.iA (lI.go ?_) rfl eO;unfold dO;intro Q aJ aK aL;repeat' first|refine aC ?_|refine eS c ?_|refine eS (ct _) ?_|refine aB ?_ ?_<;>intro hw<;>try omega|fail
 all_goals first
  | exact bI
  |(refine j3 (u:=fK (decide (m<0))) ?_ ?_<;>first|rfl|(repeat' (first|rw[au (by assumption)]|rw[aj (by assumption)]));done)
  |(refine j3 (u:=fK (decide (m<=0))) ?_ ?_<;>first|rfl|(repeat' (first|rw[au (by assumption)]|rw[aj (by assumption)]));done)
  |(refine j3 (u:=fK (decide (0<m))) ?_ ?_<;>first|rfl|(repeat' (first|rw[au (by assumption)]|rw[aj (by assumption)]));done)
  |(refine j3 (u:=fK (decide (0<=m))) ?_ ?_<;>first|rfl|(repeat' (first|rw[au (by assumption)]|rw[aj (by assumption)]));done)
def UU(op:Int)(a b:aW): dA aI 234 [I op,cR a,cR b] (sH (r_ op a b)):=by
 have hS:r_ op a b=if !(cG a.kind 3) || !(cG b.kind 3)then .err 14
  else if a=fK (decide (op=15))\/b=fK (decide (op=15))then .ok (fK (decide (op=15)))
  else if ek a || ek b then .ok v0
  else .ok (fK (decide (op=14))):=rfl
 rw[hS];clear hS;have ct:=fun x=>uR x;by_cases hf:cG a.kind 3=true/\cG b.kind 3=true
 ·rw[aj (by simp[hf.1,hf.2])];have c:=S6 (k:=3) da a b hf.1 hf.2;have t_:=Ci a (fK (decide (op=15)));have iE:=Ci b (fK (decide (op=15)));have cte:=uR (decide (op=15));have ct4:=uR (decide (op=14));generalize fK (decide (op=15))=e at *;generalize fK (decide (op=14))=e4 at *;generalize (ek a || ek b)=n at *;simp only[cR]at c cte ct4 ⊢;by_cases h1:a=e
  ·rw[au (.inl h1)];rw[bN h1]at t_;refine dA.iA (rW.go ?_) rfl eO;unfold dO;intro Q aJ aK aL;repeat' first|simp (disch:=omega) only[go_sem,aJ,aK,aL,t_.symm]|refine aC ?_|refine Ab c ?_|refine aB ?_ ?_<;>intro hw<;>try omega|fail
   all_goals first|exact j3 rfl rfl|exact bI
  rw[cI h1]at t_;by_cases h2:b=e
  ·rw[au (.inr h2)];rw[bN h2]at iE;refine dA.iA (rW.go ?_) rfl eO;unfold dO;intro Q aJ aK aL;repeat' first|simp (disch:=omega) only[go_sem,aJ,aK,aL,t_.symm,iE.symm]|refine aC ?_|refine Ab c ?_|refine aB ?_ ?_<;>intro hw<;>try omega|fail
   all_goals first|exact j3 rfl rfl|exact bI
  rw[aj (fun h=>h.elim h1 h2)];rw[cI h2]at iE;refine dA.iA (rW.go ?_) rfl eO;unfold dO;intro Q aJ aK aL;cases n
  all_goals
   repeat' first|simp (disch:=omega) only[go_sem,aJ,aK,aL,t_.symm,iE.symm]|refine aC ?_|refine Ab c ?_|refine aB ?_ ?_<;>intro hw<;>try omega|fail
  all_goals first|exact j3 rfl rfl|exact bI
 rw[if_pos (by revert hf;cases cG a.kind 3<;>cases cG b.kind 3<;>simp)];have c:=Nh (k:=3) da a b (by revert hf;cases cG a.kind 3<;>cases cG b.kind 3<;>simp);simp only[cR]at c ⊢;refine dA.iA (rW.go ?_) rfl eO;unfold dO;intro Q aJ aK aL;repeat' first|refine aC ?_|refine SW c ?_|refine aB ?_ ?_<;>intro hw<;>try omega|fail
 all_goals first|exact iC rfl|exact bI
def OR {n : FuncId} {args : List AV} {r : AV} {K G : Prop} (h : aQ aI n args r) (k : K) (hg : aQ aI n args r -> K -> G := by
    intro h k;with_reducible exact VG h k):G:=hg h k
def rL(cs:List cJ)(row:List aW): AV:= .agg [b_ cs,br row]
def QC(cs:List cJ)(row:List aW)(s:aT): jG:=if vq cs s<0 then .err 13 else .ok (row.getD (vq cs s).toNat default)
def LD(cs:List cJ)(row:List aW)(s:aT)(hl:cs.length=row.length)(Gd:cs.length<=2 ^ 60): dA aI 228 [rL cs row,.str s] (sH (QC cs row s)):=by
 refine dA.iA (Ft.go ?_) (by simp[rL]) eO;unfold dO;intro Q aJ aK aL;simp only[rL,b_,br];repeat' first|refine aC ?_|refine aB ?_ ?_<;>intro hw<;>try omega|fail
 with_reducible refine bG [5,2,10,15] (fun q:Nat × List aX=>[(10,I q.1)]) (fun q=> .cells [.aS false EC (cs.map dU),.aS false EV (row.map cR)]:: .cells [I 0,I 0,.str []]::q.2) (fun q=>q.1<=cs.length/\ ∀ k,k<q.1->((cs.getD k default).name==s)=false) (fun q=>cs.length-q.1) (0,[]) ?_ ?_ ?_ ?_
 ·simp
 ·rfl
 ·exact at_
 rintro⟨i,τ⟩ r ⟨h1,h2⟩;dsimp only at h1 h2;by_cases hi:i<cs.length
 ·have hat:=fun h=>qz (p:=fun c:cJ=>c.name==s) hi h2 h;have eF:=fun h=>cn (q:=fun k=>((cs.getD k default).name==s)=false) h2 (i:=i) h;obtain⟨c,hc⟩:=cq (cs.getD i default);rw[hc]at hat eF;repeat' first|refine cB hc ?_|refine aC ?_|refine aB ?_ ?_<;>intro hw<;>try omega|fail
  all_goals first
   | exact bI
   | (have e : vq cs s = i := hat (by simp_all)
      refine j3 (u:=row.getD i default) ?_ rfl;unfold QC;rw[e,aj ae];rfl)
   | (refine ⟨(i + 1, τ ++ [.cells [.str c.name, I c.kind, .aS false EV (c.order.map cR)]]), ?_, ?_, by first | rfl | (simp [go_sem]; done), c8, at_⟩
      ·exact⟨by dsimp only;omega,eF (by simp_all)⟩
      ·dsimp only;omega)
 have e:vq cs s = -1:=nu (p:=fun c:cJ=>c.name==s) fun k hk=>h2 k ae;repeat' first|refine aC ?_|refine Cf (pW 13 da) ?_|refine aB ?_ ?_<;>intro hw<;>try omega|fail
 all_goals first
  | exact bI
  | (refine iC ?_
     unfold QC;rw[e];rfl)
def Yp(cs:List cJ)(row:List aW)(v:aW)(s:aT)(rs:List jG): qM cs row 2 v s rs=QC cs row s:=rfl
def aaS(cs:List cJ)(row:List aW)(v:aW)(s:aT)(rs:List jG): qM cs row 1 v s rs = .ok v:=rfl
def Ge{cs:List cJ}{row:List aW}{op:Int}{v:aW}{s:aT}{rs:List jG}(h1:op≠1)(h2:op≠2){e:Int}(h:rs.getD 0 default = .err e): qM cs row op v s rs = .err e:=by
 unfold qM;rw[if_neg h1,if_neg h2,h]
def aaT{cs:List cJ}{row:List aW}{v:aW}{s:aT}{a:aW}: qM cs row 3 v s [.ok a]=Nf a:=rfl
def adC{cs:List cJ}{row:List aW}{v:aW}{s:aT}{a:aW}{r1 r2:jG}: qM cs row 16 v s [.ok a,r1,r2]=if cG a.kind 3=false then .err 14 else if a=fK true then r1 else r2:=rfl
def Yq{cs:List cJ}{row:List aW}{op:Int}{v:aW}{s:aT}{a:aW}{e:Int}(h1:4<=op)(h2:op<=15): qM cs row op v s [.ok a,.err e] = .err e:=by
 unfold qM;rw[if_neg ae,if_neg ae];show(if op=3 then _ else _)=_;rw[aj ae,aj ae];rfl
def aaU{cs:List cJ}{row:List aW}{op:Int}{v:aW}{s:aT}{a b:aW}(h1:4<=op)(h2:op<=15): qM cs row op v s [.ok a,.ok b]=Nd op a b:=by
 unfold qM;rw[if_neg ae,if_neg ae];show(if op=3 then _ else _)=_;rw[aj ae,aj ae];rfl
def LG(x:Expr): Prop:=dY x=true/\jj x/\gM x<=2 ^ 60
def OS{op:Int}{v:aW}{s:aT}{l:List Expr}(h:LG (.mk op v s l)){y:Expr}(hy:y ∈ l): LG y:=by
 obtain⟨h1,h2,h3⟩:=h;simp only[dY,aD,aM]at h1;simp only[jj]at h2;simp only[gM]at h3;have hne:l≠[]:=fun e=>by rw[e]at hy;cases hy
 have n1:op≠1:=fun e=>by subst e;have:=h1.1;simp[j8]at this;exact hne (by simpa using this)
 have n2:op≠2:=fun e=>by subst e;have:=h1.1;simp[j8]at this;exact hne (by simpa using this)
 have h4:=h1.2;rw[aj n1,aj n2]at h4;simp only[aD]at h4;have:=B3 hy;exact⟨Dx h4.2 hy,B6 h2.2.2.2.2 hy,ae⟩
def UW{op:Int}{v:aW}{s:aT}{l:List Expr}(h:LG (.mk op v s l)): (l.length:Int)=j8 op:=by
 obtain⟨h1,_,_⟩:=h;simp only[dY,aD,aM]at h1;exact h1.1
def aaV{cs:List cJ}{row:List aW}(hl:cs.length=row.length)(hrow:∀ w ∈ row,iw w){x:Expr}(h:LG x): (s4 cs row x).good:=SV hl hrow x h.1 h.2.1
def LH(cs:List cJ)(row:List aW)(hl:cs.length=row.length)(Gd:cs.length<=2 ^ 60)(hrow:∀ w ∈ row,iw w)(x:Expr): LG x->dA aI 190 [rL cs row,bt x] (sH (s4 cs row x)):=by
 induction x using Expr.ind with
 | h op v s l ih =>
   intro hx;have XU:=UW hx;have qH:∀ y ∈ l,dA aI 190 [rL cs row,bt y] (sH (s4 cs row y)):=fun y hy=>ih y hy (OS hx hy);have LI:∀ y ∈ l,(s4 cs row y).good:=fun y hy=>aaV hl hrow (OS hx hy);clear ih hx;simp only[s4];rw[Hi];by_cases o1:op=1
   ·subst o1;rw[aaS];simp only[bt,rL,b_,br];refine dA.iA (fI.go ?_) aR eO;unfold dO;intro Q aJ aK aL;repeat' first|refine aC ?_|refine aB ?_ ?_<;>intro hw<;>try omega|fail
    all_goals first|exact j3 rfl rfl|exact bI
   by_cases o2:op=2
   ·subst o2;rw[Yp];have c:=LD cs row s hl Gd;simp only[bt,rL,b_,br]at c ⊢;refine dA.iA (fI.go ?_) aR eO;unfold dO;intro Q aJ aK aL;repeat' first|refine aC ?_|refine Ce c (fun v_ qo=>?_) (fun e_ pg=>?_)|refine aB ?_ ?_<;>intro hw<;>try omega|fail
    all_goals first|exact j3 qo rfl|exact iC pg|exact bI
   rcases rC XU o1 o2 with⟨rfl,hn⟩|⟨h4,h15,hn⟩|⟨rfl,hn⟩
   ·obtain ⟨y, rfl⟩ : ∃ y, l = [y] := by
     match l,hn with
     | [y],_=>exact⟨y,rfl⟩
    have c0:=qH y aR;have g0:=LI y aR;simp only[bB,cY];generalize s4 cs row y=r0 at *;simp only[bt,rL,b_,br,bB,cY]at c0 ⊢;rw[bK]at c0;cases r0 with
    | err e =>
      have c0:dA aI 190 _ (.panic (rJ e)):=c0;rw[Ge da da rfl];refine dA.iA (fI.go ?_) aR eO;unfold dO;intro Q aJ aK aL;repeat' first|refine aC ?_|refine Cf c0 ?_|refine aB ?_ ?_<;>intro hw<;>try omega|fail
      all_goals first|exact iC rfl|exact fun _ _=>iC rfl|exact bI
    | ok a =>
      have c0:aQ aI 190 _ (cR a):=c0;rw[aaT];unfold Nf;cases hf:cG a.kind 1 with
      | false =>
        have c1:=Wk (k:=1) da a hf;rw[au rfl];simp only[cR]at c0 c1;refine dA.iA (fI.go ?_) aR eO;unfold dO;intro Q aJ aK aL;repeat' first|refine aC ?_|refine OR c0 ?_|refine SW c1 ?_|refine aB ?_ ?_<;>intro hw<;>try omega|fail
        all_goals first|exact iC rfl|exact bI
      | true =>
        have c1:=aaQ (k:=1) da a hf;have cS:=S0 0 a.n (by unfold kQ;omega) g0.2.1;have hp:=Wf (Gc (0-a.n));rw[aj da];generalize kq (0-a.n)=q at *;generalize numOf q=n at *;generalize pX q=m at *;simp only[cR]at c0 c1;generalize ek a=z at *;refine dA.iA (fI.go ?_) aR eO;unfold dO;intro Q aJ aK aL;cases z
        all_goals
         repeat' first|refine aC ?_|refine OR c0 ?_|refine Ab c1 ?_|refine Ce (s6 n m) (fun v_ qo=>?_) (fun e_ pg=>?_)|refine aB ?_ ?_<;>intro hw<;>try omega|fail
        all_goals first
         | exact j3 rfl rfl
         | exact j3 (hp.symm.trans qo) rfl
         | exact iC (hp.symm.trans pg)
         | exact bI
   ·obtain ⟨y, z, rfl⟩ : ∃ y z, l = [y, z] := by
     match l,hn with
     | [y,z],_=>exact⟨y,z,rfl⟩
    have c0:=qH y aR;have g0:=LI y aR;have c1:=qH z aR;have g1:=LI z aR;simp only[bB,cY];generalize s4 cs row y=r0 at *;generalize s4 cs row z=r1 at *;simp only[bt,rL,b_,br,bB,cY]at c0 c1 ⊢;rw[bK]at c0 c1;clear qH LI;cases r0 with
    | err e =>
      have c0:dA aI 190 _ (.panic (rJ e)):=c0;rw[Ge ae ae rfl];refine dA.iA (fI.go ?_) aR eO;unfold dO;intro Q aJ aK aL;repeat' first|refine aC ?_|refine Cf c0 ?_|refine aB ?_ ?_<;>intro hw<;>try omega|fail
      all_goals first|exact iC rfl|exact fun _ _=>iC rfl|exact bI
    | ok a =>
      have c0:aQ aI 190 _ (cR a):=c0;cases r1 with
      | err e =>
        have c1:dA aI 190 _ (.panic (rJ e)):=c1;rw[Yq h4 h15];simp only[cR]at c0;refine dA.iA (fI.go ?_) aR eO;unfold dO;intro Q aJ aK aL;repeat' first|simp (disch:=omega) only[go_sem,aJ,aK,aL,Int.reduceToNat]|refine aC ?_|refine OR c0 ?_|refine Cf c1 ?_|refine aB ?_ ?_<;>intro hw<;>try omega|fail
        all_goals first|exact iC rfl|exact fun _ _=>iC rfl|exact bI
      | ok b =>
        have c1:aQ aI 190 _ (cR b):=c1;rw[aaU h4 h15];have cs:=aaR op a b g0.2 g1.2;have cc:=Qi op a b;have ct:=UU op a b;have hS:Nd op a b=if op<=7 then wA op a b else if op<=13 then ye op a b else r_ op a b:=rfl
        rw[hS];clear hS g0 g1;generalize wA op a b=q1 at *;generalize ye op a b=q2 at *;generalize r_ op a b=q3 at *;simp only[cR]at c0 c1 cs cc ct;refine dA.iA (fI.go ?_) aR eO;unfold dO;intro Q aJ aK aL;repeat' first|simp (disch:=omega) only[go_sem,aJ,aK,aL,Int.reduceToNat]|refine aC ?_|refine OR c0 ?_|refine OR c1 ?_|refine Ce cs (fun v_ qo=>?_) (fun e_ pg=>?_)|refine Ce cc (fun v_ qo=>?_) (fun e_ pg=>?_)|refine Ce ct (fun v_ qo=>?_) (fun e_ pg=>?_)|refine aB ?_ ?_<;>intro hw<;>try omega|fail
        all_goals first
         |(rw[au ae];first|exact j3 qo rfl|exact iC pg)
         |(rw[aj ae,au ae];first|exact j3 qo rfl|exact iC pg)
         |(rw[aj ae,aj ae];first|exact j3 qo rfl|exact iC pg)
         | exact bI
   obtain⟨y,z,u,rfl⟩:∃ y z u,l=[y,z,u]:=by
    match l,hn with
    | [y,z,u],_=>exact⟨y,z,u,rfl⟩
   have c0:=qH y aR;have c1:=qH z aR;have c2:=qH u aR;simp only[bB,cY];generalize s4 cs row y=r0 at *;generalize s4 cs row z=r1 at *;generalize s4 cs row u=r2 at *;simp only[bt,rL,b_,br,bB,cY]at c0 c1 c2 ⊢;rw[bK]at c0 c1 c2;clear qH LI;cases r0 with
   | err e =>
     have c0:dA aI 190 _ (.panic (rJ e)):=c0;rw[Ge da da rfl];refine dA.iA (fI.go ?_) aR eO;unfold dO;intro Q aJ aK aL;repeat' first|refine aC ?_|refine Cf c0 ?_|refine aB ?_ ?_<;>intro hw<;>try omega|fail
     all_goals first|exact iC rfl|exact fun _ _=>iC rfl|exact bI
   | ok a =>
     have c0:aQ aI 190 _ (cR a):=c0;rw[adC];cases hf:cG a.kind 3 with
     | false =>
       have cf:=Wk (k:=3) da a hf;rw[au rfl];simp only[cR]at c0 cf;refine dA.iA (fI.go ?_) aR eO;unfold dO;intro Q aJ aK aL;repeat' first|refine aC ?_|refine OR c0 ?_|refine SW cf ?_|refine aB ?_ ?_<;>intro hw<;>try omega|fail
       all_goals first|exact iC rfl|exact bI
     | true =>
       have cf:=aaQ (k:=3) da a hf;have ct:=uR true;have hb:=Ci a (fK true);rw[aj da];by_cases ha:a=fK true
       ·rw[au ha];rw[bN ha]at hb;generalize fK true=e at *;simp only[cR]at c0 cf ct;refine dA.iA (fI.go ?_) aR eO;unfold dO;intro Q aJ aK aL;repeat' first|simp (disch:=omega) only[go_sem,aJ,aK,aL,Int.reduceToNat,hb.symm]|refine aC ?_|refine OR c0 ?_|refine Ab cf ?_|refine Ce c1 (fun v_ qo=>?_) (fun e_ pg=>?_)|refine aB ?_ ?_<;>intro hw<;>try omega|fail
        all_goals first|exact j3 qo rfl|exact iC pg|exact fun _ _=>iC pg|exact bI
       rw[aj ha];rw[cI ha]at hb;generalize fK true=e at *;simp only[cR]at c0 cf ct;refine dA.iA (fI.go ?_) aR eO;unfold dO;intro Q aJ aK aL;repeat' first|simp (disch:=omega) only[go_sem,aJ,aK,aL,Int.reduceToNat,hb.symm]|refine aC ?_|refine OR c0 ?_|refine Ab cf ?_|refine Ce c2 (fun v_ qo=>?_) (fun e_ pg=>?_)|refine aB ?_ ?_<;>intro hw<;>try omega|fail
       all_goals first|exact j3 qo rfl|exact iC pg|exact fun _ _=>iC pg|exact bI
structure TO {α : Type} (c : α-> α->Int):Prop where
 eq:∀ a b,c a b=0↔a=b
 anti:∀ a b,c b a = - c a b
 trans:∀ a b d,c a b<0->c b d<0->c a d<0
def adD: TO j_:=by
 refine⟨fun a b=>?_,fun a b=>?_,fun a b d=>?_⟩
 ·unfold j_;split<;>(try split)<;>constructor<;>intro h<;>omega
 ·unfold j_;split<;>split<;>(try split)<;>omega
 unfold j_;intro h1 h2;rw[au]
 ·omega
 split at h1<;>split at h2<;>(try split at h1)<;>(try split at h2)<;>omega
def TO.lex{α β : Type}{c1 : α-> α->Int}{c2 : β-> β->Int}(h1:TO c1)(h2:TO c2): TO (fun(p q : α × β)=>if c1 p.1 q.1≠0 then c1 p.1 q.1 else c2 p.2 q.2):=by
 refine⟨fun a b=>?_,fun a b=>?_,fun a b d=>?_⟩
 ·obtain⟨a1,a2⟩:=a;obtain⟨b1,b2⟩:=b;dsimp only;by_cases h:c1 a1 b1=0
  ·rw[aj (by simpa using h),h2.eq,(h1.eq _ _).1 h];simp
  rw[au h];constructor
  ·intro h';exact absurd h' h
  intro h';cases h';exact absurd ((h1.eq _ _).2 rfl) h
 ·rw[h1.anti,h2.anti];by_cases h:c1 a.1 b.1=0
  ·rw[aj ae,aj ae]
  rw[au ae,au ae]
 intro ha hb;by_cases h:c1 a.1 b.1=0
 ·rw[aj ae]at ha;rw[(h1.eq _ _).1 h];by_cases h':c1 b.1 d.1=0
  ·rw[aj ae]at hb ⊢;exact h2.trans _ _ _ ha hb
  rw[au h']at hb ⊢;exact hb
 rw[au h]at ha;by_cases h':c1 b.1 d.1=0
 ·rw[<-(h1.eq _ _).1 h',au h];exact ha
 rw[au h']at hb;have:=h1.trans _ _ _ ha hb;rw[au ae];exact this
def TO.map{α β : Type}{c : β-> β->Int}(h:TO c)(f : α-> β)(hf:∀ a b,f a=f b->a=b): TO (fun a b=>c (f a) (f b)) :=
 ⟨fun a b=>⟨fun e=>hf _ _ ((h.eq _ _).1 e),fun e=>(h.eq _ _).2 (by rw[e])⟩,fun a b=>h.anti _ _,fun a b d=>h.trans _ _ _⟩
def pn{α : Type}(c : α-> α->Int): List α->List α->Int
 | [],[]=>0
 | [],_::_=> -1
 | _::_,[]=>1
 | a::r,b::t=>if c a b≠0 then c a b else pn c r t
def TO.list{α : Type}{c : α-> α->Int}(h:TO c): TO (pn c):=by
 refine⟨fun a=>?_,fun a=>?_,fun a=>?_⟩
 ·induction a with
  | nil=>intro b;cases b<;>simp[pn]
  | cons x r ih =>
    intro b;cases b with
    | nil=>simp[pn]
    | cons y t =>
      simp only[pn];by_cases hx:c x y=0
      ·rw[aj (by simpa using hx),ih,(h.eq _ _).1 hx];simp
      rw[au hx];constructor
      ·intro h';exact absurd h' hx
      intro h';cases h';exact absurd ((h.eq _ _).2 rfl) hx
 ·induction a with
  | nil=>intro b;cases b<;>simp[pn]
  | cons x r ih =>
    intro b;cases b with
    | nil=>simp[pn]
    | cons y t =>
      simp only[pn];rw[h.anti,ih];by_cases hx:c x y=0
      ·rw[aj ae,aj ae]
      rw[au ae,au ae]
 induction a with
 | nil =>
   intro b d hb hd;cases b with
   | nil=>simp[pn]at hb
   | cons y t =>
     cases d with
     | nil=>simp[pn]at hd
     | cons z u=>simp[pn]
 | cons x r ih =>
   intro b d hb hd;cases b with
   | nil=>simp[pn]at hb
   | cons y t =>
     cases d with
     | nil=>simp[pn]at hd
     | cons z u =>
       simp only[pn]at hb hd ⊢;by_cases hx:c x y=0
       ·rw[aj ae]at hb;rw[(h.eq _ _).1 hx];by_cases hy:c y z=0
        ·rw[aj ae]at hd ⊢;exact ih _ _ hb hd
        rw[au hy]at hd ⊢;exact hd
       rw[au hx]at hb;by_cases hy:c y z=0
       ·rw[<-(h.eq _ _).1 hy,au hx];exact hb
       rw[au hy]at hd;have:=h.trans _ _ _ hb hd;rw[au ae];exact this
def Ni(a b:UInt8): Int:=if a<b then -1 else if b<a then 1 else 0
def amb: TO Ni:=by
 have e:Ni=fun a b=>j_ a.toNat b.toNat:=by
  funext a b
  unfold Ni j_;simp only[UInt8.lt_iff_toNat_lt,Int.ofNat_lt]
 rw[e];exact adD.map (fun a:UInt8=>(a.toNat:Int)) (fun a b h=>UInt8.toNat_inj.1 ae)
def OU: ∀ a b:aT,Lib.compareBytes a b=pn Ni a b
 | [],[]=>rfl
 | [],_::_=>rfl
 | _::_,[]=>rfl
 | x :: r, y :: t => by
   simp only[Lib.compareBytes,pn,OU r t];unfold Ni;by_cases h1:x<y
   ·simp[h1]
   by_cases h2:y<x
   ·simp[h1,h2]
   simp[h1,h2]
def amc: TO jr:=by
 have e:jr=fun a b=>(fun(p q:Int × Int × aT)=>if j_ p.1 q.1≠0 then j_ p.1 q.1 else(fun(p q:Int × aT)=>if j_ p.1 q.1≠0 then j_ p.1 q.1 else pn Ni p.2 q.2) p.2 q.2) (a.kind,a.n,a.s) (b.kind,b.n,b.s):=by
  funext a b
  simp only[jr,OU]
 rw[e]
 exact(adD.lex (adD.lex amb.list)).map (fun a:aW=>(a.kind,a.n,a.s)) (fun a b h=>by
  obtain⟨a1,a2,a3⟩:=a;obtain⟨b1,b2,b3⟩:=b;simp only[Prod.mk.injEq]at h;obtain⟨rfl,rfl,rfl⟩:=h;rfl)
def S9: ∀ a b:List aW,iS a b=pn jr a b
 | [],[]=>rfl
 | [],_::_=>rfl
 | _::_,[]=>rfl
 | x::r,y::t=>by simp only[iS,pn,S9 r t]
def Gf: TO iS:=by
 have e:iS=pn jr:=by funext a b;exact S9 a b
 rw[e];exact amc.list
abbrev Row:=List aW
abbrev qp(a b:Row): Prop:=iS a b<=0
def adE(a:Row): qp a a:=by show iS a a<=0;rw[(Gf.eq a a).2 rfl];omega
def pD{a b d:Row}(h1:qp a b)(h2:qp b d): qp a d:=by
 have h1:iS a b<=0:=h1;have h2:iS b d<=0:=h2;show iS a d<=0;by_cases e1:iS a b=0
 ·rw[(Gf.eq _ _).1 e1];exact h2
 by_cases e2:iS b d=0
 ·rw[<-(Gf.eq _ _).1 e2];exact h1
 have:=Gf.trans a b d ae ae;omega
def adF{a b:Row}(h1:qp a b)(h2:qp b a): a=b:=by
 have h1:iS a b<=0:=h1;have h2:iS b a<=0:=h2;rw[Gf.anti a b]at h2;exact(Gf.eq _ _).1 ae
abbrev mw(l:List Row): Prop:=l.Pairwise qp
def LJ: ∀ {l m:List Row},mw l->mw m->l.Perm m->l=m
 | [],m,_,_,h=>h.nil_eq
 | a :: l, m, hl, hm, h => by
   cases m with
   | nil=>exact absurd h.symm.nil_eq aR
   | cons b m =>
     have hab:a=b:=by
      have h1:a ∈ b::m:=h.subset aR;have h2:b ∈ a::l:=h.symm.subset aR;rcases List.mem_cons.1 h1 with h1|h1
      ·exact h1
      rcases List.mem_cons.1 h2 with h2|h2
      ·exact h2.symm
      exact adF ((fB.1 hl).1 _ h2) ((fB.1 hm).1 _ h1)
     subst hab;rw[LJ (fB.1 hl).2 (fB.1 hm).2 (List.perm_cons a |>.1 h)]
def OV(x:Row)(l:List Row): (F8 x l).Perm (x::l):=by
 induction l with
 | nil=>exact .refl _
 | cons y r ih =>
   simp only[F8];split
   ·exact .refl _
   exact(ih.cons y).trans (.swap x y r)
def adG{x:Row}{l:List Row}(h:mw l): mw (F8 x l):=by
 induction l with
 | nil=>simp[F8]
 | cons y r ih =>
   have h':=fB.1 h;simp only[F8];split
   ·rename_i hx;have hx:iS x y<=0:=ae;refine fB.2 ⟨fun z hz=>?_,h⟩;rcases List.mem_cons.1 hz with rfl|hz
    ·exact hx
    exact pD (b:=y) hx (h'.1 z hz)
   rename_i hx;have hyx:qp y x:=by show iS y x<=0;rw[Gf.anti x y];omega
   refine fB.2 ⟨fun z hz=>?_,ih h'.2⟩;have:=(OV x r).subset hz;rcases List.mem_cons.1 this with rfl|hz
   ·exact hyx
   exact h'.1 z hz
def Dz: ∀(l acc:List Row),(yd l acc).Perm (l++acc)
 | [],acc=> .refl _
 | x :: r, acc => by
   simp only[yd];refine(Dz r (F8 x acc)).trans ?_;refine((OV x acc).append_left r).trans ?_;exact List.perm_middle
def OW: ∀(l:List Row) {acc:List Row},mw acc->mw (yd l acc)
 | [],acc,h=>h
 | x :: r, acc, h => by
   simp only[yd];exact OW r (adG h)
def eR(l:List Row): List Row:=yd l []
def tR(l:List Row): mw (eR l):=OW l .nil
def mz(l:List Row): (eR l).Perm l:=by
 have:=Dz l [];rwa[bW]at this
def Cj{l m:List Row}(h:mw m)(hp:m.Perm l): m=eR l:=LJ h (tR l) (hp.trans (mz l).symm)
def DA{l m:List Row}(h:l.Perm m): eR l=eR m:=Cj (tR l) ((mz l).trans h)
def Gg{l:List Row}(h:mw l): eR l=l:=(Cj h (.refl _)).symm
def oJ(l:List Row): (eR l).length=l.length:=(mz l).length_eq
def OX{s1 s2:List Row}{x:Row}(h:mw (s1++s2))(h1:∀ y ∈ s1,qp y x)(h2:∀ y ∈ s2,qp x y): mw (s1++x::s2):=by
 obtain⟨a,b,c⟩:=fS.1 h;refine fS.2 ⟨a,fB.2 ⟨h2,b⟩,fun y hy z hz=>?_⟩;rcases List.mem_cons.1 hz with rfl|hz
 ·exact h1 y hy
 exact c y hy z hz
def aaW{x1 x2 y1 y2:List Row}(hx:mw (x1++x2))(hy:mw (y1++y2))(h1:∀ a ∈ x1,∀ b ∈ y2,qp a b)(h2:∀ a ∈ y1,∀ b ∈ x2,qp a b): eR (x1++y1)++eR (x2++y2)=eR ((x1++x2)++(y1++y2)):=by
 obtain⟨_,_,c⟩:=fS.1 hx;obtain⟨_,_,d⟩:=fS.1 hy;refine Cj ?_ ?_
 ·refine fS.2 ⟨tR _,tR _,fun a ha b hb=>?_⟩;have ha:=(mz _).subset ha;have hb:=(mz _).subset hb;rcases List.mem_append.1 ha with ha|ha<;>rcases List.mem_append.1 hb with hb|hb
  ·exact c a ha b hb
  ·exact h1 a ha b hb
  ·exact h2 a ha b hb
  exact d a ha b hb
 refine((mz _).append (mz _)).trans ?_;rw[aV,aV];refine List.Perm.append_left x1 ?_;rw[<-aV,<-aV];exact(List.perm_append_comm (l₁:=y1) (l₂:=x2)).append_right y2
def yu{l:List Row}(h:mw l){i j:Nat}(hij:i<=j)(hj:j<l.length): qp (l.getD i default) (l.getD j default):=by
 rw[aq,aq,aG hj,aG ae];rcases Nat.lt_or_eq_of_le hij with h1|rfl
 ·exact List.pairwise_iff_getElem.1 h i j ae hj h1
 exact adE _
def zi{l:List Row}{n:Nat}{x:Row}(h:x ∈ l.take n): ∃ i,i<n/\i<l.length/\l.getD i default=x:=by
 obtain⟨i,hi,rfl⟩:=bP h;rw[dL]at hi;refine⟨i,ae,ae,?_⟩;rw[aq,aG ae,List.getElem_take];rfl
def zj{l:List Row}{n:Nat}{x:Row}(h:x ∈ l.drop n): ∃ i,n<=i/\i<l.length/\l.getD i default=x:=by
 obtain⟨i,hi,rfl⟩:=bP h;rw[eu]at hi;refine⟨n+i,ae,ae,?_⟩;rw[aq,aG ae,List.getElem_drop];rfl
def w8{a b:Row}(h:¬ iS a b<0): qp b a:=by show iS b a<=0;rw[Gf.anti a b];omega
def QE{a b:Row}(h:iS a b<0): qp a b:=by show iS a b<=0;omega
def adH {X Y : List Row} (hX : mw X) (hY : mw Y) {h s : Nat} (hs1 : s <= X.length) (Vl : s <= h) (hs3 : h - s <= Y.length)
    (h1:s=0\/h-s=Y.length\/¬ iS (Y.getD (h-s) default) (X.getD (s-1) default)<0) (h2:s=X.length\/s=h\/iS (Y.getD (h-1-s) default) (X.getD s default)<0) :
    (∀ a ∈ X.take s,∀ b ∈ Y.drop (h-s),qp a b)/\(∀ a ∈ Y.take (h-s),∀ b ∈ X.drop s,qp a b):=by
 constructor
 ·intro a ha b hb;obtain⟨i,hi,hi2,rfl⟩:=zi ha;obtain⟨j,hj,hj2,rfl⟩:=zj hb;rcases h1 with h1|h1|h1
  ·omega
  ·omega
  exact pD (yu hX (show i<=s-1 by omega) ae) (pD (w8 h1) (yu hY hj hj2))
 intro a ha b hb;obtain⟨i,hi,hi2,rfl⟩:=zi ha;obtain⟨j,hj,hj2,rfl⟩:=zj hb;rcases h2 with h2|h2|h2
 ·omega
 ·omega
 exact pD (yu hY (show i<=h-1-s by omega) ae) (pD (QE h2) (yu hX hj hj2))
def adI {X Y : List Row} (hX : mw X) (hY : mw Y) {h s : Nat} (hs1 : s <= X.length) (Vl : s <= h) (hs3 : h - s <= Y.length)
    (h1:s=0\/h-s=Y.length\/¬ iS (Y.getD (h-s) default) (X.getD (s-1) default)<0) (h2:s=X.length\/s=h\/iS (Y.getD (h-1-s) default) (X.getD s default)<0) :
    eR (X.take s++Y.take (h-s))++eR (X.drop s++Y.drop (h-s))=eR (X++Y):=by
 obtain⟨a,b⟩:=adH hX hY hs1 Vl hs3 h1 h2;have:=aaW (x1:=X.take s) (x2:=X.drop s) (y1:=Y.take (h-s)) (y2:=Y.drop (h-s)) (by rw[dD];exact hX) (by rw[dD];exact hY) a b;rw[dD,dD]at this;exact this
def S_{Y:List Row}(hY:mw Y){x:Row}{i:Nat}(hi:i<=Y.length)(h1:i=0\/qp (Y.getD (i-1) default) x)(h2:i=Y.length\/qp x (Y.getD i default)): Y.take i++x::Y.drop i=eR (x::Y):=by
 refine Cj (OX (by rw[dD];exact hY) (fun y hy=>?_) (fun y hy=>?_)) ?_
 ·obtain⟨j,hj,hj2,rfl⟩:=zi hy;rcases h1 with h1|h1
  ·omega
  exact pD (yu hY (show j<=i-1 by omega) ae) h1
 ·obtain⟨j,hj,hj2,rfl⟩:=zj hy;rcases h2 with h2|h2
  ·omega
  exact pD h2 (yu hY hj hj2)
 refine List.perm_middle.trans ?_;rw[dD]
def af7(x:Row): mw [x]:=aR
def Nj{X:List Row}{k:Nat}(hk:k<X.length): eR (X.take (k+1))=eR (X.getD k default::eR (X.take k)):=by
 refine DA ?_;rw[jB,aG hk,aq,aG hk];refine(List.perm_append_comm).trans ?_;exact((mz _).symm.cons _)
abbrev kr(L:List Row): aX:= .vec E1 (L.map br)
abbrev tS(k:Nat)(L:List Row): AV:= .own E1 k L.length 0 L.length
def oQ(f:FuncId)(rest:List AV)(L M:List Row): Prop :=
 ∀(σ : ai) (k:Nat),σ[k]? = some (kr L)->cK aI f (tS k L::rest) σ fun o σ'=>o = .ret (.bR [])/\σ' = σ.set k (kr M)
def w9{σ : ai}{k:Nat}{o:aX}(h : σ[k]? = some o)(o':aX): (σ.set k o')[k]? = some o':=uz h
def pK{σ : ai}{k:Nat}{o:aX}(h : σ[k]? = some o): σ.set k o = σ:=by
 obtain⟨h1,h2⟩:=aE.1 h;subst h2;exact List.set_getElem_self h1
def Wn {n : FuncId} {rest : List AV} {L M : List Row} {σ : ai} {k : Nat} {K Kp : AV -> ai -> Prop} (h : oQ n rest L M) (iz : σ[k]? = some (kr L)) (hk : kj (.bR []) (.mk : Tg fun r => wh (σ.set k (kr M)) (.mk : Tg fun σ => K r σ))) :
    pP Tryz.prog n (tS k L::rest) σ (.mk:Tg (K,Kp)) :=
 (h σ k iz).mono fun o s ⟨h1,h2⟩=>by subst h1;subst h2;exact hk
def JH{A B:List Row}{x:Row}: (A++x::B).getD A.length default=x:=by simp[aq]
def Wo{A B:List Row}{x y:Row}: (A++x::B).set A.length y=A++y::B:=aR
def adJ{A B C:List Row}{x y:Row}: ((A++x::B++y::C).set A.length y).set (A++x::B).length x=A++y::B++x::C:=by
 rw[aV,bQ,Wo];have:(A++x::B).length=(A++y::B).length:=aR;rw[this,<-bQ,<-aV,Wo]
def Yr{M:List Row}{n:Nat}{r:Row}: (List.map br M).set n (AV.aS false EV (List.map cR r))=List.map br (M.set n r):=by
 rw[List.map_set];rfl
def aaX {A U B V C : List Row} (hn : U.length = V.length) {i : Nat} (hi : i < U.length) {M : List Row} (hM : A ++ (V.take i ++ U.drop i) ++ B ++ (U.take i ++ V.drop i) ++ C = M) :
    (M.set (A.length+i) (M.getD (A.length+U.length+B.length+i) default)).set (A.length+U.length+B.length+i) (M.getD (A.length+i) default)=A++(V.take (i+1)++U.drop (i+1))++B++(U.take (i+1)++V.drop (i+1))++C:=by
 have hv:i<V.length:=ae
 have e:M=(A++V.take i)++U[i]::(U.drop (i+1)++B++U.take i)++V[i]::(V.drop (i+1)++C):=by
  rw[<-hM,dW hi,dW hv];simp only[aV,bQ]
 have l1:A.length+i=(A++V.take i).length:=by simp;omega
 have l2:A.length+U.length+B.length+i=((A++V.take i)++U[i]::(U.drop (i+1)++B++U.take i)).length:=by simp;omega
 have g1:M.getD (A.length+i) default=U[i]:=by
  rw[e,l1,aV,bQ];exact JH
 have g2:M.getD (A.length+U.length+B.length+i) default=V[i]:=by
  rw[e,l2];exact JH
 rw[g1,g2,l1,l2,e,adJ];rw[jB,jB,aG hi,aG hv];simp only[aV,bQ,Option.toList_some,bX]
def Gh(F:AV)(A U B V C:List Row)(hl:(A++U++B++V++C).length<=2 ^ 40)(hn:U.length=V.length): oQ 300 [I A.length,I (A.length+U.length+B.length:Nat),I U.length,F] (A++U++B++V++C) (A++V++B++U++C):=by
 intro σ k iz;refine sQ.go ?_;unfold dO;intro Q aJ aK aL;generalize hL:A++U++B++V++C=L at *;have iX:L.length=A.length+U.length+B.length+V.length+C.length:=by rw[<-hL];simp;omega
 have hs:=fun o=>w9 iz o;have pE:∀ o o':aX,(σ.set k o).set k o' = σ.set k o':=fun o o'=>d_ _;repeat' first|refine aC ?_|refine aB ?_ ?_<;>intro hw<;>try omega|fail
 with_reducible refine bG [10,28] (fun i:Nat=>[(10,I i)]) (fun i=>σ.set k (kr (A++(V.take i++U.drop i)++B++(U.take i++V.drop i)++C))) (fun i=>i<=U.length) (fun i=>U.length-i) 0 ?_ ?_ ?_ ?_
 ·simp
 ·simp only[gO,eU,bX];rw[hL,pK iz]
 ·exact at_
 rintro i r h1;by_cases hi:i<U.length
 ·obtain⟨M,hM⟩:=cq (A++(V.take i++U.drop i)++B++(U.take i++V.drop i)++C);have hst:=aaX hn hi hM;rw[hM];have hml:M.length=L.length:=by rw[<-hM,iX];simp;omega
  have e1:((A.length:Int)+i).toNat=A.length+i:=ae;have e2:(((A.length+U.length+B.length:Nat):Int)+i).toNat=A.length+U.length+B.length+i:=ae;repeat' first|simp (disch:=omega) only[go_sem,aJ,aK,aL,hs,pE,hml,Yr,e1,e2,dM,aP,if_false]|refine aC ?_|refine aB ?_ ?_<;>intro hw<;>try omega|fail
  refine⟨i+1,?_,?_,?_,c8,at_⟩<;>(try dsimp only)
  ·omega
  ·omega
  rw[hst]
 obtain rfl:i=U.length:=ae;repeat' first|refine aC ?_|refine aB ?_ ?_<;>intro hw<;>try omega|fail
 refine⟨rfl,?_⟩;rw[hn,gG,<-hn,gG,List.drop_length,hn,List.drop_length,bW,bW]
def jl {n : FuncId} {rest args : List AV} {L M : List Row} {σ : ai} {k : Nat} {K Kp : AV -> ai -> Prop} (h : oQ n rest L M) (iz : σ[k]? = some (kr L)) (ha : args = tS k L :: rest) (hk : kj (.bR []) (.mk : Tg fun r => wh (σ.set k (kr M)) (.mk : Tg fun σ => K r σ))) :
    pP Tryz.prog n args σ (.mk:Tg (K,Kp)):=by subst ha;exact Wn h iz hk
def sI{k N N':Nat}{a a' b b' c c':Int}{F:AV}(h0:N=N')(h1:a=a')(h2:b=b')(h3:c=c'): [AV.own E1 k N 0 N,I a,I b,I c,F]=[AV.own E1 k N' 0 N',I a',I b',I c',F]:=by subst h0;subst h1;subst h2;subst h3;rfl
def rotate(F:AV)(A U V C:List Row)(hl:(A++U++V++C).length<=2 ^ 40)(hU:0<U.length)(hV:0<V.length): oQ 285 [I A.length,I (A.length+U.length:Nat),I (A.length+U.length+V.length:Nat),F] (A++U++V++C) (A++V++U++C):=by
 intro σ k iz;have iX:(A++U++V++C).length=A.length+U.length+V.length+C.length:=by simp;omega
 rw[iX]at hl;obtain⟨T,hT⟩:=cq (A++V++U++C);rw[hT,show tS k (A++U++V++C)=AV.own E1 k (A.length+U.length+V.length+C.length) 0 (A.length+U.length+V.length+C.length) by rw[<-iX]];refine uE.go ?_;unfold dO;intro Q aJ aK aL;have hs:=fun o=>w9 iz o;have pE:∀ o o':aX,(σ.set k o).set k o' = σ.set k o':=fun o o'=>d_ _;repeat' first|refine aC ?_|refine aB ?_ ?_<;>intro hw<;>try omega|fail
 with_reducible refine bG [10,2,18,32] (fun q:List Row × List Row × List Row × List Row=>[(10,I q.2.1.length),(11,I q.2.2.1.length)]) (fun q=>σ.set k (kr (q.1++q.2.1++q.2.2.1++q.2.2.2))) (fun q=>q.1++q.2.2.1++q.2.1++q.2.2.2=T/\q.1.length+q.2.1.length=A.length+U.length/\0<q.2.1.length/\0<q.2.2.1.length/\q.1.length+q.2.1.length+q.2.2.1.length+q.2.2.2.length=A.length+U.length+V.length+C.length) (fun q=>q.2.1.length+q.2.2.1.length) (A,U,V,C) ?_ ?_ ?_ ?_
 ·exact⟨hT,rfl,hU,hV,rfl⟩
 ·exact(pK iz).symm
 ·exact at_
 rintro⟨a,u,v,c⟩ r ⟨h1,h2,h3,h4,h5⟩;dsimp only at h1 h2 h3 h4 h5 ⊢;by_cases huv:u.length=v.length
 ·have hc:=Gh F a u [] v c (by simp;omega) huv;rw[show a++u++[]++v++c=a++u++v++c by simp,show a++v++[]++u++c=a++v++u++c by simp]at hc;repeat' first|refine cB pE ?_|refine aC ?_|with_reducible refine jl hc (hs _) (sI (by simp;omega) ae (by simp;omega) ae) ?_|refine aB ?_ ?_<;>intro hw<;>try omega|fail
  refine⟨rfl,?_⟩;rw[<-h1]
 by_cases hgt:v.length<u.length
 ·obtain⟨u1,u2,rfl,hu⟩:∃ u1 u2,u=u1++u2/\u1.length=v.length:=⟨u.take v.length,u.drop v.length,(dD _ _).symm,by simp;omega⟩;simp only[aA]at h2 h3 h5 hgt huv ⊢;have hc:=Gh F a u1 u2 v c (by simp;omega) hu;rw[show a++u1++u2++v++c=a++(u1++u2)++v++c by simp]at hc;repeat' first|refine cB pE ?_|refine aC ?_|with_reducible refine jl hc (hs _) (sI (by simp;omega) ae ae ae) ?_|refine aB ?_ ?_<;>intro hw<;>try omega|fail
  refine⟨(a++v,u2,u1,c),?_,?_,?_,c8,at_⟩<;>(try dsimp only)
  ·refine⟨?_,?_,?_,?_,?_⟩
   ·rw[<-h1];simp
   all_goals (try rw[aA])
   all_goals omega
  ·simp only[aA];omega
  all_goals simp
 obtain⟨v1,v2,rfl,hv⟩:∃ v1 v2,v=v1++v2/\v2.length=u.length:=⟨v.take (v.length-u.length),v.drop (v.length-u.length),(dD _ _).symm,by simp;omega⟩;simp only[aA]at h4 h5 hgt huv ⊢;have hc:=Gh F a u v1 v2 c (by simp;omega) hv.symm;rw[show a++u++v1++v2++c=a++u++(v1++v2)++c by simp]at hc;repeat' first|refine cB pE ?_|refine aC ?_|with_reducible refine jl hc (hs _) (sI (by simp;omega) ae ae ae) ?_|refine aB ?_ ?_<;>intro hw<;>try omega|fail
 refine⟨(a,v2,v1,u++c),?_,?_,?_,c8,at_⟩<;>(try dsimp only)
 ·refine⟨?_,?_,?_,?_,?_⟩
  ·rw[<-h1];simp
  all_goals (try rw[aA])
  all_goals omega
 ·simp only[aA];omega
 all_goals simp
def pY(F:FuncId)(L:List Row): Prop:= ∀ x ∈ L,∀ y ∈ L,aQ aI F [br x,br y] (I (iS x y))
def pY.sub{F:FuncId}{L M:List Row}(h:pY F L)(hs:∀ x ∈ M,x ∈ L): pY F M:=fun x hx y hy=>h x (hs x hx) y (hs y hy)
def Ta{L:List Row}{x:Row}: x ∈ eR L↔x ∈ L:=(mz L).mem_iff
abbrev Ck(F:FuncId): AV:= .fn (.func F) [] []
def adK{k N N':Nat}{a a' b b':Int}{F:AV}(h0:N=N')(h1:a=a')(h2:b=b'): [AV.own E1 k N 0 N,I a,I b,F]=[AV.own E1 k N' 0 N',I a',I b',F]:=by subst h0;subst h1;subst h2;rfl
def getD_at{L A B:List Row}{x:Row}{i:Nat}(h:L=A++x::B)(hi:i=A.length): L.getD i default=x:=by subst h;subst hi;exact JH
def Tb{A B L:List Row}{x y:Row}{i j:Nat}(h:L=A++y::x::B)(hj:j=A.length)(hi:i=A.length+1): ((L.set i y).set j x)=A++x::y::B:=by
 subst h;subst hj;subst hi;rw[dV _ _ ae];simp
def adL: eR []=[]:=rfl
def UX(s:List Row): s=[]\/ ∃ s' y,s=s'++[y]:=by
 rcases List.eq_nil_or_concat s with h|⟨s',y,h⟩
 ·exact .inl h
 exact .inr ⟨s',y,by simpa using h⟩
def Tc{s1 s2:List Row}{x:Row}{S:List Row}(h:s1++s2=S)(hS:mw S)(h1:s1=[]\/ ∃ s y,s1=s++[y]/\¬ iS x y<0)(h2:∀ y ∈ s2,qp x y): s1++x::s2=eR (x::S):=by
 subst h;refine Cj (OX hS (fun z hz=>?_) h2) List.perm_middle;rcases h1 with rfl|⟨s,y,rfl,hy⟩
 ·cases hz
 have hs:=(fS.1 (fS.1 hS).1).2.2;rcases List.mem_append.1 hz with hz|hz
 ·exact pD (hs z hz y aR) (w8 hy)
 obtain rfl:z=y:=by simpa using hz
 exact w8 hy
def insertion(F:FuncId)(A X R:List Row)(hF:pY F X)(hl:(A++X++R).length<=2 ^ 40): oQ 263 [I A.length,I (A.length+X.length:Nat),Ck F] (A++X++R) (A++eR X++R):=by
 intro σ k iz;have iX:(A++X++R).length=A.length+X.length+R.length:=by simp;omega
 rw[iX]at hl;obtain⟨T,hT⟩:=cq (A++eR X++R);rw[hT,show tS k (A++X++R)=AV.own E1 k (A.length+X.length+R.length) 0 (A.length+X.length+R.length) by rw[<-iX]];have hs:=fun o=>w9 iz o;have pE:∀ o o':aX,(σ.set k o).set k o' = σ.set k o':=fun o o'=>d_ _;have xQ:=hF;unfold pY at xQ;simp only[br]at xQ;refine qQ.go ?_;unfold dO;intro Q aJ aK aL;repeat' first|refine aC ?_|refine aB ?_ ?_<;>intro hw<;>try omega|fail
 with_reducible refine bG [8,2,12,41] (fun i:Nat=>[(8,I (A.length+i:Nat))]) (fun i=>σ.set k (kr (A++(eR (X.take i)++X.drop i)++R))) (fun i=>1<=i/\i<=X.length+1) (fun i=>X.length+1-i) 1 ?_ ?_ ?_ ?_
 ·omega
 ·rw [show eR (X.take 1) ++ X.drop 1 = X by
   rw[Gg,dD];cases X with
   | nil=>exact .nil
   | cons x r=>exact af7 x,pK iz]
 ·exact at_
 rintro i r ⟨h1,h2⟩;by_cases hi:i<X.length
 ·obtain⟨x,hx⟩:=cq (X.getD i default)
  have hdr:X.drop i=x::X.drop (i+1):=by
   rw[dW hi,<-hx,aq,aG hi];rfl
  have Ys:=Nj hi;rw[hx]at Ys;have hlen:(eR (X.take i)).length=i:=by rw[oJ,dL];omega
  have aia:=tR (X.take i);have hxm:x ∈ X:=by rw[<-hx];exact bx hi
  have hSm:∀ z ∈ eR (X.take i),z ∈ X:=fun z hz=>List.mem_of_mem_take (Ta.1 hz);generalize eR (X.take i)=S at *;rw[hdr];obtain⟨D,hD⟩:=cq (X.drop (i+1));have hDl:D.length=X.length-(i+1):=by rw[<-hD,eu]
  rw[hD];repeat' first|refine aC ?_|refine aB ?_ ?_<;>intro hw<;>try omega|fail
  with_reducible refine bG [9,1,18,35] (fun q:List Row × List Row=>[(9,I (A.length+q.1.length:Nat))]) (fun q=>σ.set k (kr (A++q.1++x::q.2++D++R))) (fun q=>q.1++q.2=S/\ ∀ y ∈ q.2,qp x y) (fun q=>q.1.length) (S,[]) ?_ ?_ ?_ ?_
  ·exact⟨List.append_nil _,fun y hy=>by cases hy⟩
  ·simp
  ·exact at_
  rintro⟨s1,s2⟩ r' ⟨g1,g2⟩;dsimp only at g1 g2 ⊢;have hsl:s1.length+s2.length=i:=by rw[<-hlen,<-g1,aA]
  rcases UX s1 with rfl|⟨s,y,rfl⟩
  ·have hd:=Tc g1 aia (.inl rfl) g2;repeat' first|refine aC ?_|refine aB ?_ ?_<;>intro hw<;>try omega|fail
   refine⟨i+1,?_,?_,?_,c8,at_⟩<;>(try dsimp only)
   ·omega
   ·omega
   rw[Ys,<-hd,hD];exact bj (fun l=>σ.set k (kr l)) aR
  obtain⟨M,hM⟩:=cq (A++(s++[y])++x::s2++D++R);have Gi:M=(A++s)++y::x::(s2++D++R):=by rw[<-hM];simp
  have hml:M.length=A.length+X.length+R.length:=by rw[<-hM];simp at hsl ⊢;omega
  have qK:(s++[y]).length=s.length+1:=aR;rw[hM,qK];rw[qK]at hsl;have e1:M.getD (A.length+(s.length+1)) default=x:=getD_at (A:=A++s++[y]) (B:=s2++D++R) (by rw[Gi];simp) (by simp only[aA,aO,bu];omega);have e2:M.getD (A.length+s.length) default=y:=getD_at (A:=A++s) Gi (by simp only[aA]);have e3:(((A.length+(s.length+1):Nat):Int)-1).toNat=A.length+s.length:=ae;have hsw:=Tb (L:=M) (A:=A++s) (B:=s2++D++R) Gi (j:=A.length+s.length) (i:=A.length+(s.length+1)) (by simp only[aA]) (by simp only[aA];omega);have hd:=fun hy=>Tc g1 aia (.inr ⟨s,y,rfl,hy⟩) g2;have cF:=xQ x hxm y (hSm y (by rw[<-g1];simp));repeat' first|simp (disch:=omega) only[go_sem,aJ,aK,aL,hs,pE,hml,Yr,e1,e2,e3,dM,aP,if_false]|refine aC ?_|refine aB ?_ ?_<;>intro hw<;>try omega|fail
  ·refine⟨(s,y::s2),?_,?_,?_,c8,at_⟩<;>(try dsimp only)
   ·refine⟨by rw[<-g1];simp,fun z hz=>?_⟩;rcases List.mem_cons.1 hz with rfl|hz
    ·exact QE hw
    exact g2 z hz
   ·rw[qK];omega
   rw[hsw];exact bj (fun l=>σ.set k (kr l)) aR
  refine⟨i+1,?_,?_,?_,c8,at_⟩<;>(try dsimp only)
  ·omega
  ·omega
  rw[Ys,<-hd ae,hD,<-hM];exact bj (fun l=>σ.set k (kr l)) aR
 repeat' first|refine aC ?_|refine aB ?_ ?_<;>intro hw<;>try omega|fail
 refine⟨rfl,?_⟩;rw[<-hT,bH ae,List.drop_eq_nil_of_le ae,bW]
def SymM(F:FuncId)(n:Nat): Prop:= ∀ A X Y R:List Row,pY F (X++Y)->X.length+Y.length<=n->mw X->mw Y->0<X.length->0<Y.length->(A++X++Y++R).length<=2 ^ 40 ->
 oQ 264 [I A.length,I (A.length+X.length:Nat),I (A.length+X.length+Y.length:Nat),Ck F] (A++X++Y++R) (A++eR (X++Y)++R)
def aaY{A B L:List Row}{x y:Row}{i j:Nat}(h:L=A++x::y::B)(hj:j=A.length)(hi:i=A.length+1): ((L.set j y).set i x)=A++y::x::B:=by
 subst h;subst hj;subst hi;rw[dV _ _ (bf _),dV _ _ ae];simp
def DB(a b:Nat): ((a:Int)+b).fdiv (2 ^ (Int.toNat 1).min 64)=((a+b) / 2:Nat):=by
 show((a:Int)+b).fdiv 2=_;rw[Int.fdiv_eq_ediv_of_nonneg _ da];omega
def aaZ (F : FuncId) (A : List Row) (x : Row) (Y R : List Row) (hF : pY F (x :: Y)) (hY : mw Y) (hY0 : 0 < Y.length) (hl : (A ++ [x] ++ Y ++ R).length <= 2 ^ 40) :
    oQ 264 [I A.length,I (A.length+1:Nat),I (A.length+1+Y.length:Nat),Ck F] (A++[x]++Y++R) (A++eR (x::Y)++R):=by
 intro σ k iz;have iX:(A++[x]++Y++R).length=A.length+1+Y.length+R.length:=by simp;omega
 rw[iX]at hl;obtain⟨T,hT⟩:=cq (A++eR (x::Y)++R);rw[hT,show tS k (A++[x]++Y++R)=AV.own E1 k (A.length+1+Y.length+R.length) 0 (A.length+1+Y.length+R.length) by rw[<-iX]];have hs:=fun o=>w9 iz o;have pE:∀ o o':aX,(σ.set k o).set k o' = σ.set k o':=fun o o'=>d_ _;have xQ:=hF;unfold pY at xQ;simp only[br]at xQ;refine kO.go ?_;unfold dO;intro Q aJ aK aL;repeat' first|refine aC ?_|refine aB ?_ ?_<;>intro hw<;>try omega|fail
 obtain⟨L,hL⟩:=cq (A++[x]++Y++R);rw[hL]at iz iX;have gx:L.getD A.length default=x:=getD_at (A:=A) (B:=Y++R) (by rw[<-hL];simp) rfl
 have gY:∀ t,t<Y.length->L.getD (A.length+1+t) default=Y.getD t default:=fun t ht=>by
  rw[<-hL,aq,aq,aH (by first|(simp;done)|(simp;omega)),bq (by first|(simp;done)|(simp;omega))]
  congr 2
  simp
 with_reducible refine bG [10,3,31,23] (fun q:Nat × Nat=>[(10,I (A.length+1+q.1:Nat)),(11,I (A.length+1+q.2:Nat))]) (fun _=>σ) (fun q=>(q.1<=q.2/\q.2<=Y.length)/\(q.1=0\/qp (Y.getD (q.1-1) default) x)/\(q.2=Y.length\/qp x (Y.getD q.2 default))) (fun q=>q.2-q.1) (0,Y.length) ?_ ?_ ?_ ?_
 ·exact⟨⟨ae,bf _⟩,.inl rfl,.inl rfl⟩
 ·rfl
 ·exact at_
 rintro⟨p,q⟩ r ⟨⟨h1,h2⟩,h3,h4⟩;dsimp only at h1 h2 h3 h4 ⊢;by_cases hpq:p<q
 ·obtain⟨t,ht⟩:=cq ((p+q) / 2);have hlt:L.length=A.length+1+Y.length+R.length:=iX;have hh:(A.length+1+p+(A.length+1+q)) / 2=A.length+1+t:=ae;have cF:=xQ _ (dm x (bx (l:=Y) (i:=t) ae)) x List.mem_cons_self;repeat' first|simp (disch:=omega) only[go_sem,aJ,aK,aL,iz,hlt,DB,hh,gx,gY t ae]|refine aC ?_|refine aB ?_ ?_<;>intro hw<;>try omega|fail
  ·refine⟨(t+1,q),?_,?_,by first|rfl|(simp[go_sem];done),c8,at_⟩<;>(try dsimp only)
   ·exact⟨⟨ae,ae⟩,.inr (QE hw),h4⟩
   omega
  refine⟨(p,t),?_,?_,by first|rfl|(simp[go_sem];done),c8,at_⟩<;>(try dsimp only)
  ·exact⟨⟨ae,ae⟩,h3,.inr (w8 ae)⟩
  omega
 obtain rfl:p=q:=ae;have qK:=S_ hY ae h3 h4;repeat' first|refine aC ?_|refine aB ?_ ?_<;>intro hw<;>try omega|fail
 with_reducible refine bG [13,1,55,22] (fun t:Nat=>[(13,I (A.length+t:Nat))]) (fun t=>σ.set k (kr (A++(Y.take t++x::Y.drop t)++R))) (fun t=>t<=p) (fun t=>p-t) 0 ?_ ?_ ?_ ?_
 ·omega
 ·rw[show A++(Y.take 0++x::Y.drop 0)++R=L by rw[<-hL];simp,pK iz]
 ·exact at_
 rintro t r' h5;by_cases htp:t<p
 ·obtain⟨M,hM⟩:=cq (A++(Y.take t++x::Y.drop t)++R);have ht:t<Y.length:=ae
  have Gi:M=(A++Y.take t)++x::Y[t]::(Y.drop (t+1)++R):=by
   rw[<-hM,dW ht];simp only[aV,bQ]
  have hml:M.length=A.length+1+Y.length+R.length:=by rw[<-hM];simp;omega
  have hal:(A++Y.take t).length=A.length+t:=by rw[aA,dL];omega
  rw[hM];have e1:M.getD (A.length+t) default=x:=getD_at Gi hal.symm;have e2:M.getD (A.length+t+1) default=Y[t]:=getD_at (A:=(A++Y.take t)++[x]) (B:=Y.drop (t+1)++R) (by rw[Gi];simp only[aV,bQ,bX]) (by rw[aA,hal];rfl);have e3:(((A.length+t:Nat):Int)+1).toNat=A.length+t+1:=ae;repeat' first|simp (disch:=omega) only[go_sem,aJ,aK,aL,hs,pE,hml,Yr,e1,e2,e3,dM,aP,if_false]|refine aC ?_|refine aB ?_ ?_<;>intro hw<;>try omega|fail
  refine⟨t+1,?_,?_,?_,c8,at_⟩<;>(try dsimp only)
  ·omega
  ·omega
  rw[aaY Gi hal.symm (by rw[hal])];refine bj (fun l=>σ.set k (kr l)) ?_;rw[jB,aG ht];simp only[aV,bQ,Option.toList_some,bX]
 obtain rfl:t=p:=ae;repeat' first|refine aC ?_|refine aB ?_ ?_<;>intro hw<;>try omega|fail
 refine⟨rfl,?_⟩;rw[qK,hT]
def adM (F : FuncId) (A : List Row) (y : Row) (X R : List Row) (hF : pY F (y :: X)) (hX : mw X) (hX0 : 1 < X.length) (hl : (A ++ X ++ [y] ++ R).length <= 2 ^ 40) :
    oQ 264 [I A.length,I (A.length+X.length:Nat),I (A.length+X.length+1:Nat),Ck F] (A++X++[y]++R) (A++eR (y::X)++R):=by
 intro σ k iz;have iX:(A++X++[y]++R).length=A.length+X.length+1+R.length:=by simp;omega
 rw[iX]at hl;obtain⟨T,hT⟩:=cq (A++eR (y::X)++R);rw[hT,show tS k (A++X++[y]++R)=AV.own E1 k (A.length+X.length+1+R.length) 0 (A.length+X.length+1+R.length) by rw[<-iX]];have hs:=fun o=>w9 iz o;have pE:∀ o o':aX,(σ.set k o).set k o' = σ.set k o':=fun o o'=>d_ _;have xQ:=hF;unfold pY at xQ;simp only[br]at xQ;refine kO.go ?_;unfold dO;intro Q aJ aK aL;repeat' first|refine aC ?_|refine aB ?_ ?_<;>intro hw<;>try omega|fail
 obtain⟨L,hL⟩:=cq (A++X++[y]++R);rw[hL]at iz iX;have gy:L.getD (A.length+X.length) default=y:=getD_at (A:=A++X) (B:=R) (by rw[<-hL];simp) aR
 have gX:∀ t,t<X.length->L.getD (A.length+t) default=X.getD t default:=fun t ht=>by
  rw[<-hL,aq,aq,aV,aV,bq ae,aH ae]
  congr 2
  omega
 with_reducible refine bG [14,3,83,24] (fun q:Nat × Nat=>[(14,I (A.length+q.1:Nat)),(15,I (A.length+q.2:Nat))]) (fun _=>σ) (fun q=>(q.1<=q.2/\q.2<=X.length)/\(q.1=0\/qp (X.getD (q.1-1) default) y)/\(q.2=X.length\/qp y (X.getD q.2 default))) (fun q=>q.2-q.1) (0,X.length) ?_ ?_ ?_ ?_
 ·exact⟨⟨ae,bf _⟩,.inl rfl,.inl rfl⟩
 ·rfl
 ·exact at_
 rintro⟨p,q⟩ r ⟨⟨h1,h2⟩,h3,h4⟩;dsimp only at h1 h2 h3 h4 ⊢;by_cases hpq:p<q
 ·obtain⟨t,ht⟩:=cq ((p+q) / 2);have hlt:L.length=A.length+X.length+1+R.length:=iX;have hh:(A.length+p+(A.length+q)) / 2=A.length+t:=ae;have cF:=xQ y List.mem_cons_self _ (dm y (bx (l:=X) (i:=t) ae));repeat' first|simp (disch:=omega) only[go_sem,aJ,aK,aL,iz,hlt,DB,hh,gy,gX t ae]|refine aC ?_|refine aB ?_ ?_<;>intro hw<;>try omega|fail
  ·refine⟨(t+1,q),?_,?_,by first|rfl|(simp[go_sem];done),c8,at_⟩<;>(try dsimp only)
   ·exact⟨⟨ae,ae⟩,.inr (w8 (a:=y) (b:=X.getD t default) ae),h4⟩
   omega
  refine⟨(p,t),?_,?_,by first|rfl|(simp[go_sem];done),c8,at_⟩<;>(try dsimp only)
  ·exact⟨⟨ae,ae⟩,h3,.inr (QE (a:=y) (b:=X.getD t default) ae)⟩
  omega
 obtain rfl:p=q:=ae;have qK:=S_ hX ae h3 h4;repeat' first|refine aC ?_|refine aB ?_ ?_<;>intro hw<;>try omega|fail
 with_reducible refine bG [17,1,108,21] (fun t:Nat=>[(17,I (A.length+t:Nat))]) (fun t=>σ.set k (kr (A++(X.take t++y::X.drop t)++R))) (fun t=>p<=t/\t<=X.length) (fun t=>t-p) X.length ?_ ?_ ?_ ?_
 ·omega
 ·rw[show A++(X.take X.length++y::X.drop X.length)++R=L by rw[<-hL];simp,pK iz]
 ·exact at_
 rintro t r' ⟨h5,h6⟩;by_cases htp:p<t
 ·obtain⟨u,rfl⟩:∃ u,t=u+1:=⟨t-1,ae⟩;obtain⟨M,hM⟩:=cq (A++(X.take (u+1)++y::X.drop (u+1))++R);have hu:u<X.length:=ae
  have Gi:M=(A++X.take u)++X[u]::y::(X.drop (u+1)++R):=by
   rw[<-hM,jB,aG hu];simp only[aV,bQ,Option.toList_some,bX]
  have hml:M.length=A.length+X.length+1+R.length:=by rw[<-hM];simp;omega
  have hal:(A++X.take u).length=A.length+u:=by rw[aA,dL];omega
  rw[hM];have e1:M.getD (A.length+u) default=X[u]:=getD_at Gi hal.symm;have e2:M.getD (A.length+(u+1)) default=y:=getD_at (A:=(A++X.take u)++[X[u]]) (B:=X.drop (u+1)++R) (by rw[Gi];simp only[aV,bQ,bX]) (by rw[aA,hal];rfl);have e3:(((A.length+(u+1):Nat):Int)-1).toNat=A.length+u:=ae;repeat' first|simp (disch:=omega) only[go_sem,aJ,aK,aL,hs,pE,hml,Yr,e1,e2,e3,dM,aP,if_false]|refine aC ?_|refine aB ?_ ?_<;>intro hw<;>try omega|fail
  refine⟨u,?_,?_,?_,c8,at_⟩<;>(try dsimp only)
  ·omega
  ·omega
  rw[Tb Gi hal.symm (by rw[hal];rfl)];refine bj (fun l=>σ.set k (kr l)) ?_;rw[dW hu];simp only[aV,bQ]
 obtain rfl:t=p:=ae;repeat' first|refine aC ?_|refine aB ?_ ?_<;>intro hw<;>try omega|fail
 refine⟨rfl,?_⟩;rw[qK,hT]
def Wp{x y:List Row}(h:x=[]\/y=[])(hx:mw x)(hy:mw y): eR (x++y)=x++y:=by
 rcases h with rfl|rfl
 ·exact Gg hy
 rw[bW];exact Gg hx
def aa0 (F : FuncId) {n : Nat} (ih : SymM F n) {A X Y R : List Row} (hF : pY F (X ++ Y)) {s w x2 y2 : Nat} (hX : mw X) (hY : mw Y) (lx : X.length = s + x2) (ly : Y.length = w + y2) (hn : X.length + Y.length <= n + 1) (hb : s + w <= n) (iE : x2 + y2 <= n)
    (hl:A.length+(s+x2)+(w+y2)+R.length<=2 ^ 40) (h5:s=0\/y2=0\/¬ iS (Y.getD w default) (X.getD (s-1) default)<0) (h6:x2=0\/w=0\/iS (Y.getD (w-1) default) (X.getD s default)<0) :
    ∃ D1 D2 : List Row, D1.length = A.length + (s + x2) + (w + y2) + R.length /\ D2.length = A.length + (s + x2) + (w + y2) + R.length /\
      (¬ (0<x2/\0<w)->A++X++Y++R=D1)/\(¬ (0<s/\0<w)->D1=D2)/\(¬ (0<x2/\0<y2)->D2=A++eR (X++Y)++R) /\
      (0<x2->0<w->oQ 285 [I (A.length+s:Nat),I (A.length+s+x2:Nat),I (A.length+s+x2+w:Nat),Ck F] (A++X++Y++R) D1) /\
      (0<s->0<w->oQ 264 [I A.length,I (A.length+s:Nat),I (A.length+s+w:Nat),Ck F] D1 D2) /\
      (0<x2->0<y2->oQ 264 [I (A.length+(s+w):Nat),I (A.length+(s+w)+x2:Nat),I (A.length+(s+w)+x2+y2:Nat),Ck F] D2 (A++eR (X++Y)++R)):=by
 have hme:=adI hX hY (h:=s+w) (s:=s) ae ae ae (by
  rw[Nat.add_sub_cancel_left];rcases h5 with h5|h5|h5
  ·exact .inl h5
  ·exact .inr (.inl ae)
  ·exact .inr (.inr h5)) (by
  rw[show s+w-1-s=w-1 by omega];rcases h6 with h6|h6|h6
  ·exact .inl ae
  ·exact .inr (.inl ae)
  ·exact .inr (.inr h6))
 clear h5 h6;rw[Nat.add_sub_cancel_left]at hme;have x12:=dD s X;have y12:=dD w Y;have lX1:(X.take s).length=s:=by rw[dL];omega
 have lX2:(X.drop s).length=x2:=by rw[eu];omega
 have lY1:(Y.take w).length=w:=by rw[dL];omega
 have lY2:(Y.drop w).length=y2:=by rw[eu];omega
 have sX1:mw (X.take s):=hX.sublist (List.take_sublist _ _);have sX2:mw (X.drop s):=hX.sublist (List.drop_sublist _ _);have sY1:mw (Y.take w):=hY.sublist (List.take_sublist _ _);have sY2:mw (Y.drop w):=hY.sublist (List.drop_sublist _ _)
 have hF1:pY F (X.take s++Y.take w):=hF.sub fun z hz=>by
  rcases List.mem_append.1 hz with hz|hz
  ·exact eK _ (List.mem_of_mem_take hz)
  exact fG _ (List.mem_of_mem_take hz)
 have hF2:pY F (X.drop s++Y.drop w):=hF.sub fun z hz=>by
  rcases List.mem_append.1 hz with hz|hz
  ·exact eK _ (jv hz)
  exact fG _ (jv hz)
 clear hF;generalize X.take s=X1 at *;generalize X.drop s=X2 at *;generalize Y.take w=Y1 at *;generalize Y.drop w=Y2 at *;have lS:(eR (X1++Y1)).length=s+w:=by rw[oJ,aA,lX1,lY1]
 have hL:A++X++Y++R=(A++X1)++X2++Y1++(Y2++R):=by rw[<-x12,<-y12];simp only[aV]
 have hT:A++eR (X1++Y1)++eR (X2++Y2)++R=A++eR (X++Y)++R:=by rw[<-hme];simp only[aV]
 have lAX:(A++X1).length=A.length+s:=by rw[aA,lX1]
 have lAS:(A++eR (X1++Y1)).length=A.length+(s+w):=by rw[aA,lS]
 rw[hL,<-hT];clear hme x12 y12 hL hT hX hY;refine⟨(A++X1)++Y1++X2++(Y2++R),A++eR (X1++Y1)++(X2++Y2++R),?_,?_,fun hc=>?_,fun hc=>?_,fun hc=>?_,fun h1 h2=>?_,fun h1 h2=>?_,fun h1 h2=>?_⟩
 ·simp only[aA];omega
 ·simp only[aA,lS];omega
 ·by_cases hc1:0<x2
  ·obtain rfl:Y1=[]:=dn.1 ae;simp
  obtain rfl:X2=[]:=dn.1 ae;simp
 ·rw [Wp (x := X1) (y := Y1) (by
   by_cases hc1:0<s
   ·exact .inr (dn.1 ae)
   ·exact .inl (dn.1 ae)) sX1 sY1]
  simp only[aV]
 ·rw [Wp (x := X2) (y := Y2) (by
   by_cases hc1:0<x2
   ·exact .inr (dn.1 ae)
   ·exact .inl (dn.1 ae)) sX2 sY2]
  simp only[aV]
 ·have:=rotate (Ck F) (A++X1) X2 Y1 (Y2++R) (by simp only[aA];omega) ae ae;rwa[lAX,lX2,lY1]at this
 ·have:=ih A X1 Y1 (X2++Y2++R) hF1 ae sX1 sY1 ae ae (by simp only[aA];omega);rw[lX1,lY1]at this;rwa[show A++X1++Y1++(X2++Y2++R)=A++X1++Y1++X2++(Y2++R) by simp only[aV]]at this
 have:=ih (A++eR (X1++Y1)) X2 Y2 R hF2 ae sX2 sY2 ae ae (by simp only[aA,lS];omega);rw[lAS,lX2,lY2]at this;rwa[show A++eR (X1++Y1)++X2++Y2++R=A++eR (X1++Y1)++(X2++Y2++R) by simp only[aV]]at this
def adN (F : FuncId) (n : Nat) (ih : SymM F n) (A X Y R : List Row) (hF : pY F (X ++ Y)) (hn : X.length + Y.length <= n + 1) (hX : mw X) (hY : mw Y) (hX1 : 1 < X.length) (hY1 : 1 < Y.length) (hl : (A ++ X ++ Y ++ R).length <= 2 ^ 40) :
    oQ 264 [I A.length,I (A.length+X.length:Nat),I (A.length+X.length+Y.length:Nat),Ck F] (A++X++Y++R) (A++eR (X++Y)++R):=by
 intro σ k iz;have iX:(A++X++Y++R).length=A.length+X.length+Y.length+R.length:=by simp only[aA]
 rw[iX]at hl;obtain⟨T,hT⟩:=cq (A++eR (X++Y)++R);rw[hT,show tS k (A++X++Y++R)=AV.own E1 k (A.length+X.length+Y.length+R.length) 0 (A.length+X.length+Y.length+R.length) by rw[<-iX]];have hs:=fun o=>w9 iz o;have pE:∀ o o':aX,(σ.set k o).set k o' = σ.set k o':=fun o o'=>d_ _;have xQ:=hF;unfold pY at xQ;simp only[br]at xQ;obtain⟨L,hL⟩:=cq (A++X++Y++R);rw[hL]at iz iX;obtain⟨h,hh⟩:=cq ((X.length+Y.length) / 2);have aib:(A.length+(A.length+X.length+Y.length)) / 2=A.length+h:=ae
 have gX:∀ t,t<X.length->L.getD (A.length+t) default=X.getD t default:=fun t ht=>by
  rw[<-hL,aq,aq,aV,aV,bq ae,aH ae]
  congr 2
  omega
 have gY:∀ t,t<Y.length->L.getD (A.length+X.length+t) default=Y.getD t default:=fun t ht=>by
  rw[<-hL,aq,aq,aV,bq (by rw[aA];omega),aH (by rw[aA];omega)]
  congr 2
  rw[aA];omega
 refine kO.go ?_;unfold dO;intro Q aJ aK aL;rcases Nat.lt_or_ge h X.length with hm|hm
 all_goals
  repeat' first|simp (disch:=omega) only[go_sem,aJ,aK,aL,DB,aib]|refine aC ?_|refine aB ?_ ?_<;>intro hw<;>try omega|fail
  with_reducible refine bG [20,2,23,1,149,26] (fun q:Nat × Nat=>[(20,I (A.length+q.1:Nat)),(21,I (A.length+q.2:Nat))]) (fun _=>σ.set k (kr L)) (fun q=>(h-Y.length<=q.1/\q.1<=q.2/\q.2<=X.length/\q.2<=h)/\(q.1=h-Y.length\/¬ iS (Y.getD (h-q.1) default) (X.getD (q.1-1) default)<0)/\(q.2=X.length\/q.2=h\/iS (Y.getD (h-1-q.2) default) (X.getD q.2 default)<0)) (fun q=>q.2-q.1) (h-Y.length,min X.length h) ?_ ?_ ?_ ?_
  ·refine⟨⟨ae,ae,ae,ae⟩,.inl rfl,?_⟩;dsimp only;omega
  ·exact(pK iz).symm
  ·exact at_
  rintro⟨s,u⟩ r ⟨⟨h1,h2,h3,h4⟩,h5,h6⟩;dsimp only at h1 h2 h3 h4 h5 h6 ⊢;by_cases hsu:s<u
  ·obtain⟨t,ht⟩:=cq ((s+u) / 2);have hlt:L.length=A.length+X.length+Y.length+R.length:=iX;have hc:(A.length+s+(A.length+u)) / 2=A.length+t:=ae;have e1:(((A.length+h:Nat):Int)+(A.length+X.length:Nat)-1-(A.length+t:Nat)).toNat=A.length+X.length+(h-1-t):=ae;have cF:=xQ _ (fG X (bx (l:=Y) (i:=h-1-t) ae)) _ (eK Y (bx (l:=X) (i:=t) ae));repeat' first|simp (disch:=omega) only[go_sem,aJ,aK,aL,hs,hlt,DB,hc,e1,gX t ae,gY (h-1-t) ae]|refine aC ?_|refine aB ?_ ?_<;>intro hw<;>try omega|fail
   ·refine⟨(t+1,u),?_,?_,by first|rfl|(simp[go_sem];done),c8,at_⟩<;>(try dsimp only)
    ·refine⟨⟨ae,ae,ae,ae⟩,.inr ?_,h6⟩;show ¬ iS (Y.getD (h-(t+1)) default) (X.getD t default)<0;rw[show h-(t+1)=h-1-t by omega];omega
    omega
   refine⟨(s,t),?_,?_,by first|rfl|(simp[go_sem];done),c8,at_⟩<;>(try dsimp only)
   ·exact⟨⟨ae,ae,ae,ae⟩,h5,.inr (.inr hw)⟩
   omega
  obtain rfl:s=u:=ae;obtain⟨w,hw⟩:∃ w,h=s+w:=⟨h-s,ae⟩;obtain⟨x2,nM⟩:∃ x2,X.length=s+x2:=⟨X.length-s,ae⟩;obtain⟨y2,VB⟩:∃ y2,Y.length=w+y2:=⟨Y.length-w,ae⟩;have b1:s+w<=n:=by clear h5 h6;omega
  have b2:x2+y2<=n:=by clear h5 h6;omega
  have H_:s=0\/y2=0\/¬ iS (Y.getD w default) (X.getD (s-1) default)<0:=by
   clear h6;rcases h5 with h5|h5
   ·by_cases h0:s=0
    ·exact .inl h0
    exact .inr (.inl ae)
   rw[hw,Nat.add_sub_cancel_left]at h5;exact .inr (.inr h5)
  have h6':x2=0\/w=0\/iS (Y.getD (w-1) default) (X.getD s default)<0:=by
   clear h5 H_;rcases h6 with h6|h6|h6
   ·exact .inl ae
   ·exact .inr (.inl ae)
   rw[hw,show s+w-1-s=w-1 by omega]at h6;exact .inr (.inr h6)
  clear h5 h6;rw[nM,VB]at iX hl;obtain⟨D1,D2,ld1,ld2,q01,Wq,Cl,p01,Wr,Cm⟩:=aa0 F ih (A:=A) (R:=R) hF hX hY nM VB hn b1 b2 hl H_ h6';clear H_ h6' b1 b2 hn gX gY xQ;rw[hL]at q01 p01;rw[hT]at Cl Cm;rw[nM,VB,hw];clear hh aib hm h1 h2 h3 h4 hsu hX1 hY1 hL hX hY hT nM VB hw ih hF iz;by_cases c1:0<x2/\0<w
  ·have pa:=p01 c1.1 c1.2;clear p01 q01;by_cases c2:0<s/\0<w
   ·have pb:=Wr c2.1 c2.2;clear Wr Wq;by_cases c3:0<x2/\0<y2
    ·have pc:=Cm c3.1 c3.2;clear Cm Cl;repeat' first|refine cB pE ?_|refine aC ?_|with_reducible refine jl pa (hs _) (sI ae ae ae ae) ?_|with_reducible refine jl pb (hs _) (sI ae ae ae ae) ?_|with_reducible refine jl pc (hs _) (sI ae ae ae ae) ?_|refine aB ?_ ?_<;>intro hw<;>try omega|fail
     all_goals first|exact⟨rfl,trivial⟩|exact⟨rfl,rfl⟩
    have e:=Cl c3;clear Cm Cl;subst e;repeat' first|refine cB pE ?_|refine aC ?_|with_reducible refine jl pa (hs _) (sI ae ae ae ae) ?_|with_reducible refine jl pb (hs _) (sI ae ae ae ae) ?_|refine aB ?_ ?_<;>intro hw<;>try omega|fail
    all_goals first|exact⟨rfl,trivial⟩|exact⟨rfl,rfl⟩
   have e:=Wq c2;clear Wr Wq;subst e;by_cases c3:0<x2/\0<y2
   ·have pc:=Cm c3.1 c3.2;clear Cm Cl;repeat' first|refine cB pE ?_|refine aC ?_|with_reducible refine jl pa (hs _) (sI ae ae ae ae) ?_|with_reducible refine jl pc (hs _) (sI ae ae ae ae) ?_|refine aB ?_ ?_<;>intro hw<;>try omega|fail
    all_goals first|exact⟨rfl,trivial⟩|exact⟨rfl,rfl⟩
   have e:=Cl c3;clear Cm Cl;subst e;repeat' first|refine cB pE ?_|refine aC ?_|with_reducible refine jl pa (hs _) (sI ae ae ae ae) ?_|refine aB ?_ ?_<;>intro hw<;>try omega|fail
   all_goals first|exact⟨rfl,trivial⟩|exact⟨rfl,rfl⟩
  have e:=q01 c1;clear p01 q01;subst e;by_cases c2:0<s/\0<w
  ·have pb:=Wr c2.1 c2.2;clear Wr Wq;by_cases c3:0<x2/\0<y2
   ·have pc:=Cm c3.1 c3.2;clear Cm Cl;repeat' first|refine cB pE ?_|refine aC ?_|with_reducible refine jl pb (hs _) (sI ae ae ae ae) ?_|with_reducible refine jl pc (hs _) (sI ae ae ae ae) ?_|refine aB ?_ ?_<;>intro hw<;>try omega|fail
    all_goals first|exact⟨rfl,trivial⟩|exact⟨rfl,rfl⟩
   have e:=Cl c3;clear Cm Cl;subst e;repeat' first|refine cB pE ?_|refine aC ?_|with_reducible refine jl pb (hs _) (sI ae ae ae ae) ?_|refine aB ?_ ?_<;>intro hw<;>try omega|fail
   all_goals first|exact⟨rfl,trivial⟩|exact⟨rfl,rfl⟩
  have e:=Wq c2;clear Wr Wq;subst e;by_cases c3:0<x2/\0<y2
  ·have pc:=Cm c3.1 c3.2;clear Cm Cl;repeat' first|refine cB pE ?_|refine aC ?_|with_reducible refine jl pc (hs _) (sI ae ae ae ae) ?_|refine aB ?_ ?_<;>intro hw<;>try omega|fail
   all_goals first|exact⟨rfl,trivial⟩|exact⟨rfl,rfl⟩
  have e:=Cl c3;clear Cm Cl;subst e;repeat' first|refine cB pE ?_|refine aC ?_|refine aB ?_ ?_<;>intro hw<;>try omega|fail
  all_goals first|exact⟨rfl,trivial⟩|exact⟨rfl,rfl⟩
def adO(F:FuncId): ∀ n,SymM F n:=by
 intro n
 induction n with
 | zero=>intro A X Y R _ hn _ _ hX _;omega
 | succ n ih =>
   intro A X Y R hF hn hX hY hX0 hY0 hl;by_cases h1:X.length=1
   ·obtain⟨x,rfl⟩:=List.length_eq_one_iff.1 h1;exact aaZ F A x Y R hF hY hY0 hl
   by_cases h2:Y.length=1
   ·obtain⟨y,rfl⟩:=List.length_eq_one_iff.1 h2;rw[DA (List.perm_append_comm:(X++[y]).Perm ([y]++X))];exact adM F A y X R (hF.sub fun z hz=>by simpa[or_comm]using hz) hX ae hl
   exact adN F n ih A X Y R hF hn hX hY ae ae hl
def Td(F:FuncId)(L:List Row)(hF:pY F L)(hl:L.length<20): oQ 236 [I L.length,Ck F] L (eR L):=by
 intro σ k iz;have hs:=fun o=>w9 iz o;have pE:∀ o o':aX,(σ.set k o).set k o' = σ.set k o':=fun o o'=>d_ _;have h1:=insertion F [] L [] hF (by simp;omega);simp only[bX,bW]at h1;obtain⟨T,hT⟩:=cq (eR L);rw[hT]at h1 ⊢;refine og.go ?_;unfold dO;intro Q aJ aK aL;repeat' first|refine aC ?_|refine aB ?_ ?_<;>intro hw<;>try omega|fail
 with_reducible refine bG [7,2,11,12] (fun q:Nat=>[(7,I 0),(8,I 20)]) (fun q=>σ) (fun q=>True) (fun q=>q) 0 ?_ ?_ ?_ ?_
 ·trivial
 ·rfl
 ·exact at_
 rintro q r -;repeat' first|refine cB pE ?_|refine aC ?_|with_reducible refine jl h1 iz (adK rfl aR aR) ?_|refine aB ?_ ?_<;>intro hw<;>try omega|fail
 with_reducible refine bG [6,4,28,35] (fun q:Nat=>[(6,I 20)]) (fun q=>σ.set k (kr T)) (fun q=>True) (fun q=>q) 0 ?_ ?_ ?_ ?_
 ·trivial
 ·rfl
 ·exact at_
 rintro q' r' -;repeat' first|refine aC ?_|refine aB ?_ ?_<;>intro hw<;>try omega|fail
 exact⟨rfl,trivial⟩
def Te(F:FuncId)(X Y:List Row)(hF:pY F (X++Y))(hX:X.length=20)(hY:Y.length<20): oQ 236 [I (20+Y.length:Nat),Ck F] (X++Y) (eR (X++Y)):=by
 intro σ k iz;have hs:=fun o=>w9 iz o;have pE:∀ o o':aX,(σ.set k o).set k o' = σ.set k o':=fun o o'=>d_ _;have h1:=insertion F [] X Y (hF.sub fun z hz=>eK _ hz) (by simp;omega);have h2:=insertion F (eR X) Y [] (hF.sub fun z hz=>fG _ hz) (by simp[oJ];omega);have h3:=fun(hy:0<Y.length)=>adO F (20+Y.length) [] (eR X) (eR Y) [] (hF.sub fun z hz=>by simpa[Ta]using hz) (by simp[oJ];omega) (tR _) (tR _) (by rw[oJ];omega) (by rw[oJ];exact hy) (by simp[oJ];omega);simp only[bX,bW]at h1 h2 h3;rw[DA ((mz X).append (mz Y))]at h3
 have hy0:¬ 0<Y.length->eR X++eR Y=eR (X++Y):=fun h=>by
  obtain rfl:Y=[]:=dn.1 ae;simp[adL]
 obtain⟨T,hT⟩:=cq (eR (X++Y));rw[hT]at h3 hy0 ⊢;have lX:(eR X).length=20:=by rw[oJ];exact hX
 have lY:(eR Y).length=Y.length:=oJ Y;have lL:(X++Y).length=20+Y.length:=by simp;omega
 rw[show tS k (X++Y)=AV.own E1 k (20+Y.length) 0 (20+Y.length) by rw[<-lL]];generalize eR X=SX at *;generalize eR Y=SY at *;refine og.go ?_;unfold dO;intro Q aJ aK aL;repeat' first|refine aC ?_|refine aB ?_ ?_<;>intro hw<;>try omega|fail
 with_reducible refine bG [7,2,11,12] (fun q:Nat=>[(7,I (20*q:Nat)),(8,I (20*q+20:Nat))]) (fun q=>σ.set k (kr (if q=0 then X++Y else SX++Y))) (fun q=>q<=1) (fun q=>1-q) 0 ?_ ?_ ?_ ?_
 ·omega
 ·rw[au rfl,pK iz]
 ·exact at_
 rintro q r hq;rcases(show q=0\/q=1 by omega)with rfl|rfl
 ·rw[au rfl];repeat' first|refine cB pE ?_|refine aC ?_|with_reducible refine jl h1 (hs _) (adK (by simp;omega) aR (by simp;omega)) ?_|refine aB ?_ ?_<;>intro hw<;>try omega|fail
  refine⟨1,?_,?_,?_,c8,at_⟩<;>(try dsimp only)
  ·omega
  ·omega
  rw[aj da]
 rw[aj da];repeat' first|refine cB pE ?_|refine aC ?_|with_reducible refine jl h2 (hs _) (adK (by simp;omega) ae ae) ?_|refine aB ?_ ?_<;>intro hw<;>try omega|fail
 by_cases hy:0<Y.length
 ·have h3:=h3 hy;with_reducible refine bG [6,4,28,35] (fun q:Nat=>[(6,I (20*(q+1):Nat))]) (fun q=>σ.set k (kr (if q=0 then SX++SY else T))) (fun q=>q<=1) (fun q=>1-q) 0 ?_ ?_ ?_ ?_
  ·omega
  ·rfl
  ·exact at_
  rintro q r hq;rcases(show q=0\/q=1 by omega)with rfl|rfl
  ·rw[au rfl];repeat' first|refine aC ?_|refine aB ?_ ?_<;>intro hw<;>try omega|fail
   with_reducible refine bG [7,2,33,16] (fun q:Nat=>[(7,I 0),(8,I 40)]) (fun q=>σ.set k (kr (SX++SY))) (fun q=>True) (fun q=>q) 0 ?_ ?_ ?_ ?_
   ·trivial
   ·rfl
   ·exact at_
   rintro q' r' -;repeat' first|refine cB pE ?_|refine aC ?_|with_reducible refine jl h3 (hs _) (sI (by simp;omega) aR (by simp;omega) (by simp;omega)) ?_|refine aB ?_ ?_<;>intro hw<;>try omega|fail
   refine⟨1,?_,?_,?_,c8,at_⟩<;>(try dsimp only)
   ·omega
   ·omega
   rw[aj da]
  rw[aj da];repeat' first|refine aC ?_|refine aB ?_ ?_<;>intro hw<;>try omega|fail
  exact⟨rfl,trivial⟩
 with_reducible refine bG [6,4,28,35] (fun q:Nat=>[(6,I 20)]) (fun q=>σ.set k (kr (SX++SY))) (fun q=>True) (fun q=>q) 0 ?_ ?_ ?_ ?_
 ·trivial
 ·rfl
 ·exact at_
 rintro q r -;repeat' first|refine aC ?_|refine aB ?_ ?_<;>intro hw<;>try omega|fail
 exact⟨rfl,by rw[hy0 hy]⟩
def aic(F:FuncId)(L:List Row)(hF:pY F L)(hl:L.length<40): oQ 236 [I L.length,Ck F] L (eR L):=by
 by_cases h:L.length<20
 ·exact Td F L hF h
 have:=Te F (L.take 20) (L.drop 20) (by rw[dD];exact hF) (by rw[dL];omega) (by rw[eu];omega);rwa[dD,show 20+(L.drop 20).length=L.length by rw[eu];omega]at this
def Yt(F:FuncId)(L:List Row)(hF:pY F L)(hl:L.length<40): oQ 191 [Ck F] L (eR L):=by
 intro σ k iz;have h:=aic F L hF hl;obtain⟨T,hT⟩:=cq (eR L);rw[hT]at h ⊢;refine uk.go ?_;unfold dO;intro Q aJ aK aL;repeat' first|refine aC ?_|with_reducible refine jl h iz rfl ?_|refine aB ?_ ?_<;>intro hw<;>try omega|fail
 exact⟨rfl,trivial⟩
end Go.Proofs.YtoldfccfpameeaaGreatDoor
namespace Go.AM
variable {P:Program}
def zk: FrameMode->FrameMode
 | .panicking ({ v,recovered:=false,goexit:=false }::older)=> .panicking ({ v,recovered:=true }::older)
 | u=>u
def Aq(g:aN)(w:World): Option AV->FrameMode->Prop
 | none,u=>u = .returning
 | some a,u=> ∃ v,u = .panicking [{ v,recovered:=false }]/\VR g w a v
def uS(P:Program)(n:FuncId)(args:List AV)(pv:Option AV)(σ : ai)(R:ai->Prop): Prop :=
 Has P n/\ ∀(g:aN) (w:World) (vs:Array Value) (u:FrameMode),Rel g w σ->args.length=vs.size->(∀ i,i<args.length->VR g w (args.getD i .undef) (vs.getD i Go.undef))->Aq g w pv u ->
  CallsDIn (WF none) 0 P n vs u w fun e u' w'=> ∃ g' σ' v,e = .returned v/\u'=zk u/\Rel g' w' σ'/\gk σ g w σ' g' w'/\R σ'
structure DC where
 nt:Nat
 k:Nat
 mvs:List (AX × Option Nat)
 rest:dI
def si(nt:Nat): List Oper->Option (List (AX × Option Nat))
 | []=>some []
 | o :: r => match o.op, o.guard with
   | .assign x, none => match cX nt x, si nt r with
     | some ax,some l=>some ((ax,o.dst)::l)
     | _,_=>none
   | .move x, none => match cX nt x, si nt r with
     | some ax,some l=>some ((ax,o.dst)::l)
     | _,_=>none
   | _,_=>none
def OY(o:Oper): Option Nat:=match o.op,o.guard with
 | .call c, none => match c.callee with
   | .builtin .recover=>o.dst
   | _=>none
 | _,_=>none
def JI(P:Program)(h:Hints)(fn:Func): Option DC :=
 match fn.body,fn.results.toList with
 | some (.seq (.region _ ops false) b), [] => match ops.toList with
   | o :: r => match OY o, si fn.ntmps r, dS P fn.ntmps h false b with
     | some k,some l,some c=>if c.nB=false then some ⟨fn.ntmps,k,l,c⟩else none
     | _,_,_=>none
   | []=>none
 | _,_=>none
def Nk: List (AX × Option Nat)->(Env->Prop)->Env->Prop
 | [],K,e=>K e
 |(x,d)::r,K,e=>Nk r K (eP e d (x.ev e))
def Nl(R:ai->Prop): AQ
 | .normal,_,σ=>R σ
 | .ret,_,σ=>R σ
 | _,_,_=>False
def DC.wp(P:Program)(f:DC)(pv:Option AV)(R:ai->Prop)(e:Env)(σ : ai): Prop:=Nk f.mvs (fun e=>jF P f.rest (Nl R) e σ) (eP e (some f.k) (pv.getD .jR))
def Qj {F : Fence} {n : Nat} {ops : Array Oper} {Q : Exit -> Act -> List Frame -> World -> Prop} {i : Nat} {l : List Nat} {a : Act} {cs : List Frame} {w : World} {o : Oper} {x : Operand} (ho : ops[i]? = some o) (hop : o.op = .assign x \/ o.op = .move x) (hg : o.guard = none)
    (hF:∀ f,F.fn f) (h:wpOpsSIn F n P ops Q l (a.put o.dst (a.eval x)) cs w):wpOpsSIn F n P ops Q (i::l) a cs w:=by
 simp only[wpOpsSIn,ho];refine⟨fun f _=>hF f,?_⟩;have hw:Region.wanted o (yielded ops a.tmps)=true:=by simp[Region.wanted,hg]
 rw[au hw]
 have hx:(execOp a.eval o).run P w = .ok (.value (a.eval x)) w:=by
  unfold execOp;rcases hop with hop|hop<;>simp only[hop]<;>rfl
 rw[hx];exact h
def aa1 {nt : Nat} {ops : Array Oper} {Q : Exit -> Act -> List Frame -> World -> Prop} {cs : List Frame} {w : World} {g : aN} {K : Env -> Prop} : ∀ (l : List Oper) (i : Nat) (ms : List (AX × Option Nat)) (e : Env) (a : Act),
    si nt l=some ms->(∀ j,j<l.length->ops[i+j]? = l[j]?)->Nk ms K e->iG nt g w e a.tmps->(∀ e' a',K e'->iG nt g w e' a'.tmps->a'.defers=a.defers->Q .normal a' cs w) ->
    wpOpsSIn (WF none) 0 P ops Q (List.range' i l.length) a cs w:=by
 intro l
 induction l with
 | nil=>intro i ms e a hc _ hw hE hK;cases hc;exact hK e a hw hE rfl
 | cons o l ih =>
   intro i ms e a hc hidx hw hE hK;have h0:ops[i]? = some o:=by simpa using hidx 0 aR
   have Qw:∀ j,j<l.length->ops[i+1+j]? = l[j]?:=fun j hj=>by
    have:=hidx (j+1) (by simpa using hj);simpa[dB,Nat.add_comm 1 j]using this
   rw[aO,List.range'_succ]
   have go:∀ (x:Operand) (ax:AX) (ms':List (AX × Option Nat)),(o.op = .assign x\/o.op = .move x)->o.guard=none->cX nt x=some ax->si nt l=some ms'->Nk ms' K (eP e o.dst (ax.ev e))->wpOpsSIn (WF none) 0 P ops Q (i::List.range' (i+1) l.length) a cs w:=by
    intro x ax ms' hop hg hx yR hw;refine Qj h0 hop hg (fun _=>trivial) (ih (i+1) ms' _ _ yR Qw hw (hE.put o.dst (cV hx hE)) (fun e' a' k1 k2 k3=>hK e' a' k1 k2 (k3.trans (put_defers _ _ _))))
   simp only[si]at hc;split at hc
   ·rename_i x hop hg;split at hc
    ·rename_i ax ms' h1 h2;cases hc;exact go x ax ms' (.inl hop) hg h1 h2 hw
    ·cases hc
   ·rename_i x hop hg;split at hc
    ·rename_i ax ms' h1 h2;cases hc;exact go x ax ms' (.inr hop) hg h1 h2 hw
    ·cases hc
   ·cases hc
def Aq.recover {g : aN} {w : World} {pv : Option AV} {u : FrameMode} {c₀ : Frame} {cs : List Frame} (h : Aq g w pv u) (hm : c₀.mode = u) :
    ∃ v cs',(match recoverD (c₀::cs)with|some (v,cs')=>(v,cs')|none=>(Value.nilIface,c₀::cs))=(v,cs')/\VR g w (pv.getD .jR) v/\cs' = { c₀ with mode:=zk u }::cs:=by
 cases pv with
 | none =>
   have h:u = .returning:=h;subst h;refine⟨.nilIface,c₀::cs,?_,.jR,?_⟩
   ·simp[recoverD,hm]
   have:({ c₀ with mode:=zk .returning }:Frame)=c₀:=by rw[show zk .returning=c₀.mode by rw[hm];rfl]
   rw[this]
 | some a =>
   obtain⟨v,h,hv⟩:=h;subst h;exact⟨v,{ c₀ with mode:= .panicking [{ v,recovered:=true }] }::cs,by simp[recoverD,hm],hv,by simp[zk]⟩
def uS.of_wp {n : FuncId} {fn : Func} {h : Hints} {rf : DC} {args : List AV} {pv : Option AV} {σ : ai} {R : ai → Prop} (hf : P.funcs[n]? = some fn) (hn : (fn.name == "runtime.NumGoroutine") = false) (hc : JI P h fn = some rf)
    (hl:args.length<=rf.nt) (hw:rf.wp P pv R (kU args) σ):uS P n args pv σ R:=by
 unfold JI at hc;split at hc
 ·rename_i id ops b hb hres;split at hc
  ·rename_i o r Mt;split at hc
   ·rename_i k ms c h1 h2 h3;split at hc
    case isFalse=>cases hc
    rename_i h4;cases hc;refine⟨⟨fn,hf,by simp[hb],hn⟩,fun g w vs u hR hlen hv hu=>?_⟩;refine callsDIn_of_wpSIn (F:=WF none) (n:=0) hf hb trivial fun c₀ cs hm=>?_;have h0:ops[0]? = some o:=by rw[<-Array.getElem?_toList,Mt];rfl
    have hsz:ops.size=r.length+1:=by rw[<-eX,Mt];rfl
    obtain⟨v,cs',Gj,hvr,hcs⟩:=hu.recover (c₀:=c₀) (cs:=cs) hm
    have hE0:iG fn.ntmps g w (kU args) (vs++Array.replicate (fn.ntmps-vs.size) Go.undef):=by
     refine⟨?_,fun t ht=>?_⟩
     ·simp only at hl;simp;omega
     by_cases h:t<args.length
     ·have h3:t<vs.size:=ae;have:=hv t h;simp only[kU];rw[eW,e8 h3];simpa using this
     have:kU args t = .undef:=by simp[kU,iy (ja h)]
     rw[this];exact .undef _
    have adP:o.dst=some k/\o.guard=none/\ ∃ c,o.op = .call c/\c.callee = .builtin .recover:=by
     unfold OY at h1;split at h1
     ·rename_i c hop hg;split at h1
      ·rename_i Tf;exact⟨h1,hg,c,hop,Tf⟩
      ·cases h1
     ·cases h1
    obtain⟨hd,hg,cc,hop,Tf⟩:=adP;refine wpSIn_seq (wpSIn_region ?_);rw[hsz,ju,List.range'_succ];simp only[wpOpsSIn,h0];refine⟨fun f _=>trivial,?_⟩;have amd:Region.wanted o (yielded ops (vs++Array.replicate (fn.ntmps-vs.size) Go.undef))=true:=by simp[Region.wanted,hg]
    rw[au amd]
    have hx:∀ ρ : Operand->Value,(execOp ρ o).run P w = .ok .recover w:=fun ρ=>by
     unfold execOp;simp only[hop,resolve,Tf,Sem.run_bind,Sem.run_pure,Result.andThen_ok];rfl
    rw[hx]
    have fin:wpOpsSIn (WF none) 0 P ops (Exit.thenS (b.wpSIn (WF none) 0 P (bodyPostS P fn c₀ cs fun e u' w'=> ∃ g' σ' v,e = .returned v/\u'=zk u/\Rel g' w' σ'/\gk σ g w σ' g' w'/\R σ')) (bodyPostS P fn c₀ cs fun e u' w'=> ∃ g' σ' v,e = .returned v/\u'=zk u/\Rel g' w' σ'/\gk σ g w σ' g' w'/\R σ'))
     (List.range' (0+1) r.length) (Act.put { tmps:=vs++Array.replicate (fn.ntmps-vs.size) Go.undef,defers:=[] } o.dst v) cs' w:=by
     refine aa1 (g:=g) (nt:=fn.ntmps) (K:=fun e=>jF P c (Nl R) e σ) r 1 ms (eP (kU args) (some k) (pv.getD .jR)) _ h2 (fun j hj=>?_) hw ?_ ?_
     ·rw[<-Array.getElem?_toList,Mt,Nat.add_comm];rfl
     ·rw[hd];exact hE0.put (a:= { tmps:=_,defers:=[] }) (some k) hvr
     intro e' a' hK ZW hdf;rw[put_defers]at hdf;show b.wpSIn (WF none) 0 P _ a' cs' w;refine wpSIn_of_wpIn rfl (wpIn_mono (x3 b [] none 0 (fun _=>False) c (Nl R) g w σ e' a' h3 hK hR ZW (by rw[hdf];exact ld.nil _ _ _ _ _) (fun h=>absurd h (by rw[h4];simp))) ?_);rintro ex a2 w2 ⟨g2,e2,σ2,⟨mks,hmk,hmo⟩,q2,q3,q4,q5⟩
     have ame:mks=[]:=by
      cases mks with
      | nil=>rfl
      | cons d ds=>obtain⟨D,_,hD,_⟩:=hmo.mark d aR;exact hD.elim
     subst ame
     have done:R σ2->a2.defers=[]/\ ∃ u',cs' = { c₀ with mode:=u' }::cs/\ ∃ v,(results fn a2.tmps).run P w2 = .ok v w2/\ ∃ g' σ' v',Ending.returned v = .returned v'/\u'=zk u/\Rel g' w2 σ'/\gk σ g w σ' g' w2/\R σ':=fun hr =>
      ⟨hmk,zk u,hcs,_,AY (us:=[]) (by rw[hres];rfl),g2,σ2,_,rfl,rfl,q2,q4,hr⟩
     cases ex with
     | normal=>exact done q5
     | ret=>exact done q5
     | panic ch=>obtain⟨_,_,_,_,q5⟩:=q5;exact q5.elim
     | exit id=>exact q5.elim
     | goto l=>exact q5.elim
     | outgrown=>exact q5.elim
    subst hcs
    show(match recoverD (c₀::cs)with
     | some (v,cs')=>wpOpsSIn (WF none) 0 P ops _ _ _ cs' w
     | none=>wpOpsSIn (WF none) 0 P ops _ _ _ (c₀::cs) w)
    split
    ·rename_i v1 cs1 hr;rw[hr]at Gj;cases Gj;exact fin
    rename_i hr;rw[hr]at Gj;injection Gj with e1 e2;subst e1;rw[<-e2]at fin;exact fin
   ·cases hc
  ·cases hc
 ·cases hc
def xF{F:Fence}{n:Nat}{ops:Array Oper}{Q Q':Exit->Act->World->Prop}(h:∀ e a w,Q e a w->Q' e a w): ∀(l:List Nat) (a:Act) (w:World),Go.wpOpsIn F n P ops Q l a w->Go.wpOpsIn F n P ops Q' l a w
 | [],a,w,hh=>h _ a w hh
 | i :: l, a, w, hh => by
   simp only[Go.wpOpsIn]at hh ⊢;cases ho:ops[i]? with
   | none=>simp only[ho]at hh ⊢;exact xF h l a w hh
   | some o =>
     simp only[ho]at hh ⊢;split
     ·rename_i hw;rw[au hw]at hh;exact Oper.IY (fun a w hh=>xF h l a w hh) h hh
     rename_i hw;rw[aj hw]at hh;exact⟨hh.1,xF h l _ w hh.2⟩
structure aa2 where
 nt:Nat
 k1:Nat
 k2:Nat
 gs:List cW
def aa2.wp(P:Program)(f:aa2)(pv:Option AV)(R:ai->Prop)(e:Env)(σ : ai): Prop:=fh P (Nl R) f.gs (eP e (some f.k1) (pv.getD .jR)) σ
def Gk(P:Program)(Q:Exit->Act->List Frame->World->Prop)(ops:Array Oper)(l:List Nat)(a:Act)(cs:List Frame)(w:World): Prop :=
 ∀ (b : Frame) (k : List Item), b.kind = .deferred -> b.roundOf = none -> (WF none).fn b.fn -> (WF none).room (cs.length + 1 + 0) ->
   ∃ e a' cs' w',cs'.length=cs.length/\Q e a' cs' w'/\ArrivesIn (Machine.fenced P (WF none)) P (lone (b.atR a (.inRegion ops l::k)) cs w) b k cs' e a' w'
def Gk.of_wp{Q:Exit->Act->List Frame->World->Prop}{ops:Array Oper}{l:List Nat}{a:Act}{cs:List Frame}{w:World}(h:Go.wpOpsIn (WF none) 0 P ops (fun e a' w'=>Q e a' cs w') l a w): Gk P Q ops l a cs w :=
 fun b k _ hr hF hroom=>let ⟨e,a',w',q,r⟩:=wp_opsIn l a w h b k cs hr hF hroom;⟨e,a',cs,w',rfl,q,r⟩
def Gk.value {Q : Exit -> Act -> List Frame -> World -> Prop} {ops : Array Oper} {i : Nat} {l : List Nat} {a : Act} {cs : List Frame} {w : World} {o : Oper} {v : Value} (ho : ops[i]? = some o) (hg : o.guard = none)
    (hx:(execOp a.eval o).run P w = .ok (.value v) w) (h:Gk P Q ops l (a.put o.dst v) cs w):Gk P Q ops (i::l) a cs w:=by
 intro b k hb hro hF hroom;have hw:Region.wanted o (yielded ops a.tmps)=true:=by simp[Region.wanted,hg]
 have h0:(lone (b.atR a (.inRegion ops (i::l)::k)) cs w).fenced P (WF none):=fenced_oper hF hroom ho (fun _ _=>trivial);have hs:=stepGR_op (P:=P) (b:=b) (k:=k) (cs:=cs) (w:=w) (rest:=l) ho hw;rw[hro,Oper.semAt_none]at hs;have I7:(b.atR a (.inRegion ops (i::l)::k)).finish v=b.atR (a.put o.dst v) (.inRegion ops l::k):=by rw[Frame.finish_atR,ho];rfl
 obtain⟨e,a',cs',w',hl,hq,mP⟩:=h b k hb hro hF hroom;refine⟨e,a',cs',w',hl,hq,.of_steps (.one h0 (step_lone_go ?_)) mP⟩;rw[hs,<-I7];simp[stepG.apply,hx]
def Gk.recover {Q : Exit -> Act -> List Frame -> World -> Prop} {ops : Array Oper} {i : Nat} {l : List Nat} {a : Act} {cs cs1 : List Frame} {w : World} {o : Oper} {v : Value} (ho : ops[i]? = some o) (hg : o.guard = none)
    (hx:(execOp a.eval o).run P w = .ok .recover w) (hlen:cs1.length=cs.length) (Gj:(match recoverD cs with|some (v,cs')=>(v,cs')|none=>(Value.nilIface,cs))=(v,cs1)) (h:Gk P Q ops l (a.put o.dst v) cs1 w):Gk P Q ops (i::l) a cs w:=by
 intro b k hb hro hF hroom;have hw:Region.wanted o (yielded ops a.tmps)=true:=by simp[Region.wanted,hg]
 have h0:(lone (b.atR a (.inRegion ops (i::l)::k)) cs w).fenced P (WF none):=fenced_oper hF hroom ho (fun _ _=>trivial);have hs:=stepGR_op (P:=P) (b:=b) (k:=k) (cs:=cs) (w:=w) (rest:=l) ho hw;rw[hro,Oper.semAt_none]at hs;have I7:(b.atR a (.inRegion ops (i::l)::k)).finish v=b.atR (a.put o.dst v) (.inRegion ops l::k):=by rw[Frame.finish_atR,ho];rfl
 have hk:(b.atR a (.inRegion ops (i::l)::k)).kind = .deferred:=hb;have htr:=tryRecover_deferred hk cs;obtain⟨e,a',cs',w',hl,hq,mP⟩:=h b k hb hro hF (by rw[hlen];exact hroom);refine⟨e,a',cs',w',hl.trans hlen,hq,.of_steps (.one h0 (step_lone_go ?_)) mP⟩;rw[hs,<-I7];simp only[Frame.atR,hro]at htr ⊢;split at Gj
 ·rename_i v' cs' hr;cases Gj;simp[stepG.apply,hx,htr,hr]
 rename_i hr;cases Gj;simp[stepG.apply,hx,htr,hr]
inductive tG where
 | seq (a:dI) (d:tG)
 | dfr (ops:List cW) (x:AX) (rest:dI)
structure QG where
 nt:Nat
 results:List pO
 body:tG
def Ws(nt:Nat)(o:Oper): Option AX:=match o.op,o.guard,o.dst with
 | .defer c, none, none => match c.callee, c.args.toList with
   | .value f,[]=>cX nt f
   | _,_=>none
 | _,_,_=>none
def Gl(P:Program)(nt:Nat)(h:Hints)(ops:Array Oper): Option (List cW × AX):=match ops.toList.getLast? with
 | some o => match Ws nt o, lP P nt h false ops ops.toList.dropLast with
   | some x,some gs=>some (gs,x)
   | _,_=>none
 | none=>none
def aid: Code->Option (Array Oper)
 | .region _ ops false=>some ops
 | _=>none
def DE(P:Program)(nt:Nat)(h:Hints): Code->Option tG
 | .seq a b => match (aid a).bind (Gl P nt h) with
   | some (gs,x)=>(dS P nt h false b).map (.dfr gs x)
   | none => match dS P nt h false a, DE P nt h b with
     | some c,some d=>some (.seq c d)
     | _,_=>none
 | _=>none
def Ar(P:Program)(h:Hints)(fn:Func): Option QG:=match fn.body with
 | some c => match DE P fn.ntmps h c, lQ P fn.ntmps fn.results.toList with
   | some b,some rs=>some ⟨fn.ntmps,rs,b⟩
   | _,_=>none
 | none=>none
def tG.wp(P:Program)(Q:AQ)(QD:FuncId->List AV->AQ): tG->Env->ai->Prop
 | .seq a d=>jF P a (mD (d.wp P Q QD) Q)
 | .dfr ops x rest => fh P (mD (fun e σ => match x.ev e with
    | .fn (.func n) first cap=>jF P rest (QD n (first++cap)) e σ
    | _=>False) Q) ops
def adQ(P:Program)(rs:List pO)(R:Out->ai->Prop)(n:FuncId)(args:List AV): AQ
 | .normal,e,σ=>uS P n args none σ fun σ'=>mh e σ' rs fun vs=>R (.ret (oneOf vs)) σ'
 | .ret,e,σ=>uS P n args none σ fun σ'=>mh e σ' rs fun vs=>R (.ret (oneOf vs)) σ'
 | .panic v,e,σ=>uS P n args (some v) σ fun σ'=>mh e σ' rs fun vs=>R (.ret (oneOf vs)) σ'
 | _,_,_=>False
def Oper.adR {F : Fence} {wn : Nat} {o : Oper} {a : Act} {w : World} {K K' : Act -> World -> Prop} {Q Q' : Exit -> Act -> World -> Prop} (h : ∀ a w, K a w -> K' a w) (hq : ∀ e a w, e ≠ .normal -> Q e a w -> Q' e a w)
    (hh:o.wpIn F wn P a w K Q):o.wpIn F wn P a w K' Q':=by
 unfold Oper.wpIn at *;refine⟨hh.1,?_⟩
 replace hh:=hh.2
 generalize (o.semAt F.round a.eval).run P w=r at *;cases r with
 | ok n w' =>
   cases n<;>simp only[Oper.uponIn]at hh ⊢ <;>
    first
     | exact h _ _ hh
     | exact ⟨hh.1, CallsIn.mono hh.2 (fun e w'' he => by
        cases e<;>first
         | exact h _ _ he
         | exact hq _ _ _ aR he
         |(obtain⟨a0,w0,he⟩:=he;exact⟨a0,w0,hq _ _ _ aR he⟩))⟩
     | exact ⟨hh.1, RoundIn.mono hh.2 (fun e w'' he => by
        cases e<;>first
         | exact h _ _ he
         | exact hq _ _ _ aR he
         |(obtain⟨a0,w0,he⟩:=he;exact⟨a0,w0,hq _ _ _ aR he⟩))⟩
     | exact⟨hh.1,RowsIn.mono hh.2 (fun _ _ he=>h _ _ he)⟩
 | halt x w' =>
   cases x<;>simp only[Oper.uponIn]at hh ⊢<;>first
    | exact hq _ _ _ aR hh
    | exact hh
def sj{F:Fence}{n:Nat}{ops:Array Oper}{Q1 Q:Exit->Act->World->Prop}(l2:List Nat)(h1:∀ a w,Q1 .normal a w->Go.wpOpsIn F n P ops Q l2 a w)(h2:∀ e a w,e≠ .normal->Q1 e a w->Q e a w): ∀(l1:List Nat) (a:Act) (w:World),Go.wpOpsIn F n P ops Q1 l1 a w->Go.wpOpsIn F n P ops Q (l1++l2) a w
 | [],a,w,h=>h1 a w h
 | i :: l1, a, w, h => by
   simp only[bQ,Go.wpOpsIn]at h ⊢;cases ho:ops[i]? with
   | none=>simp only[ho]at h ⊢;exact sj l2 h1 h2 l1 a w h
   | some o =>
     simp only[ho]at h ⊢;split
     ·rename_i hw;rw[au hw]at h;exact Oper.adR (fun a w h=>sj l2 h1 h2 l1 a w h) h2 h
     rename_i hw;rw[aj hw]at h;exact⟨h.1,sj l2 h1 h2 l1 _ w h.2⟩
def aa3 {nt : Nat} {h : Hints} {ops : Array Oper} {gs : List cW} {x : AX} {Q : AQ} {g : aN} {w : World} {σ : ai} {e : Env} {a : Act} {QQ : Exit -> Act -> World -> Prop} (hc : Gl P nt h ops = some (gs, x)) (hw : fh P Q gs e σ) (hR : Rel g w σ) (hE : iG nt g w e a.tmps)
    {B:Nat->Prop} (hd:ld [] B σ g w a.defers)
    (hn : ∀ (g' : aN) (w' : World) (σ' : ai) (e' : Env) (a' : Act), Q .normal e' σ' -> Rel g' w' σ' -> iG nt g' w' e' a'.tmps -> gk σ g w σ' g' w' -> ld [] B σ' g' w' a'.defers ->
      ∃ n first cap,x.ev e' = .fn (.func n) first cap/\ ∀ f1 c1,VR g' w' (.fn (.func n) first cap) (.func (.func n) f1 c1)->QQ .normal { a' with defers:= { target:= .fn (.func n) c1,args:=f1 }::a'.defers } w')
    (hp:∀ ex a' w',ex≠ .normal->QR [] nt B g w σ Q ex a' w'->QQ ex a' w') :
    Go.wpOpsIn (WF none) 0 P ops QQ (List.range ops.size) a w:=by
 unfold Gl at hc;split at hc
 ·rename_i o QH;split at hc
  ·rename_i x' gs' h1 h2;cases hc;have hne:ops.toList≠[]:=fun h=>by rw[h]at QH;cases QH
   have hsz:ops.size=ops.toList.dropLast.length+1:=by
    rw[List.length_dropLast,<-eX];have:=iR.2 hne;omega
   have aa4:ops.toList=ops.toList.dropLast++[o]:=by
    rw[List.getLast?_eq_some_getLast hne]at QH;cases QH;exact(List.dropLast_concat_getLast hne).symm
   have hidx:∀ j,j<ops.toList.dropLast.length->ops[0+j]? = ops.toList.dropLast[j]?:=fun j hj=>by
    rw[bJ,<-Array.getElem?_toList]
    conv=>lhs;rw[aa4]
    rw[aH hj]
   have hlo:ops[ops.toList.dropLast.length]? = some o:=by
    have key:∀ l:List Oper,(l++[o])[(l++[o]).dropLast.length]? = some o:=fun l=>by simp
    rw[<-Array.getElem?_toList]
    conv=>lhs;rw[aa4]
    exact key _
   rw[hsz,ju,List.range'_concat];have hs:=N9 (X:=[]) (ro:=none) (wn:=0) (B:=B) (ops:=ops) (Q:=Q) (g0:=g) (w0:=w) (nI:=σ) ops.toList.dropLast 0 gs g w σ e a h2 hidx hw hR hE hd (.refl _ _ _);refine sj _ ?_ hp _ a w hs;rintro a1 w1 ⟨g1,e1,σ1,d1,r1,E1,v1,q1⟩;obtain⟨n,first,cap,hx,hq⟩:=hn g1 w1 σ1 e1 a1 q1 r1 E1 v1 d1;simp only[bJ,Nat.one_mul,Go.wpOpsIn,hlo];unfold Ws at h1;split at h1
   ·rename_i c hop hg adP;split at h1
    ·rename_i f Tf hargs;have hwn:Region.wanted o (yielded ops a1.tmps)=true:=by simp[Region.wanted,hg]
     rw[au hwn];have hv:=cV h1 E1;rw[hx]at hv;generalize hfv:a1.eval f=fv at hv;have nk:=hv;cases hv;rename_i f1 c1 _ _ _ _
     have hz:c.args = #[]:=by
      have:=bj List.toArray hargs;simpa using this
     have hrun:(o.semAt (WF none).round a1.eval).run P w1 = .ok (.defer { target:= .fn (.func n) c1,args:=f1 }) w1:=by
      show(execOp a1.eval o).run P w1=_;unfold execOp;simp only[hop,resolve,Tf,hz,hfv,Deferred.ofValue,Sem.run_bind,Sem.run_pure,Result.andThen_ok];simp
     refine⟨fun _ _=>trivial,?_⟩;rw[hrun];simp only[Oper.uponIn,adP,Act.put];exact hq f1 c1 nk
    ·cases h1
   ·cases h1
  ·cases hc
 ·cases hc
def Bo{g:aN}{w:World}{pv:Option AV}{u:FrameMode}(h:Aq g w pv u): u≠ .run/\settle (zk u) = .returning:=by
 cases pv with
 | none=>have h:u = .returning:=h;subst h;exact⟨aR,rfl⟩
 | some a=>obtain⟨v,h,_⟩:=h;subst h;exact⟨aR,rfl⟩
def Aq.mono{g g':aN}{w w':World}(hm:kD g w g' w'){pv:Option AV}{u:FrameMode}(h:Aq g w pv u): Aq g' w' pv u:=by
 cases pv with
 | none=>exact h
 | some a=>obtain⟨v,h,hv⟩:=h;exact⟨v,h,hv.mono hm⟩
def Gm {fn : Func} {rs : List pO} {R : Out -> ai -> Prop} {g0 : aN} {w0 : World} {nI : ai} (Og : lQ P fn.ntmps fn.results.toList = some rs) {g1 : aN} {w1 : World} {σ1 : ai} {g' : aN} {w' : World} {σ' : ai} {e' : Env} {tmps : Array Value} {n : FuncId} {first cap : List AV} {f1 c1 : Array Value} {ms1 ms : List Deferred} {pv : Option AV} {u : FrameMode}
    (fc:gk nI g0 w0 σ1 g1 w1) (hB:w0.heap.size<=w1.heap.size) (adS:yM (fun D=>w0.heap.size<=D) σ1 g1 w1 ms1) (hv:VR g1 w1 (.fn (.func n) first cap) (.func (.func n) f1 c1)) (yR:yM (fun D=>w1.heap.size<=D) σ' g' w' ms) (hR:Rel g' w' σ') (hE:iG fn.ntmps g' w' e' tmps) (hv1:gk σ1 g1 w1 σ' g' w')
    (hu:Aq g' w' pv u) (hq:uS P n (first++cap) pv σ' fun σ'=>mh e' σ' rs fun vs=>R (.ret (oneOf vs)) σ') :
    LeavesInM (WF none) 0 P fn tmps (fun e w'=> ∃ out g' σ',Rel g' w' σ'/\gk nI g0 w0 σ' g' w'/\AN g' w' out e/\R out σ') (ms++({ target:= .fn (.func n) c1,args:=f1 }::ms1)) u w':=by
 refine q8 (Bo hu).1 ms w' yR hR hE hv1 (fun w2 R2 E2 V2 M2=>?_);cases hv;rename_i hl hh hl' Km;obtain⟨c3,c4⟩:=CV hl (fun i hi=>(hh i hi).mono V2.mono) hl' (fun i hi=>(Km i hi).mono V2.mono);refine⟨(Bo hu).1,.inr ⟨fun h=>by simp[WF,Fence.wide]at h,.func n,c1,n,f1++c1,rfl,?_,fun _ _=>trivial,?_⟩⟩
 ·simp only[invoke];exact E5 hq.1 _ _
 refine(hq.2 g' w2 (f1++c1) u R2 c3 c4 (hu.mono M2)).mono ?_;rintro e u' w3 ⟨g3,σ3,v,rfl,rfl,R3,V3,hres⟩;show LeavesInM (WF none) 0 P fn tmps _ ms1 (settle (zk u)) w3;rw[(Bo hu).2]
 have:=q8 (X:=[]) (P:=P) (R:=fun e w'=> ∃ out g' σ',Rel g' w' σ'/\gk nI g0 w0 σ' g' w'/\AN g' w' out e/\R out σ') (fn:=fn) (tmps:=tmps) (u:= .returning) aR ms1 w3 (adS.step (V2.trans V3)) R3 (E2.mono V3.mono) ((fc.trans V2).trans V3) (fun w4 R4 E4 V4 M4=>by
  obtain⟨vf,us,r1,r2,r3,r4⟩:=Oe (P:=P) R4 E4 fn.results.toList rs _ Og hres;exact⟨_,AY r1,.ret (oneOf vf),g3,σ3,R4,V4,VC r2 r3,r4⟩)
 simpa using this
def UY {fn : Func} {h : Hints} {rs : List pO} {R : Out -> ai -> Prop} {g0 : aN} {w0 : World} {nI : ai} (Og : lQ P fn.ntmps fn.results.toList = some rs) : ∀ (c : Code) (dc : tG) (g : aN) (w : World) (σ : ai) (e : Env) (a : Act),
    DE P fn.ntmps h c=some dc->dc.wp P (I6 rs R) (adQ P rs R) e σ->Rel g w σ->iG fn.ntmps g w e a.tmps->ld [] (fun D=>w0.heap.size<=D) σ g w a.defers->w0.heap.size<=w.heap.size->gk nI g0 w0 σ g w ->
    c.wpIn (WF none) 0 P (bodyPostM (WF none) 0 P fn fun e w'=> ∃ out g' σ',Rel g' w' σ'/\gk nI g0 w0 σ' g' w'/\AN g' w' out e/\R out σ') a w:=by
 intro c
 have base:∀ (g:aN) (w:World) (σ : ai) (ex:Exit) (a':Act) (w':World),QR [] fn.ntmps (fun D=>w0.heap.size<=D) g w σ (I6 rs R) ex a' w'->gk nI g0 w0 σ g w->bodyPostM (WF none) 0 P fn (fun e w'=> ∃ out g' σ',Rel g' w' σ'/\gk nI g0 w0 σ' g' w'/\AN g' w' out e/\R out σ') ex a' w' :=
  fun g w σ ex a' w' hq fc=>HW Og (QR.step fc hq)
 induction c with
 | seq x y zV xK =>
   intro dc g w σ e a hc hw hR hE hd hB fc;simp only[DE]at hc;split at hc
   ·rename_i gs clo hr;obtain⟨rest,ajU,rfl⟩:=bg.1 hc;obtain⟨ops,ho,hdr⟩:=gK.1 hr;cases x with
    | region id ops' d =>
      cases d with
      | true=>cases ho
      | false =>
        cases ho
        refine wpIn_seq (wpIn_region (aa3 (Q:=mD (fun e σ=>match clo.ev e with
         | .fn (.func n) first cap=>jF P rest (adQ P rs R n (first++cap)) e σ
         | _=>False) (I6 rs R)) hdr hw hR hE hd ?_ ?_))
        ·intro g1 w1 σ1 e1 a1 q1 R1 E1 V1 D1;simp only[mD]at q1;split at q1
         ·rename_i n first cap hx
          refine⟨n,first,cap,hx,fun f1 c1 hv=>?_⟩;obtain⟨ms1,adS,adT⟩:=D1;refine wpIn_mono (x3 y ({ target:= .fn (.func n) c1,args:=f1 }::a1.defers) none 0 (fun D=>w1.heap.size<=D) rest _ g1 w1 σ1 e1 _ ajU q1 R1 E1 (ld.nil _ _ _ _ _) (BE.at _ _)) ?_;rintro ex a2 w2 ⟨g2,e2,σ2,⟨ms,yR,hmo⟩,R2,E2,V2,q2⟩;have hds:a2.defers=ms++({ target:= .fn (.func n) c1,args:=f1 }::ms1):=by rw[yR,adS,bW]
          have hsz:=cZ hB V1.size;cases ex with
          | normal =>
            show LeavesInM (WF none) 0 P fn a2.tmps _ a2.defers .returning w2;rw[hds];exact Gm (pv:=none) Og (fc.trans V1) hsz adT hv hmo R2 E2 V2 rfl q2
          | ret =>
            show LeavesInM (WF none) 0 P fn a2.tmps _ a2.defers .returning w2;rw[hds];exact Gm (pv:=none) Og (fc.trans V1) hsz adT hv hmo R2 E2 V2 rfl q2
          | panic ch =>
            obtain⟨v,av,rfl,hvr,q2⟩:=q2;show LeavesInM (WF none) 0 P fn a2.tmps _ a2.defers _ w2;rw[hds];exact Gm (pv:=some av) Og (fc.trans V1) hsz adT hv hmo R2 E2 V2 ⟨v,rfl,hvr⟩ q2
          | exit id=>exact q2.elim
          | goto l=>exact q2.elim
          | outgrown=>exact q2.elim
         exact q1.elim
        rintro ex a' w' hne ⟨g',e',σ',r1,r2,r3,r4,r5⟩;cases ex with
        | normal=>exact absurd rfl hne
        | exit id=>exact r5.elim
        | goto l=>exact r5.elim
        | ret=>exact base g w σ .ret a' w' ⟨g',e',σ',r1,r2,r3,r4,r5⟩ fc
        | panic ch=>exact base g w σ (.panic ch) a' w' ⟨g',e',σ',r1,r2,r3,r4,r5⟩ fc
        | outgrown=>exact r5.elim
    | _=>cases ho
   split at hc
   ·rename_i c1 d1 h1 h2;cases hc;refine wpIn_seq (wpIn_mono (x3 x [] none 0 (fun D=>w0.heap.size<=D) c1 _ g w σ e a h1 hw hR hE hd (fun _ D hD=>cZ hB hD)) ?_);rintro ex a' w' ⟨g',e',σ',r1,r2,r3,r4,r5⟩;cases ex with
    | normal=>exact xK d1 g' w' σ' e' a' h2 r5 r2 r3 r1 (cZ hB r4.size) (fc.trans r4)
    | exit id=>exact r5.elim
    | goto l=>exact r5.elim
    | ret=>exact base g w σ .ret a' w' ⟨g',e',σ',r1,r2,r3,r4,r5⟩ fc
    | panic ch=>exact base g w σ (.panic ch) a' w' ⟨g',e',σ',r1,r2,r3,r4,r5⟩ fc
    | outgrown=>exact r5.elim
   ·cases hc
 | _=>intro dc g w σ e a hc;cases hc
def cK.aie {f : FuncId} {fn : Func} {h : Hints} {df : QG} {args : List AV} {σ : ai} {R : Out → ai → Prop} (hf : P.funcs[f]? = some fn) (hn : (fn.name == "runtime.NumGoroutine") = false) (hc : Ar P h fn = some df)
    (hl:args.length<=df.nt) (hw:df.body.wp P (I6 df.results R) (adQ P df.results R) (kU args) σ):cK P f args σ R:=by
 unfold Ar at hc;split at hc
 ·rename_i c hb;split at hc
  ·rename_i b rs h1 h2;cases hc;refine⟨⟨fn,hf,by simp[hb],hn⟩,fun g w vs hR hlen hv=>?_⟩;refine Mn.1 (callsIn_of_wp_marks (F:=WF none) (n:=0) hf hb trivial (UY h2 c b g w σ (kU args) _ h1 hw hR ⟨?_,fun t ht=>?_⟩ (ld.nil _ _ _ _ _) (bf _) (.refl _ _ _)))
   ·simp only at hl;simp;omega
   by_cases h:t<args.length
   ·have h3:t<vs.size:=ae;have:=hv t h;simp only[kU];rw[eW,e8 h3];simpa using this
   have:kU args t = .undef:=by simp[kU,iy (ja h)]
   rw[this];exact .undef _
  ·cases hc
 ·cases hc
