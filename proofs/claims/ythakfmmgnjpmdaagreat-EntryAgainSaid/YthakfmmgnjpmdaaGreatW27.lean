/- Part. -/
import Derived.Test.YthakfmmgnjpmdaaGreatW26
set_option linter.all false
namespace Go.Proofs.YthakfmmgnjpmdaaGreat
open Go.AM
inductive g_ where
 | ok (v:aH)
 | err (e:Int)
deriving DecidableEq,Inhabited
def ew(n:Int): g_:=if -9223372036854775808<=n/\n<=9223372036854775807 then .ok ⟨1,n,[]⟩else .err 15
def pK(a b:Int): g_:=if b=0 then .err 16 else ew (a.tdiv b)
def dL(b:Bool): aH:=⟨3,if b then 1 else 0,[]⟩
def bU(v:aH): Bool:=decide (v.kind=0)
def mb(op a b:Int): g_:=if op=4 then ew (a+b)else if op=5 then ew (a-b)else if op=6 then ew (a*b)else pK a b
def iL(op:Int)(a b:aH): Bool:=decide (op=4) && (decide (a.kind=2) || decide (b.kind=2))
def mo(op:Int)(a b:aH): g_ :=
 if !(bI a.kind (if iL op a b then 2 else 1)) || !(bI b.kind (if iL op a b then 2 else 1))then .err 14
 else if bU a || bU b then .ok v0
 else if iL op a b then(if 40<a.s.length+b.s.length then .err 5 else .ok ⟨2,0,a.s++b.s⟩)
 else mb op a.n b.n
def nZ(op:Int)(a b:aH): g_ :=
 if bI a.kind b.kind=false then .err 14
 else if op=8 then .ok (dL (decide (a=b)))
 else if op=9 then .ok (dL (!(decide (a=b))))
 else if a.kind=3\/b.kind=3 then .err 14
 else if bU a || bU b then .ok v0
 else if op=10 then .ok (dL (decide (e7 a b<0)))
 else if op=11 then .ok (dL (decide (e7 a b<=0)))
 else if op=12 then .ok (dL (decide (0<e7 a b)))
 else .ok (dL (decide (0<=e7 a b)))
def kP(op:Int)(a b:aH): g_ :=
 if !(bI a.kind 3) || !(bI b.kind 3)then .err 14
 else if a=dL (decide (op=15))\/b=dL (decide (op=15))then .ok (dL (decide (op=15)))
 else if bU a || bU b then .ok v0
 else .ok (dL (decide (op=14)))
def HE(op:Int)(a b:aH): g_:=if op<=7 then mo op a b else if op<=13 then nZ op a b else kP op a b
def zn(a:aH): g_:=if bI a.kind 1=false then .err 14 else if bU a then .ok a else ew (0-a.n)
def pW(cs:List bQ)(row:List aH)(op:Int)(v:aH)(s:aS)(rs:List g_): g_ :=
 if op=1 then .ok v
 else if op=2 then(if k_ cs s<0 then .err 13 else .ok (row.getD (k_ cs s).toNat default))
 else match rs.getD 0 default with
 | .err e=> .err e
 | .ok a => if op = 3 then zn a
   else if op=16 then(if bI a.kind 3=false then .err 14 else if a=dL true then rs.getD 1 default else rs.getD 2 default)
   else match rs.getD 1 default with
   | .err e=> .err e
   | .ok b=>HE op a b
mutual
def mB(cs:List bQ)(row:List aH): Expr->g_
 | .mk op v s l=>pW cs row op v s (Gh cs row l)
def Gh(cs:List bQ)(row:List aH): List Expr->List g_
 | []=>[]
 | x::r=>mB cs row x::Gh cs row r
end
def Aw(cs:List bQ)(row:List aH)(l:List Expr): Gh cs row l=l.map (mB cs row):=by
 induction l with
 | nil=>rfl
 | cons x r ih=>simp[Gh,ih]
def adg(cs:List bQ)(row:List aH){l:List Expr}{i:Nat}(h:i<l.length): (Gh cs row l).getD i default=mB cs row (l.getD i default):=by
 rw[Aw];simp[aB,h]
def qw(row:List aH): Bool:=row.all bp
def gN(x:Expr)(cs:List bQ)(row:List aH): g_:=if dw x && decide (cs.length=row.length) && qw row then mB cs row x else .err 2
def og(v:aH): Prop:=(-9223372036854775808<=v.n/\v.n<=9223372036854775807)/\v.s.length<=2 ^ 30
def fC(v:aH): Prop:=bp v=true/\og v
def g_.good: g_->Prop
 | .ok v=>fC v
 | .err e=>e=2\/e=5\/e=13\/e=14\/e=15\/e=16
def Ei: (g_.err 14).good:= .inr (.inr (.inr (.inl rfl)))
def Tr(op:Int)(a b:aH)(k:Int)(hk:(if iL op a b then 2 else 1)=k): mo op a b=if bI a.kind k=true/\bI b.kind k=true then(if bU a || bU b then .ok v0 else if iL op a b then(if 40<a.s.length+b.s.length then .err 5 else .ok ⟨2,0,a.s++b.s⟩)else mb op a.n b.n)else .err 14:=by
 unfold mo;rw[hk];cases h1:bI a.kind k<;>cases h2:bI b.kind k<;>simp
def Fp: fC v0:=by unfold fC og;decide
def JG(b:Bool): fC (dL b):=by unfold fC og;cases b<;>decide
def HF(n:Int): (ew n).good:=by
 unfold ew;split
 ·rename_i h;exact⟨by simp[bp],h,by simp⟩
 ·exact .inr (.inr (.inr (.inr (.inl rfl))))
def Vb{s:aS}: bp ⟨2,0,s⟩=lA s:=by simp[bp]
def HG{v:aH}(h:bp v=true)(hk:v.kind=2): lA v.s=true:=by
 unfold bp at h;rw[if_neg (by omega),if_neg (by omega),if_pos hk]at h;simp only[aC]at h;exact h.2
def Ax{v:aH}(h:bp v=true)(hk:v.kind=0): v=v0:=by
 obtain⟨k,n,s⟩:=v;dsimp only at hk;subst hk;rw[xH]at h;simp only[aC,decide_eq_true_eq]at h;rw[h.1,h.2];rfl
def Zs(a b:Int): (pK a b).good:=by
 unfold pK;split
 ·exact .inr (.inr (.inr (.inr (.inr rfl))))
 ·exact HF _
def Vc(op a b:Int): (mb op a b).good:=by
 unfold mb;repeat' split
 all_goals first|exact HF _|exact Zs _ _
def Xl{op:Int}{a b:aH}(ha:fC a)(hb:fC b): (mo op a b).good:=by
 obtain⟨k,hk⟩:∃ k:Int,(if iL op a b then 2 else 1)=k:=⟨_,rfl⟩;rw[Tr op a b k hk];by_cases h1:bI a.kind k=true/\bI b.kind k=true
 ·rw[if_pos h1];by_cases h2:(bU a || bU b)=true
  ·rw[if_pos h2];exact Fp
  rw[if_neg h2];by_cases h3:iL op a b=true
  ·rw[if_pos h3];rw[if_pos h3]at hk;subst hk;by_cases h4:40<a.s.length+b.s.length
   ·rw[if_pos h4];exact .inr (.inl rfl)
   rw[if_neg h4];simp only[bU,bI,bO,decide_eq_true_eq,not_or]at h1 h2;have ka:a.kind=2:=by omega
   have kb:b.kind=2:=by omega
   have pa:=HG ha.1 ka;have pb:=HG hb.1 kb;refine⟨?_,⟨by show(-9223372036854775808:Int)<=0;decide,by show(0:Int)<=9223372036854775807;decide⟩,by simp only[List.length_append];omega⟩;rw[Vb];unfold lA at pa pb ⊢;simp only[aC,decide_eq_true_eq,List.all_append,List.length_append]at pa pb ⊢;exact⟨by omega,pa.2,pb.2⟩
  ·rw[if_neg h3];exact Vc _ _ _
 ·rw[if_neg h1];exact Ei
def Xm{op:Int}{a b:aH}: (nZ op a b).good:=by
 unfold nZ;repeat' split
 all_goals first|exact JG _|exact Fp|exact Ei
def Sd{op:Int}{a b:aH}: (kP op a b).good:=by
 unfold kP;repeat' split
 all_goals first|exact JG _|exact Fp|exact Ei
def Zt{op:Int}{a b:aH}(ha:fC a)(hb:fC b): (HE op a b).good:=by
 unfold HE;repeat' split
 all_goals first|exact Xl ha hb|exact Xm|exact Sd
def Zu{a:aH}(ha:fC a): (zn a).good:=by
 unfold zn;split
 ·exact Ei
 split
 ·exact ha
 ·exact HF _
def HI{l:List bQ}{s:aS}: k_ l s<l.length:=Lm _ _
def Xn{cs:List bQ}{row:List aH}{op:Int}{v:aH}{s:aS}{rs:List g_}(hl:cs.length=row.length)(hrow:∀ w ∈ row,fC w)(hv:op=1->fC v)(h1:op≠1->op≠2->(rs.length:Int)=lB op)(h:∀ r ∈ rs,r.good): (pW cs row op v s rs).good:=by
 unfold pW;split
 ·rename_i e;exact hv e
 split
 ·split
  ·exact .inr (.inr (.inl rfl))
  ·rename_i h3;have:=HI (l:=cs) (s:=s);exact hrow _ (aO (by omega))
 rename_i o1 o2;have hc:=lC (h1 o1 o2) o1 o2;have at_:∀ i,i<rs.length->(rs.getD i default).good:=fun i hi=>h _ (aO hi);have g0:=at_ 0 (by omega);split
 ·rename_i e he;rw[he]at g0;exact g0
 ·rename_i a he;rw[he]at g0;split
  ·exact Zu g0
  split
  ·split
   ·exact Ei
   split
   ·exact at_ 1 (by omega)
   ·exact at_ 2 (by omega)
  ·have g1:=at_ 1 (by omega);split
   ·rename_i e hb;rw[hb]at g1;exact g1
   ·rename_i b hb;rw[hb]at g1;exact Zt g0 g1
def BK{l:List Expr}(h:rK l=true){y:Expr}(hy:y ∈ l): dw y=true:=by
 induction l with
 | nil=>cases hy
 | cons x r ih =>
   simp only[rK,aC]at h;rcases List.mem_cons.1 hy with rfl|hy
   ·exact h.1
   ·exact ih h.2 hy
def Qb{cs:List bQ}{row:List aH}(hl:cs.length=row.length)(hrow:∀ w ∈ row,fC w)(x:Expr): dw x=true->iG x->(mB cs row x).good:=by
 induction x using Expr.ind with
 | h op v s l ih =>
   intro hr hx;simp only[dw,aC,decide_eq_true_eq]at hr;simp only[iG]at hx;simp only[mB];refine Xn hl hrow (fun e=>?_) (fun _ _=>by rw[Aw,List.length_map];exact hr.1) (fun r hr'=>?_)
   ·have h2:=hr.2;rw[if_pos e]at h2;simp only[aC]at h2;refine⟨h2.1.2,⟨hx.2.2.1,hx.2.2.2.1⟩,?_⟩;have:=h2.1.2;by_cases k2:v.kind=2
    ·have:=HG this k2;unfold lA at this;simp only[aC,decide_eq_true_eq]at this;omega
    ·have : v.s = [] := by
      obtain⟨vk,vn,vs⟩:=v;dsimp only at k2 this ⊢;by_cases k0:vk=0
      ·subst k0;rw[xH]at this;simp at this;exact this.2
      by_cases k1:vk=1
      ·subst k1;rw[xI]at this;simpa using this
      by_cases k3:vk=3
      ·subst k3;rw[Bs]at this;simp at this;exact this.1
      ·rw[Hu _ _ _ k0 k1 k2 k3]at this;cases this
     rw[this];simp
   ·rw[Aw]at hr';obtain⟨y,hy,rfl⟩:=eZ.1 hr';refine ih y hy ?_ (Fk hx.2.2.2.2 hy);have h2:=hr.2;have hne:l≠[]:=fun e=>by rw[e]at hy;cases hy
    have hlen:0<l.length:=List.length_pos_iff.2 hne;have n1:op≠1:=fun e=>by subst e;have:=hr.1;simp[lB]at this;exact hne (by simpa using this)
    have n2:op≠2:=fun e=>by subst e;have:=hr.1;simp[lB]at this;exact hne (by simpa using this)
    rw[if_neg n1,if_neg n2]at h2;simp only[aC]at h2;exact BK h2.2 hy
def lp{cs:List bQ}{row:List aH}(hrow:∀ w ∈ row,og w){x:Expr}(hx:iG x): (gN x cs row).good:=by
 unfold gN;split
 ·rename_i h;simp only[aC,decide_eq_true_eq]at h;exact Qb h.1.2 (fun w hw=>⟨bg.1 h.2 w hw,hrow w hw⟩) x h.1.1 hx
 ·exact .inl rfl
def g_.yU(k:Int): g_->Prop
 | .ok v=>v.kind=0\/v.kind=k
 | .err _=>True
def Ts(n:Int): (ew n).yU 1:=by
 unfold ew;split
 ·exact .inr rfl
 ·trivial
def Xo(op a b:Int): (mb op a b).yU 1:=by
 unfold mb pK;repeat' split
 all_goals first|exact Ts _|trivial
def Mz{cs:List bQ}: ∀ {l:List Expr} {ks:List Int},jQ cs l=(ks,0)->ks.length=l.length/\ ∀ i,i<l.length->fB cs (l.getD i default)=(ks.getD i 0,0)
 | [], ks, h => by
   simp only[jQ,Prod.mk.injEq]at h;obtain⟨rfl,_⟩:=h;exact⟨rfl,fun i hi=>absurd hi (dY _)⟩
 | x :: r, ks, h => by
   simp only[jQ]at h;split at h
   ·rename_i hx;simp only[Prod.mk.injEq]at h;exact absurd h.2 hx
   split at h
   ·rename_i hx;simp only[Prod.mk.injEq]at h;exact absurd h.2 hx
   rename_i h1 h2;simp only[Prod.mk.injEq,and_true]at h;subst h;have ih:=Mz (cs:=cs) (l:=r) (ks:=(jQ cs r).1) (Prod.ext rfl (by simpa using h2));refine⟨by simp[ih.1],fun i hi=>?_⟩;cases i with
   | zero=>exact Prod.ext rfl (by simpa using h1)
   | succ i=>simpa using ih.2 i (by simpa using hi)
def Ej{op:Int}{a b:aH}{k:Int}(ht:iL op a b=true->k=2)(hf:iL op a b=false->(bU a || bU b)=false->k=1): (mo op a b).yU k:=by
 obtain⟨c,hk⟩:∃ c:Int,(if iL op a b then 2 else 1)=c:=⟨_,rfl⟩;rw[Tr op a b c hk];by_cases h1:bI a.kind c=true/\bI b.kind c=true
 ·rw[if_pos h1];by_cases h2:(bU a || bU b)=true
  ·rw[if_pos h2];exact .inl rfl
  rw[if_neg h2];cases h3:iL op a b with
  | true =>
    rw[if_pos rfl,ht h3];by_cases h4:40<a.s.length+b.s.length
    ·rw[if_pos h4];trivial
    ·rw[if_neg h4];exact .inr rfl
  | false =>
    rw[if_neg (by decide),hf h3 (by simpa using h2)];exact Xo _ _ _
 ·rw[if_neg h1];trivial
def Zv{op:Int}{a b:aH}{k1 k2:Int}(ha:a.kind=0\/a.kind=k1)(hb:b.kind=0\/b.kind=k2)(h3:4<=op)(h7:op<=7)(h:(ko op [k1,k2]).2=true): (mo op a b).yU (ko op [k1,k2]).1:=by
 have hu:ko op [k1,k2]=if op=4 then(if nh k1 k2=2 then(2,[k1,k2].all fun k=>bI k 2)else (1,[k1,k2].all fun k=>bI k 1))else (1,[k1,k2].all fun k=>bI k 1):=by
  unfold ko;by_cases h4:op=4
  ·subst h4;simp
  ·rw[if_pos (by omega),if_neg h4]
 rw[hu]at h ⊢;by_cases h4:op=4
 ·rw[if_pos h4]at h ⊢;by_cases ho:nh k1 k2=2
  ·rw[if_pos ho]at h ⊢;simp only[List.all_cons,List.all_nil,Bool.and_true,aC,bI,bO,decide_eq_true_eq]at h;refine Ej (fun _=>rfl) (fun ht hn=>?_);exfalso;simp only[iL,bU,Bool.and_eq_false_iff,Bool.or_eq_false_iff,decide_eq_false_iff_not]at ht hn;omega
  ·rw[if_neg ho]at h ⊢;simp only[List.all_cons,List.all_nil,Bool.and_true,aC,bI,bO,decide_eq_true_eq]at h;refine Ej (fun ht=>?_) (fun _ _=>rfl);exfalso;simp only[iL,aC,bO,decide_eq_true_eq]at ht;omega
 ·rw[if_neg h4]at h ⊢;exact Ej (fun ht=>by simp[iL,h4]at ht) (fun _ _=>rfl)
def aaE(b:Bool): (g_.ok (dL b)).yU 3:= .inr rfl
def aaF(k:Int): (g_.ok v0).yU k:= .inl rfl
def aaG(k e:Int): (g_.err e).yU k:=trivial
def Zw(op:Int)(a b:aH): (nZ op a b).yU 3:=by
 unfold nZ;repeat' split
 all_goals first|exact aaE _|exact aaF _|exact aaG _ _
def Vd(op:Int)(a b:aH): (kP op a b).yU 3:=by
 unfold kP;repeat' split
 all_goals first|exact aaE _|exact aaF _|exact aaG _ _
def abt{cs:List bQ}{row:List aH}(hrow:∀ i,i<cs.length->(row.getD i default).kind=0\/(row.getD i default).kind=(cs.getD i default).kind)(x:Expr): ∀ k,dw x=true->fB cs x=(k,0)->(mB cs row x).yU k:=by
 induction x using Expr.ind with
 | h op v s l ih =>
   intro k hr hk;simp only[dw,aC,decide_eq_true_eq]at hr;simp only[fB]at hk;simp only[mB];unfold pW;by_cases o1:op=1
   ·rw[if_pos o1]at hk ⊢;simp only[Prod.mk.injEq,and_true]at hk;exact .inr hk
   rw[if_neg o1]at hk ⊢;by_cases o2:op=2
   ·rw[if_pos o2]at hk ⊢;split at hk
    ·simp at hk
    ·rename_i h3;rw[if_neg h3];simp only[Prod.mk.injEq,and_true]at hk;have:=HI (l:=cs) (s:=s);have:=hrow (k_ cs s).toNat (by omega);rw[hk]at this;exact this
   rw[if_neg o2]at hk ⊢;have vX:=hr.2;rw[if_neg o1,if_neg o2]at vX;simp only[aC]at vX;split at hk
   case isFalse h=>simp only[Prod.mk.injEq]at hk;exact absurd hk.2 h
   rename_i hz;obtain⟨hl,gV⟩:=Mz (cs:=cs) (l:=l) (ks:=(jQ cs l).1) (Prod.ext rfl hz);generalize (jQ cs l).1=ks at hk hl gV;have hc:=lC hr.1 o1 o2
   have ihk:∀ i,i<l.length->((Gh cs row l).getD i default).yU (ks.getD i 0):=fun i hi=>by
    rw[adg cs row hi];exact ih _ (aO hi) _ (BK vX.2 (aO hi)) (gV i hi)
   unfold oe at hk;split at hk
   case isFalse h=>simp at hk
   rename_i ht;simp only[Prod.mk.injEq,and_true]at hk;subst hk;have g0:=ihk 0 (by omega);split
   ·trivial
   ·rename_i a he;rw[he]at g0;have g0:a.kind=0\/a.kind=ks.getD 0 0:=g0;by_cases o3:op=3
    ·rw[if_pos o3];have:(ko op ks).1=1:=by unfold ko;rw[if_pos (.inl o3)]
     rw[this];unfold zn;split
     ·trivial
     split
     ·rename_i h1 h2;exact .inl (by simpa[bU]using h2)
     ·exact Ts _
    rw[if_neg o3];by_cases o16:op=16
    ·subst o16;rw[if_pos rfl];have g1:=ihk 1 (by omega);have g2:=ihk 2 (by omega)
     have ht':bI (ks.getD 1 0) (ks.getD 2 0)=true:=by
      simp[ko]at ht;exact ht.2
     have e1:(ko 16 ks).1=nh (ks.getD 1 0) (ks.getD 2 0):=by simp[ko]
     rw[e1];simp only[bI,bO,decide_eq_true_eq]at ht'
     have m1:((Gh cs row l).getD 1 default).yU (nh (ks.getD 1 0) (ks.getD 2 0)):=by
      revert g1;cases (Gh cs row l).getD 1 default with
      | err=>intro _;trivial
      | ok v =>
        intro g1;have g1:v.kind=0\/v.kind=ks.getD 1 0:=g1;show v.kind=0\/v.kind=nh _ _;unfold nh;split<;>omega
     have m2:((Gh cs row l).getD 2 default).yU (nh (ks.getD 1 0) (ks.getD 2 0)):=by
      revert g2;cases (Gh cs row l).getD 2 default with
      | err=>intro _;trivial
      | ok v =>
        intro g2;have g2:v.kind=0\/v.kind=ks.getD 2 0:=g2;show v.kind=0\/v.kind=nh _ _;unfold nh;split<;>omega
     by_cases hf:bI a.kind 3=false
     ·rw[if_pos hf];trivial
     ·rw[if_neg hf];by_cases ha:a=dL true
      ·rw[if_pos ha];exact m1
      ·rw[if_neg ha];exact m2
    rw[if_neg o16];have g1:=ihk 1 (by omega)
    obtain⟨k1,k2,rfl⟩:∃ k1 k2,ks=[k1,k2]:=by
     match ks,hl with
     | [a,b],_=>exact⟨a,b,rfl⟩
     | [],h=>simp at h;omega
     | [a],h=>simp at h;omega
     | a::b::c::r,h=>simp at h;omega
    split
    ·trivial
    ·rename_i b hb;rw[hb]at g1;have g1:b.kind=0\/b.kind=k2:=g1;unfold HE;by_cases h7:op<=7
     ·rw[if_pos h7];exact Zv g0 g1 (by omega) h7 ht
     rw[if_neg h7];by_cases Tt:op<=13
     ·rw[if_pos Tt]
      have:(ko op [k1,k2]).1=3:=by
       unfold ko;rw[if_neg (by omega),if_neg (by omega)];by_cases h8:op=8\/op=9
       ·rw[if_pos h8]
       ·rw[if_neg h8,if_pos (by omega)]
      rw[this];exact Zw _ _ _
     ·rw[if_neg Tt]
      have:(ko op [k1,k2]).1=3:=by
       unfold ko;rw[if_neg (by omega),if_neg (by omega),if_neg (by omega),if_neg (by omega),if_pos (by omega)]
      rw[this];exact Vd _ _ _
def mP(t:Test)(v a b:aH): Bool :=
 if t.kind=1 then decide (v=a)
 else if bU v || bU a || bU b then false
 else if t.kind=2 then decide (e7 v a<0)
 else if t.kind=3 then decide (e7 v a<=0)
 else if t.kind=4 then decide (0<e7 v a)
 else if t.kind=5 then decide (0<=e7 v a)
 else(decide (0<e7 v a) ||(decide (e7 v a=0) && !t.lo)) && (decide (e7 v b<0) ||(decide (e7 v b=0) && !t.hi))
def tL(t:Test)(v a b:aH): Bool × Int:=if kE t v.kind a.kind && kE t v.kind b.kind then(mP t v a b,0)else (false,14)
def kH(cs:List bQ)(row:List aH)(v:aH)(t:Test): Bool × Int:=match gN t.a cs row with
 | .err e=>(false,e)
 | .ok a => if t.kind = 6 then (match gN t.b cs row with
   | .err e=>(false,e)
   | .ok b=>tL t v a b)else tL t v a a
def oh(cs:List bQ)(row:List aH)(v:aH)(any neg:Bool): List Test->Bool × Int
 | []=>(any || neg,0)
 | t::r=>if(kH cs row v t).2≠0 then(false,(kH cs row v t).2)else if(kH cs row v t).1 then(!neg,0)else oh cs row v any neg r
def lD(c:Cell)(v:aH)(cs:List bQ)(row:List aH): Bool × Int :=
 if gW c && bp v && decide (cs.length=row.length) && qw row then oh cs row v c.any c.neg c.tests else(false,2)
def kI(cs:List bQ)(row:List aH): List Cell->Nat->Bool × Int
 | [],_=>(true,0)
 | c::r,k=>if(lD c (row.getD k default) cs row).2≠0\/(lD c (row.getD k default) cs row).1=false then(false,(lD c (row.getD k default) cs row).2)else kI cs row r (k+1)
def kJ(ins:List bQ)(row:List aH): Bool:=decide (row.length=ins.length) && (List.range row.length).all fun i=>bp (row.getD i default) && bI (row.getD i default).kind (ins.getD i default).kind
def oX(Ek:Int)(cs:List bQ)(row:List aH): List pG->Nat->List Int->List Int × Int × Int
 | [],_,acc=>(acc,0,0)
 | l :: r, k, acc => if (kI cs row l.cells 0).2 ≠ 0 then ([], k, (kI cs row l.cells 0).2)
   else if(kI cs row l.cells 0).1 then(if Ek=2 then([(k:Int)],0,0)else oX Ek cs row r (k+1) (acc++[(k:Int)]))
   else oX Ek cs row r (k+1) acc
def cZ(r:Ready)(row:List aH): List Int × Int × Int :=
 if kJ r.table.ins row then oX r.table.bu r.table.ins row r.lines 0 []else ([],0,21)
def fO(cs:List bQ)(row:List aH): List Expr->List aH->List aH × Int
 | [],acc=>(acc,0)
 | x :: r, acc => match gN x cs row with
   | .err e=>([],e)
   | .ok v=>fO cs row r (acc++[v])
def j0(r:Ready)(row:List aH): List Int->List (List aH)->List (List aH) × Int × Int
 | [],acc=>(acc,0,0)
 | i :: q, acc => if (fO r.table.ins row (r.lines.getD i.toNat default).outs []).2 ≠ 0 then ([], i, (fO r.table.ins row (r.lines.getD i.toNat default).outs []).2)
   else j0 r row q (acc++[(fO r.table.ins row (r.lines.getD i.toNat default).outs []).1])
def iM(c:bQ)(v:aH): Int:=if iT (fun x=>x==v) c.order<0 then c.order.length else iT (fun x=>x==v) c.order
def tM: List bQ->List aH->List aH->Bool
 | c::cs,a::r,b::t=>if iM c a≠iM c b then decide (iM c a<iM c b)else tM cs r t
 | _,_,_=>false
def j_(outs:List bQ)(rows:List (List aH)): List (List aH)->Nat->Nat->Nat
 | [],_,best=>best
 | a::r,i,best=>j_ outs rows r (i+1) (if tM outs a (rows.getD best default)then i else best)
def vR: List aH->Int->g_
 | [],n=> .ok ⟨1,n,[]⟩
 | v :: r, n => match ew (n + v.n) with
   | .err e=> .err e
   | .ok w=>vR r w.n
def nL: List aH->aH->aH
 | [],m=>m
 | v::r,m=>nL r (if e7 v m<0 then v else m)
def qU: List aH->aH->aH
 | [],m=>m
 | v::r,m=>qU r (if 0<e7 v m then v else m)
def jU(rows:List (List aH)): List aH:=(rows.map fun r=>r.getD 0 default).filter fun v=> !(bU v)
def kK(agg:Int)(rows:List (List aH)): g_ :=
 if agg=4 then .ok ⟨1,rows.length,[]⟩
 else match jU rows with
 | []=> .ok v0
 | m::l=>if agg=1 then vR (m::l) 0 else if agg=2 then .ok (nL l m)else .ok (qU l m)
structure qx where
 err:Int
 rules:List Int
 rows:List (List aH)
deriving Inhabited
def pE(rows:List (List aH)): Bool:=rows.any fun r=> !(fm (fun a b=>a==b) r (rows.getD 0 default))
def gO(t:Table)(rules:List Int)(rows:List (List aH)): qx :=
 if t.bu=5 then(if t.agg=0 then⟨0,rules,nK rows []⟩else match kK t.agg rows with
  | .err e=>⟨e,rules,[]⟩
  | .ok v=>⟨0,rules,[[v]]⟩)
 else if t.bu=4 then(if pE rows then⟨20,rules,[]⟩else ⟨0,rules,rows.take 1⟩)
 else if t.bu=6 then⟨0,rules,rows⟩
 else if rules=[]then ⟨0,[],[]⟩
 else if t.bu=3 then⟨0,[rules.getD (j_ t.outs rows rows 0 0) default],[rows.getD (j_ t.outs rows rows 0 0) default]⟩
 else⟨0,[rules.getD 0 default],[rows.getD 0 default]⟩
def gw(r:Ready)(row:List aH): qx × Int :=
 if(cZ r row).2.2=21 then(⟨0,[],[]⟩,21)
 else if(cZ r row).2.2≠0 then(⟨(cZ r row).2.2,[(cZ r row).2.1],[]⟩,0)
 else if r.table.bu=1/\1<(cZ r row).1.length then(⟨19,(cZ r row).1,[]⟩,0)
 else if(j0 r row (cZ r row).1 []).2.2≠0 then(⟨(j0 r row (cZ r row).1 []).2.2,[(j0 r row (cZ r row).1 []).2.1],[]⟩,0)
 else(gO r.table (cZ r row).1 (j0 r row (cZ r row).1 []).1,0)
