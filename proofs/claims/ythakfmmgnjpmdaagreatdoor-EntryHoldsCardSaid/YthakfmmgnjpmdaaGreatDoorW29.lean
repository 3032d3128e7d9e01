/- Part. -/
import Derived.Test.YthakfmmgnjpmdaaGreatDoorW28
import Derived.Lib.Bytealg
set_option linter.all false
set_option maxHeartbeats 4000000
namespace Go.Proofs.YthakfmmgnjpmdaaGreatDoor
open Go.AM
set_option maxRecDepth 4000
def VE{t:Table}{r:iq}(h:(jw t r).2.2=0): r.cells.length=t.ins.length/\r.outs.length=t.outs.length/\(∀ j,j<r.cells.length->(mU t r j).2=0)/\(∀ j,j<r.outs.length->(jv t r j).2=0)/\jw t r=(⟨kD t r r.cells.length,mV t r r.outs.length⟩,0,0):=by
 by_cases hb:r.cells.length≠t.ins.length\/r.outs.length≠t.outs.length
 ·rw[Mn hb]at h;exact absurd h (by decide)
 have h1:r.cells.length=t.ins.length:=by omega
 have h2:r.outs.length=t.outs.length:=by omega
 have hc:∀ j,j<r.cells.length->(mU t r j).2=0:=by
  cases hq:(List.range r.cells.length).find? (fun k=>(mU t r k).2 != 0)with
  | some k =>
    exfalso;unfold jw at h;rw[if_neg hb,hq]at h;have:=eG hq;simp at this;exact this h
  | none =>
    intro j hj;have:=d_.1 hq j (cV.2 hj);simpa using this
 have ho:∀ j,j<r.outs.length->(jv t r j).2=0:=by
  cases hq:(List.range r.outs.length).find? (fun k=>(jv t r k).2 != 0)with
  | some k =>
    exfalso;unfold jw at h;rw[if_neg hb,mJ (fun j hj=>by simp[hc j hj])]at h;dsimp only at h;rw[hq]at h;have:=eG hq;simp at this;exact this h
  | none =>
    intro j hj;have:=d_.1 hq j (cV.2 hj);simpa using this
 exact⟨h1,h2,hc,ho,Hy h1 h2 hc ho⟩
def tB{α : Type}[Inhabited α](f:Nat-> α){n k:Nat}(hk:k<n): ((List.range n).map f).getD k default=f k:=by
 rw[ai,g_,List.getElem?_range hk];rfl
def Yh{w:Nat}{l:jn}(h:(sK w l).2.2=0): (∀ j,j<l.cells.length->(jY l j).2=0)/\(∀ j,j<l.outs.length->(my l j).2=0):=by
 have hc:∀ j,j<l.cells.length->(jY l j).2=0:=by
  cases hq:(List.range l.cells.length).find? (fun k=>(jY l k).2 != 0)with
  | some k =>
    exfalso;unfold sK at h;rw[hq]at h;have:=eG hq;simp at this;exact this h
  | none =>
    intro j hj;have:=d_.1 hq j (cV.2 hj);simpa using this
 refine⟨hc,?_⟩;cases hq:(List.range l.outs.length).find? (fun k=>(my l k).2 != 0)with
 | some k =>
   exfalso;unfold sK at h;rw[mJ (fun j hj=>by simp[hc j hj])]at h;dsimp only at h;rw[hq]at h;have:=eG hq;simp at this;exact this h
 | none =>
   intro j hj;have:=d_.1 hq j (cV.2 hj);simpa using this
def VF{t:Table}{r:iq}(h:(jw t r).2.2=0){w:Nat}(hw:(sK w (jw t r).1).2.2=0): jw t (sK w (jw t r).1).1=jw t r:=by
 obtain⟨h1,h2,hc,ho,he⟩:=VE h;obtain⟨tc,tO⟩:=Yh hw;rw[P2];rw[he]at tc tO ⊢;dsimp only at tc tO ⊢;rw[wo]at tc ⊢;rw[B9]at tO ⊢;obtain⟨l,hl⟩:∃ l:jn,(⟨kD t r r.cells.length,mV t r r.outs.length⟩:jn)=l:=⟨_,rfl⟩;have lJ:∀ j,j<r.cells.length->l.cells.getD j default=(mU t r j).1:=fun j hj=>by rw[<-hl];exact tB _ hj
 have D3:∀ j,j<r.outs.length->l.outs.getD j default=(jv t r j).1:=fun j hj=>by rw[<-hl];exact tB _ hj
 have hlc:l.cells=kD t r r.cells.length:=by rw[<-hl]
 have hlo:l.outs=mV t r r.outs.length:=by rw[<-hl]
 rw[hl]at tc tO ⊢
 have ask:∀ j,j<r.cells.length->mU t ⟨bM l r.cells.length,mz l r.outs.length⟩ j=((mU t r j).1,0):=fun j hj=>by
  have h0:=tc j hj;have e1:(bM l r.cells.length).getD j default=(jY l j).1:=tB _ hj;have e2:jY l j=n8 (mU t r j).1:=by unfold jY;rw[lJ j hj]
  have e3:=hc j hj;rw[e2]at h0 e1;have e4:(mU t r j).1=(i_ (r.cells.getD j default)).1:=rfl;have e5:=(VD _ h0 (by rw[e4];exact B8 _)).1;show Hx t j ((bM l r.cells.length).getD j default)=_;rw[e1];unfold Hx;rw[e5];dsimp only;rw[if_pos rfl];have e6:(mU t r j).2=if(i_ (r.cells.getD j default)).2.2=0 then yq t.ins (t.ins.getD j default).kind (i_ (r.cells.getD j default)).1 else(i_ (r.cells.getD j default)).2.2:=rfl
  rw[e6]at e3;split at e3
  ·rw[e4,e3]
  ·rename_i hh;exact absurd e3 hh
 have tel:∀ j,j<r.outs.length->jv t ⟨bM l r.cells.length,mz l r.outs.length⟩ j=((jv t r j).1,0):=fun j hj=>by
  have h0:=tO j hj;have e1:(mz l r.outs.length).getD j default=(my l j).1:=tB _ hj;have e2:my l j=nK (jv t r j).1:=by unfold my;rw[D3 j hj]
  have e3:=ho j hj;rw[e2]at h0 e1;have e4:(jv t r j).1=(iH (r.outs.getD j default)).1:=rfl;have e5:=(VA _ h0 (by rw[e4];exact(wm _).1)).2.1;show su t j ((mz l r.outs.length).getD j default)=_;rw[e1];have e6:jv t r j=su t j (r.outs.getD j default):=rfl;rw[e6]at e3 e5 ⊢;unfold su at e3 e5 ⊢;dsimp only at e3 e5 ⊢;rw[e5];dsimp only;rw[if_neg (by simp)];split at e3
  ·rename_i hh;exact absurd e3 hh
  ·rw[e3]
 have hls:=Hy (t:=t) (r:=⟨bM l r.cells.length,mz l r.outs.length⟩) (by dsimp only;rw[um];exact h1) (by dsimp only;rw[wu];exact h2) (by intro j hj;dsimp only at hj;rw[um]at hj;rw[ask j hj]) (by intro j hj;dsimp only at hj;rw[wu]at hj;rw[tel j hj]);rw[hls];dsimp only;rw[um,wu]
 have q1:kD t ⟨bM l r.cells.length,mz l r.outs.length⟩ r.cells.length=l.cells:=by
  rw[hlc];unfold kD;exact List.map_congr_left (fun j hj=>by rw[ask j (cV.1 hj)])
 have q2:mV t ⟨bM l r.cells.length,mz l r.outs.length⟩ r.outs.length=l.outs:=by
  rw[hlo];unfold mV;exact List.map_congr_left (fun j hj=>by rw[tel j (cV.1 hj)])
 rw[q1,q2]
def Gl{t:Table}(h:(iy t).2.2.2=0): (bS t).2.2.2=0/\(∀ j,j<(bS t).1.lines.length->(mW t j).2.2=0)/\iy t=({ t with rules:=kE t (bS t).1.lines.length },0,0,0):=by
 by_cases he:(bS t).2.2.2=0
 ·have hr : ∀ j, j < (bS t).1.lines.length -> (mW t j).2.2 = 0 := by
   cases hq:(List.range (bS t).1.lines.length).find? (fun k=>(mW t k).2.2 != 0)with
   | some k =>
     exfalso;unfold iy at h;rw[if_neg (by omega),hq]at h;have:=eG hq;simp at this;exact this h
   | none =>
     intro j hj;have:=d_.1 hq j (cV.2 hj);simpa using this
  exact⟨he,hr,Eh he hr⟩
 ·rw[zU he]at h;exact absurd h he
def RZ{t:Table}(h:(iy t).2.2.2=0): bS (iy t).1=(⟨(iy t).1,(bS t).1.lines⟩,0,0,0)/\iy (iy t).1=((iy t).1,0,0,0):=by
 obtain⟨h0,hr,hc⟩:=Gl h;obtain⟨hf,hl,hm⟩:=xx h0;have hlen:(bS t).1.lines.length=t.rules.length:=by rw[hm];exact tA _ _
 have AZ:∀ j,j<t.rules.length->vK t j=(kg t j).1:=fun j hj=>by unfold vK;rw[hm];exact tB _ hj
 rw[hc,hlen];rw[hlen]at hr;dsimp only;have Mq:∀ j,j<t.rules.length->(kE t t.rules.length).getD j default=(mW t j).1:=fun j hj=>tB _ hj
 have N4:∀ j,j<t.rules.length->kg { t with rules:=kE t t.rules.length } j=kg t j:=fun j hj=>by
  show jw t ((kE t t.rules.length).getD j default)=jw t (t.rules.getD j default);rw[Mq j hj];have h1:=hr j hj;unfold mW at h1 ⊢;rw[AZ j hj]at h1 ⊢;exact VF (hl j hj) h1
 have hfr:jQ { t with rules:=kE t t.rules.length }=jQ t:=by
  unfold jQ;dsimp only;rw[qO];rfl
 have hmk:bS { t with rules:=kE t t.rules.length }=(⟨{ t with rules:=kE t t.rules.length },(bS t).1.lines⟩,0,0,0):=by
  rw[HA (by rw[hfr];exact hf) (fun j hj=>by dsimp only at hj;rw[qO]at hj;rw[N4 j hj];exact hl j hj)];dsimp only;rw[qO,hm];dsimp only
  have:kX { t with rules:=kE t t.rules.length } t.rules.length=kX t t.rules.length:=by
   unfold kX;exact List.map_congr_left (fun j hj=>by rw[N4 j (cV.1 hj)])
  rw[this]
 refine⟨hmk,?_⟩
 have hrow:∀ j,mW { t with rules:=kE t t.rules.length } j=mW t j:=fun j=>by
  unfold mW vK;rw[hmk]
 have hz:(bS { t with rules:=kE t t.rules.length }).2.2.2=0:=by rw[hmk]
 rw[Eh hz (fun j hj=>by rw[hmk]at hj;dsimp only at hj;rw[hlen]at hj;rw[hrow];exact hr j hj)]
 have:kE { t with rules:=kE t t.rules.length } (bS { t with rules:=kE t t.rules.length }).1.lines.length=kE t t.rules.length:=by
  rw[hmk];dsimp only;rw[hlen];exact List.map_congr_left (fun j _=>congrArg Prod.fst (hrow j))
 rw[this]
def jJ(a b:Int): Int:=if a<b then -1 else if b<a then 1 else 0
def iM(a b:aL): Int:=if jJ a.kind b.kind≠0 then jJ a.kind b.kind else if jJ a.n b.n≠0 then jJ a.n b.n else Lib.compareBytes a.s b.s
def iu: List aL->List aL->Int
 | [],[]=>0
 | [],_::_=> -1
 | _::_,[]=>1
 | a::r,b::t=>if iM a b≠0 then iM a b else iu r t
def Em(x:List aL): List (List aL)->List (List aL)
 | []=>[x]
 | y::r=>if iu x y<0 then x::y::r else y::Em x r
def xy: List (List aL)->List (List aL)->List (List aL)
 | [],acc=>acc
 | x::r,acc=>xy r (Em x acc)
inductive iW where
 | ok (v:aL)
 | err (e:Int)
deriving DecidableEq,Inhabited
def jR(n:Int): iW:=if -9223372036854775808<=n/\n<=9223372036854775807 then .ok ⟨1,n,[]⟩else .err 15
def wN(a b:Int): iW:=if b=0 then .err 16 else jR (a.tdiv b)
def fy(b:Bool): aL:=⟨3,if b then 1 else 0,[]⟩
def dB(v:aL): Bool:=decide (v.kind=0)
def pA(op a b:Int): iW:=if op=4 then jR (a+b)else if op=5 then jR (a-b)else if op=6 then jR (a*b)else wN a b
def jZ(op:Int)(a b:aL): Bool:=decide (op=4) && (decide (a.kind=2) || decide (b.kind=2))
def vM(op:Int)(a b:aL): iW :=
 if !(bT a.kind (if jZ op a b then 2 else 1)) || !(bT b.kind (if jZ op a b then 2 else 1))then .err 14
 else if dB a || dB b then .ok v0
 else if jZ op a b then(if 40<a.s.length+b.s.length then .err 5 else .ok ⟨2,0,a.s++b.s⟩)
 else pA op a.n b.n
def xA(op:Int)(a b:aL): iW :=
 if bT a.kind b.kind=false then .err 14
 else if op=8 then .ok (fy (decide (a=b)))
 else if op=9 then .ok (fy (!(decide (a=b))))
 else if a.kind=3\/b.kind=3 then .err 14
 else if dB a || dB b then .ok v0
 else if op=10 then .ok (fy (decide (iM a b<0)))
 else if op=11 then .ok (fy (decide (iM a b<=0)))
 else if op=12 then .ok (fy (decide (0<iM a b)))
 else .ok (fy (decide (0<=iM a b)))
def rq(op:Int)(a b:aL): iW :=
 if !(bT a.kind 3) || !(bT b.kind 3)then .err 14
 else if a=fy (decide (op=15))\/b=fy (decide (op=15))then .ok (fy (decide (op=15)))
 else if dB a || dB b then .ok v0
 else .ok (fy (decide (op=14)))
def KM(op:Int)(a b:aL): iW:=if op<=7 then vM op a b else if op<=13 then xA op a b else rq op a b
def KN(a:aL): iW:=if bT a.kind 1=false then .err 14 else if dB a then .ok a else jR (0-a.n)
def qi(cs:List cN)(row:List aL)(op:Int)(v:aL)(s:aO)(rs:List iW): iW :=
 if op=1 then .ok v
 else if op=2 then(if uR cs s<0 then .err 13 else .ok (row.getD (uR cs s).toNat default))
 else match rs.getD 0 default with
 | .err e=> .err e
 | .ok a => if op = 3 then KN a
   else if op=16 then(if bT a.kind 3=false then .err 14 else if a=fy true then rs.getD 1 default else rs.getD 2 default)
   else match rs.getD 1 default with
   | .err e=> .err e
   | .ok b=>KM op a b
mutual
def rY(cs:List cN)(row:List aL): Expr->iW
 | .mk op v s l=>qi cs row op v s (Gm cs row l)
def Gm(cs:List cN)(row:List aL): List Expr->List iW
 | []=>[]
 | x::r=>rY cs row x::Gm cs row r
end
def Fw(cs:List cN)(row:List aL)(l:List Expr): Gm cs row l=l.map (rY cs row):=by
 induction l with
 | nil=>rfl
 | cons x r ih=>simp[Gm,ih]
def afl(cs:List cN)(row:List aL){l:List Expr}{i:Nat}(h:i<l.length): (Gm cs row l).getD i default=rY cs row (l.getD i default):=by
 rw[Fw];simp[ai,h]
def yz(row:List aL): Bool:=row.all br
def jx(x:Expr)(cs:List cN)(row:List aL): iW:=if cq x && decide (cs.length=row.length) && yz row then rY cs row x else .err 2
def tC(v:aL): Prop:=(-9223372036854775808<=v.n/\v.n<=9223372036854775807)/\v.s.length<=2 ^ 30
def gk(v:aL): Prop:=br v=true/\tC v
def iW.good: iW->Prop
 | .ok v=>gk v
 | .err e=>e=2\/e=5\/e=13\/e=14\/e=15\/e=16
def En: (iW.err 14).good:= .inr (.inr (.inr (.inl rfl)))
def Tr(op:Int)(a b:aL)(k:Int)(hk:(if jZ op a b then 2 else 1)=k): vM op a b=if bT a.kind k=true/\bT b.kind k=true then(if dB a || dB b then .ok v0 else if jZ op a b then(if 40<a.s.length+b.s.length then .err 5 else .ok ⟨2,0,a.s++b.s⟩)else pA op a.n b.n)else .err 14:=by
 unfold vM;rw[hk];cases h1:bT a.kind k<;>cases h2:bT b.kind k<;>simp
def Fx: gk v0:=by unfold gk tC;decide
def Jm(b:Bool): gk (fy b):=by unfold gk tC;cases b<;>decide
def HB(n:Int): (jR n).good:=by
 unfold jR;split
 ·rename_i h;exact⟨by simp[br],h,by simp⟩
 ·exact .inr (.inr (.inr (.inr (.inl rfl))))
def VG{s:aO}: br ⟨2,0,s⟩=kO s:=by simp[br]
def HC{v:aL}(h:br v=true)(hk:v.kind=2): kO v.s=true:=by
 unfold br at h;rw[if_neg (by omega),if_neg (by omega),if_pos hk]at h;simp only[aj]at h;exact h.2
def ado{v:aL}(h:br v=true)(hk:v.kind=0): v=v0:=by
 obtain⟨k,n,s⟩:=v;dsimp only at hk;subst hk;rw[BS]at h;simp only[aj,decide_eq_true_eq]at h;rw[h.1,h.2];rfl
def aaT(a b:Int): (wN a b).good:=by
 unfold wN;split
 ·exact .inr (.inr (.inr (.inr (.inr rfl))))
 ·exact HB _
def VH(op a b:Int): (pA op a b).good:=by
 unfold pA;repeat' split
 all_goals first|exact HB _|exact aaT _ _
def Yi{op:Int}{a b:aL}(ha:gk a)(hb:gk b): (vM op a b).good:=by
 obtain⟨k,hk⟩:∃ k:Int,(if jZ op a b then 2 else 1)=k:=⟨_,rfl⟩;rw[Tr op a b k hk];by_cases h1:bT a.kind k=true/\bT b.kind k=true
 ·rw[if_pos h1];by_cases h2:(dB a || dB b)=true
  ·rw[if_pos h2];exact Fx
  rw[if_neg h2];by_cases h3:jZ op a b=true
  ·rw[if_pos h3];rw[if_pos h3]at hk;subst hk;by_cases h4:40<a.s.length+b.s.length
   ·rw[if_pos h4];exact .inr (.inl rfl)
   rw[if_neg h4];simp only[dB,bT,bU,decide_eq_true_eq,not_or]at h1 h2;have ka:a.kind=2:=by omega
   have kb:b.kind=2:=by omega
   have pa:=HC ha.1 ka;have pb:=HC hb.1 kb;refine⟨?_,⟨by show(-9223372036854775808:Int)<=0;decide,by show(0:Int)<=9223372036854775807;decide⟩,by simp only[List.length_append];omega⟩;rw[VG];unfold kO at pa pb ⊢;simp only[aj,decide_eq_true_eq,List.all_append,List.length_append]at pa pb ⊢;exact⟨by omega,pa.2,pb.2⟩
  ·rw[if_neg h3];exact VH _ _ _
 ·rw[if_neg h1];exact En
def Yj{op:Int}{a b:aL}: (xA op a b).good:=by
 unfold xA;repeat' split
 all_goals first|exact Jm _|exact Fx|exact En
def R0{op:Int}{a b:aL}: (rq op a b).good:=by
 unfold rq;repeat' split
 all_goals first|exact Jm _|exact Fx|exact En
def aaU{op:Int}{a b:aL}(ha:gk a)(hb:gk b): (KM op a b).good:=by
 unfold KM;repeat' split
 all_goals first|exact Yi ha hb|exact Yj|exact R0
def aaV{a:aL}(ha:gk a): (KN a).good:=by
 unfold KN;split
 ·exact En
 split
 ·exact ha
 ·exact HB _
def Qc{l:List cN}{s:aO}: uR l s<l.length:=S8 _ _
def Yk{cs:List cN}{row:List aL}{op:Int}{v:aL}{s:aO}{rs:List iW}(hl:cs.length=row.length)(hrow:∀ w ∈ row,gk w)(hv:op=1->gk v)(h1:op≠1->op≠2->(rs.length:Int)=jG op)(h:∀ r ∈ rs,r.good): (qi cs row op v s rs).good:=by
 unfold qi;split
 ·rename_i e;exact hv e
 split
 ·split
  ·exact .inr (.inr (.inl rfl))
  ·rename_i h3;have:=Qc (l:=cs) (s:=s);exact hrow _ (bn (by omega))
 rename_i o1 o2;have hc:=qH (h1 o1 o2) o1 o2;have at_:∀ i,i<rs.length->(rs.getD i default).good:=fun i hi=>h _ (bn hi);have g0:=at_ 0 (by omega);split
 ·rename_i e he;rw[he]at g0;exact g0
 ·rename_i a he;rw[he]at g0;split
  ·exact aaV g0
  split
  ·split
   ·exact En
   split
   ·exact at_ 1 (by omega)
   ·exact at_ 2 (by omega)
  ·have g1:=at_ 1 (by omega);split
   ·rename_i e hb;rw[hb]at g1;exact g1
   ·rename_i b hb;rw[hb]at g1;exact aaU g0 g1
def Cd{l:List Expr}(h:rV l=true){y:Expr}(hy:y ∈ l): cq y=true:=by
 induction l with
 | nil=>cases hy
 | cons x r ih =>
   simp only[rV,aj]at h;rcases List.mem_cons.1 hy with rfl|hy
   ·exact h.1
   ·exact ih h.2 hy
def Qd{cs:List cN}{row:List aL}(hl:cs.length=row.length)(hrow:∀ w ∈ row,gk w)(x:Expr): cq x=true->ig x->(rY cs row x).good:=by
 induction x using Expr.ind with
 | h op v s l ih =>
   intro hr hx;simp only[cq,aj,decide_eq_true_eq]at hr;simp only[ig]at hx;simp only[rY];refine Yk hl hrow (fun e=>?_) (fun _ _=>by rw[Fw,List.length_map];exact hr.1) (fun r hr'=>?_)
   ·have h2:=hr.2;rw[if_pos e]at h2;simp only[aj]at h2;refine⟨h2.1.2,⟨hx.2.2.1,hx.2.2.2.1⟩,?_⟩;have:=h2.1.2;by_cases k2:v.kind=2
    ·have:=HC this k2;unfold kO at this;simp only[aj,decide_eq_true_eq]at this;omega
    ·have : v.s = [] := by
      obtain⟨vk,vn,vs⟩:=v;dsimp only at k2 this ⊢;by_cases k0:vk=0
      ·subst k0;rw[BS]at this;simp at this;exact this.2
      by_cases k1:vk=1
      ·subst k1;rw[Ho]at this;simpa using this
      by_cases k3:vk=3
      ·subst k3;rw[Hp]at this;simp at this;exact this.1
      ·rw[Pn _ _ _ k0 k1 k2 k3]at this;cases this
     rw[this];simp
   ·rw[Fw]at hr';obtain⟨y,hy,rfl⟩:=dW.1 hr';refine ih y hy ?_ (xI hx.2.2.2.2 hy);have h2:=hr.2;have hne:l≠[]:=fun e=>by rw[e]at hy;cases hy
    have hlen:0<l.length:=ik.2 hne;have n1:op≠1:=fun e=>by subst e;have:=hr.1;simp[jG]at this;exact hne (by simpa using this)
    have n2:op≠2:=fun e=>by subst e;have:=hr.1;simp[jG]at this;exact hne (by simpa using this)
    rw[if_neg n1,if_neg n2]at h2;simp only[aj]at h2;exact Cd h2.2 hy
def oQ{cs:List cN}{row:List aL}(hrow:∀ w ∈ row,tC w){x:Expr}(hx:ig x): (jx x cs row).good:=by
 unfold jx;split
 ·rename_i h;simp only[aj,decide_eq_true_eq]at h;exact Qd h.1.2 (fun w hw=>⟨aV.1 h.2 w hw,hrow w hw⟩) x h.1.1 hx
 ·exact .inl rfl
def iW.zn(k:Int): iW->Prop
 | .ok v=>v.kind=0\/v.kind=k
 | .err _=>True
def Ts(n:Int): (jR n).zn 1:=by
 unfold jR;split
 ·exact .inr rfl
 ·trivial
def Yl(op a b:Int): (pA op a b).zn 1:=by
 unfold pA wN;repeat' split
 all_goals first|exact Ts _|trivial
def Mu{cs:List cN}: ∀ {l:List Expr} {ks:List Int},kW cs l=(ks,0)->ks.length=l.length/\ ∀ i,i<l.length->jr cs (l.getD i default)=(ks.getD i 0,0)
 | [], ks, h => by
   simp only[kW,Prod.mk.injEq]at h;obtain⟨rfl,_⟩:=h;exact⟨rfl,fun i hi=>absurd hi (cE _)⟩
 | x :: r, ks, h => by
   simp only[kW]at h;split at h
   ·rename_i hx;simp only[Prod.mk.injEq]at h;exact absurd h.2 hx
   split at h
   ·rename_i hx;simp only[Prod.mk.injEq]at h;exact absurd h.2 hx
   rename_i h1 h2;simp only[Prod.mk.injEq,and_true]at h;subst h;have ih:=Mu (cs:=cs) (l:=r) (ks:=(kW cs r).1) (Prod.ext rfl (by simpa using h2));refine⟨by simp[ih.1],fun i hi=>?_⟩;cases i with
   | zero=>exact Prod.ext rfl (by simpa using h1)
   | succ i=>simpa using ih.2 i (by simpa using hi)
def Eo{op:Int}{a b:aL}{k:Int}(ht:jZ op a b=true->k=2)(hf:jZ op a b=false->(dB a || dB b)=false->k=1): (vM op a b).zn k:=by
 obtain⟨c,hk⟩:∃ c:Int,(if jZ op a b then 2 else 1)=c:=⟨_,rfl⟩;rw[Tr op a b c hk];by_cases h1:bT a.kind c=true/\bT b.kind c=true
 ·rw[if_pos h1];by_cases h2:(dB a || dB b)=true
  ·rw[if_pos h2];exact .inl rfl
  rw[if_neg h2];cases h3:jZ op a b with
  | true =>
    rw[if_pos rfl,ht h3];by_cases h4:40<a.s.length+b.s.length
    ·rw[if_pos h4];trivial
    ·rw[if_neg h4];exact .inr rfl
  | false =>
    rw[if_neg (by decide),hf h3 (by simpa using h2)];exact Yl _ _ _
 ·rw[if_neg h1];trivial
def aaW{op:Int}{a b:aL}{k1 k2:Int}(ha:a.kind=0\/a.kind=k1)(hb:b.kind=0\/b.kind=k2)(h3:4<=op)(h7:op<=7)(h:(lp op [k1,k2]).2=true): (vM op a b).zn (lp op [k1,k2]).1:=by
 have hu:lp op [k1,k2]=if op=4 then(if nY k1 k2=2 then(2,[k1,k2].all fun k=>bT k 2)else (1,[k1,k2].all fun k=>bT k 1))else (1,[k1,k2].all fun k=>bT k 1):=by
  unfold lp;by_cases h4:op=4
  ·subst h4;simp
  ·rw[if_pos (by omega),if_neg h4]
 rw[hu]at h ⊢;by_cases h4:op=4
 ·rw[if_pos h4]at h ⊢;by_cases ho:nY k1 k2=2
  ·rw[if_pos ho]at h ⊢;simp only[List.all_cons,List.all_nil,Bool.and_true,aj,bT,bU,decide_eq_true_eq]at h;refine Eo (fun _=>rfl) (fun ht hn=>?_);exfalso;simp only[jZ,dB,Bool.and_eq_false_iff,gQ,decide_eq_false_iff_not]at ht hn;omega
  ·rw[if_neg ho]at h ⊢;simp only[List.all_cons,List.all_nil,Bool.and_true,aj,bT,bU,decide_eq_true_eq]at h;refine Eo (fun ht=>?_) (fun _ _=>rfl);exfalso;simp only[jZ,aj,bU,decide_eq_true_eq]at ht;omega
 ·rw[if_neg h4]at h ⊢;exact Eo (fun ht=>by simp[jZ,h4]at ht) (fun _ _=>rfl)
def ach(b:Bool): (iW.ok (fy b)).zn 3:= .inr rfl
def aci(k:Int): (iW.ok v0).zn k:= .inl rfl
def acj(k e:Int): (iW.err e).zn k:=trivial
def aaX(op:Int)(a b:aL): (xA op a b).zn 3:=by
 unfold xA;repeat' split
 all_goals first|exact ach _|exact aci _|exact acj _ _
def VI(op:Int)(a b:aL): (rq op a b).zn 3:=by
 unfold rq;repeat' split
 all_goals first|exact ach _|exact aci _|exact acj _ _
def adp{cs:List cN}{row:List aL}(hrow:∀ i,i<cs.length->(row.getD i default).kind=0\/(row.getD i default).kind=(cs.getD i default).kind)(x:Expr): ∀ k,cq x=true->jr cs x=(k,0)->(rY cs row x).zn k:=by
 induction x using Expr.ind with
 | h op v s l ih =>
   intro k hr hk;simp only[cq,aj,decide_eq_true_eq]at hr;simp only[jr]at hk;simp only[rY];unfold qi;by_cases o1:op=1
   ·rw[if_pos o1]at hk ⊢;simp only[Prod.mk.injEq,and_true]at hk;exact .inr hk
   rw[if_neg o1]at hk ⊢;by_cases o2:op=2
   ·rw[if_pos o2]at hk ⊢;split at hk
    ·simp at hk
    ·rename_i h3;rw[if_neg h3];simp only[Prod.mk.injEq,and_true]at hk;have:=Qc (l:=cs) (s:=s);have:=hrow (uR cs s).toNat (by omega);rw[hk]at this;exact this
   rw[if_neg o2]at hk ⊢;have sS:=hr.2;rw[if_neg o1,if_neg o2]at sS;simp only[aj]at sS;split at hk
   case isFalse h=>simp only[Prod.mk.injEq]at hk;exact absurd hk.2 h
   rename_i hz;obtain⟨hl,bR⟩:=Mu (cs:=cs) (l:=l) (ks:=(kW cs l).1) (Prod.ext rfl hz);generalize (kW cs l).1=ks at hk hl bR;have hc:=qH hr.1 o1 o2
   have ihk:∀ i,i<l.length->((Gm cs row l).getD i default).zn (ks.getD i 0):=fun i hi=>by
    rw[afl cs row hi];exact ih _ (bn hi) _ (Cd sS.2 (bn hi)) (bR i hi)
   unfold U7 at hk;split at hk
   case isFalse h=>simp at hk
   rename_i ht;simp only[Prod.mk.injEq,and_true]at hk;subst hk;have g0:=ihk 0 (by omega);split
   ·trivial
   ·rename_i a he;rw[he]at g0;have g0:a.kind=0\/a.kind=ks.getD 0 0:=g0;by_cases o3:op=3
    ·rw[if_pos o3];have:(lp op ks).1=1:=by unfold lp;rw[if_pos (.inl o3)]
     rw[this];unfold KN;split
     ·trivial
     split
     ·rename_i h1 h2;exact .inl (by simpa[dB]using h2)
     ·exact Ts _
    rw[if_neg o3];by_cases o16:op=16
    ·subst o16;rw[if_pos rfl];have g1:=ihk 1 (by omega);have g2:=ihk 2 (by omega)
     have ht':bT (ks.getD 1 0) (ks.getD 2 0)=true:=by
      simp[lp]at ht;exact ht.2
     have e1:(lp 16 ks).1=nY (ks.getD 1 0) (ks.getD 2 0):=by simp[lp]
     rw[e1];simp only[bT,bU,decide_eq_true_eq]at ht'
     have m1:((Gm cs row l).getD 1 default).zn (nY (ks.getD 1 0) (ks.getD 2 0)):=by
      revert g1;cases (Gm cs row l).getD 1 default with
      | err=>intro _;trivial
      | ok v =>
        intro g1;have g1:v.kind=0\/v.kind=ks.getD 1 0:=g1;show v.kind=0\/v.kind=nY _ _;unfold nY;split<;>omega
     have m2:((Gm cs row l).getD 2 default).zn (nY (ks.getD 1 0) (ks.getD 2 0)):=by
      revert g2;cases (Gm cs row l).getD 2 default with
      | err=>intro _;trivial
      | ok v =>
        intro g2;have g2:v.kind=0\/v.kind=ks.getD 2 0:=g2;show v.kind=0\/v.kind=nY _ _;unfold nY;split<;>omega
     by_cases hf:bT a.kind 3=false
     ·rw[if_pos hf];trivial
     ·rw[if_neg hf];by_cases ha:a=fy true
      ·rw[if_pos ha];exact m1
      ·rw[if_neg ha];exact m2
    rw[if_neg o16];have g1:=ihk 1 (by omega)
    obtain⟨k1,k2,rfl⟩:∃ k1 k2,ks=[k1,k2]:=by
     match ks,hl with
     | [a,b],_=>exact⟨a,b,rfl⟩
     | [],h=>simp at h;omega
     | [a],h=>simp at h;omega
     | a::b::c::r,h=>simp at h;omega
    split
    ·trivial
    ·rename_i b hb;rw[hb]at g1;have g1:b.kind=0\/b.kind=k2:=g1;unfold KM;by_cases h7:op<=7
     ·rw[if_pos h7];exact aaW g0 g1 (by omega) h7 ht
     rw[if_neg h7];by_cases h13:op<=13
     ·rw[if_pos h13]
      have:(lp op [k1,k2]).1=3:=by
       unfold lp;rw[if_neg (by omega),if_neg (by omega)];by_cases h8:op=8\/op=9
       ·rw[if_pos h8]
       ·rw[if_neg h8,if_pos (by omega)]
      rw[this];exact aaX _ _ _
     ·rw[if_neg h13]
      have:(lp op [k1,k2]).1=3:=by
       unfold lp;rw[if_neg (by omega),if_neg (by omega),if_neg (by omega),if_neg (by omega),if_pos (by omega)]
      rw[this];exact VI _ _ _
def ur(t:Test)(v a b:aL): Bool :=
 if t.kind=1 then decide (v=a)
 else if dB v || dB a || dB b then false
 else if t.kind=2 then decide (iM v a<0)
 else if t.kind=3 then decide (iM v a<=0)
 else if t.kind=4 then decide (0<iM v a)
 else if t.kind=5 then decide (0<=iM v a)
 else(decide (0<iM v a) ||(decide (iM v a=0) && !t.lo)) && (decide (iM v b<0) ||(decide (iM v b=0) && !t.hi))
def yA(t:Test)(v a b:aL): Bool × Int:=if n6 t v.kind a.kind && n6 t v.kind b.kind then(ur t v a b,0)else (false,14)
def uu(cs:List cN)(row:List aL)(v:aL)(t:Test): Bool × Int:=match jx t.a cs row with
 | .err e=>(false,e)
 | .ok a => if t.kind = 6 then (match jx t.b cs row with
   | .err e=>(false,e)
   | .ok b=>yA t v a b)else yA t v a a
def uv(cs:List cN)(row:List aL)(v:aL)(any neg:Bool): List Test->Bool × Int
 | []=>(any || neg,0)
 | t::r=>if(uu cs row v t).2≠0 then(false,(uu cs row v t).2)else if(uu cs row v t).1 then(!neg,0)else uv cs row v any neg r
def mX(c:Cell)(v:aL)(cs:List cN)(row:List aL): Bool × Int :=
 if gP c && br v && decide (cs.length=row.length) && yz row then uv cs row v c.any c.neg c.tests else(false,2)
def mY(cs:List cN)(row:List aL): List Cell->Nat->Bool × Int
 | [],_=>(true,0)
 | c::r,k=>if(mX c (row.getD k default) cs row).2≠0\/(mX c (row.getD k default) cs row).1=false then(false,(mX c (row.getD k default) cs row).2)else mY cs row r (k+1)
def lN(ins:List cN)(row:List aL): Bool:=decide (row.length=ins.length) && (List.range row.length).all fun i=>br (row.getD i default) && bT (row.getD i default).kind (ins.getD i default).kind
def rZ(Ep:Int)(cs:List cN)(row:List aL): List jn->Nat->List Int->List Int × Int × Int
 | [],_,acc=>(acc,0,0)
 | l :: r, k, acc => if (mY cs row l.cells 0).2 ≠ 0 then ([], k, (mY cs row l.cells 0).2)
   else if(mY cs row l.cells 0).1 then(if Ep=2 then([(k:Int)],0,0)else rZ Ep cs row r (k+1) (acc++[(k:Int)]))
   else rZ Ep cs row r (k+1) acc
def dS(r:Ready)(row:List aL): List Int × Int × Int :=
 if lN r.table.ins row then rZ r.table.bZ r.table.ins row r.lines 0 []else ([],0,21)
def jc(cs:List cN)(row:List aL): List Expr->List aL->List aL × Int
 | [],acc=>(acc,0)
 | x :: r, acc => match jx x cs row with
   | .err e=>([],e)
   | .ok v=>jc cs row r (acc++[v])
def kF(r:Ready)(row:List aL): List Int->List (List aL)->List (List aL) × Int × Int
 | [],acc=>(acc,0,0)
 | i :: q, acc => if (jc r.table.ins row (r.lines.getD i.toNat default).outs []).2 ≠ 0 then ([], i, (jc r.table.ins row (r.lines.getD i.toNat default).outs []).2)
   else kF r row q (acc++[(jc r.table.ins row (r.lines.getD i.toNat default).outs []).1])
def kB(c:cN)(v:aL): Int:=if kr (fun x=>x==v) c.order<0 then c.order.length else kr (fun x=>x==v) c.order
def wv: List cN->List aL->List aL->Bool
 | c::cs,a::r,b::t=>if kB c a≠kB c b then decide (kB c a<kB c b)else wv cs r t
 | _,_,_=>false
def pB(outs:List cN)(rows:List (List aL)): List (List aL)->Nat->Nat->Nat
 | [],_,best=>best
 | a::r,i,best=>pB outs rows r (i+1) (if wv outs a (rows.getD best default)then i else best)
def zV: List aL->Int->iW
 | [],n=> .ok ⟨1,n,[]⟩
 | v :: r, n => match jR (n + v.n) with
   | .err e=> .err e
   | .ok w=>zV r w.n
def pC: List aL->aL->aL
 | [],m=>m
 | v::r,m=>pC r (if iM v m<0 then v else m)
def uw: List aL->aL->aL
 | [],m=>m
 | v::r,m=>uw r (if 0<iM v m then v else m)
def j0(rows:List (List aL)): List aL:=(rows.map fun r=>r.getD 0 default).filter fun v=> !(dB v)
def lW(agg:Int)(rows:List (List aL)): iW :=
 if agg=4 then .ok ⟨1,rows.length,[]⟩
 else match j0 rows with
 | []=> .ok v0
 | m::l=>if agg=1 then zV (m::l) 0 else if agg=2 then .ok (pC l m)else .ok (uw l m)
structure ux where
 err:Int
 rules:List Int
 rows:List (List aL)
deriving Inhabited
def A2(rows:List (List aL)): Bool:=rows.any fun r=> !(fO (fun a b=>a==b) r (rows.getD 0 default))
def mM(t:Table)(rules:List Int)(rows:List (List aL)): ux :=
 if t.bZ=5 then(if t.agg=0 then⟨0,rules,xy rows []⟩else match lW t.agg rows with
  | .err e=>⟨e,rules,[]⟩
  | .ok v=>⟨0,rules,[[v]]⟩)
 else if t.bZ=4 then(if A2 rows then⟨20,rules,[]⟩else ⟨0,rules,rows.take 1⟩)
 else if t.bZ=6 then⟨0,rules,rows⟩
 else if rules=[]then ⟨0,[],[]⟩
 else if t.bZ=3 then⟨0,[rules.getD (pB t.outs rows rows 0 0) default],[rows.getD (pB t.outs rows rows 0 0) default]⟩
 else⟨0,[rules.getD 0 default],[rows.getD 0 default]⟩
def di(r:Ready)(row:List aL): ux × Int :=
 if(dS r row).2.2=21 then(⟨0,[],[]⟩,21)
 else if(dS r row).2.2≠0 then(⟨(dS r row).2.2,[(dS r row).2.1],[]⟩,0)
 else if r.table.bZ=1/\1<(dS r row).1.length then(⟨19,(dS r row).1,[]⟩,0)
 else if(kF r row (dS r row).1 []).2.2≠0 then(⟨(kF r row (dS r row).1 []).2.2,[(kF r row (dS r row).1 []).2.1],[]⟩,0)
 else(mM r.table (dS r row).1 (kF r row (dS r row).1 []).1,0)
