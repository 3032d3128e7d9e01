/- Part of a proof: see Root. -/
import Derived.Test.YtmbgnaoilncbnaaGreatDoorZ17
set_option linter.unnecessarySimpa false
set_option linter.unusedSimpArgs false
set_option linter.unusedVariables false
namespace Go.Proofs.YtmbgnaoilncbnaaGreatDoor
open Go.AM
set_option maxRecDepth 4000
theorem Hu{s:aH}{p:UInt8→Bool}{i:Nat}(hi:i<s.length)(hp:p (s.getD i 0)=false): s.all p=false:=by
 rw[List.all_eq_false]
 refine⟨s.getD i 0,?_,ne_true_of_eq_false hp⟩
 rw[List.getD_eq_getElem?_getD,List.getElem?_eq_getElem hi];exact List.getElem_mem hi
theorem UB{s:aH}{p:UInt8→Bool}(h:∀ k,k<s.length→p (s.getD k 0)=true): s.all p=true:=by
 rw[List.all_eq_true]
 intro x hx
 obtain⟨k,hk,rfl⟩:=List.getElem_of_mem hx
 have:=h k hk
 rwa[List.getD_eq_getElem?_getD,List.getElem?_eq_getElem hk]at this
theorem yT(c:UInt8): ig c=true↔32≤c.toNat∧c.toNat≤126:=by simp[ig]
theorem rQ(c:UInt8): ig c=false↔c.toNat<32∨126<c.toNat:=by
 rw[← Bool.not_eq_true,yT];omega
theorem Ty(s:aH): aq Tryz.prog xK [.str s] (.bool (ij s)):=by
 refine aq.of_nil (NL (by simp) ?_) rfl
 unfold Fm aM
 intro Q aC aD aE
 repeat' first|refine aB ?_|refine aA (fun hw=>?_) (fun hw=>?_)<;>try omega|fail
 ·refine aL ?_ rfl
  simp only[ij];rw[decide_eq_false (by omega),Bool.false_and]
 with_reducible refine a_ [2,4,10,11,12,13,14,15,16,17,18] (fun i:Nat=>[]) (fun i=>[.fV s i]) (fun i=>i≤s.length∧ ∀ k,k<i→ig (s.getD k 0)=true) (fun i=>s.length-i) 0 ?_ ?_ ?_ ?_
 ·simp
 ·rfl
 ·exact at_
 rintro i r ⟨h1,h2⟩
 by_cases hi:i<s.length
 ·by_cases ha:(s.getD i 0).toNat<128
  ·repeat' first|refine aB ?_|refine aA (fun hw=>?_) (fun hw=>?_)<;>try omega|fail
   ·refine aL ?_ rfl
    simp only[ij];rw[Hu (p:=ig) hi ((rQ _).2 (.inr (by omega))),Bool.and_false]
   ·refine⟨i+1,?_,?_,by first|rfl|(simp[go_sem];done),bG,at_⟩<;>(try dsimp only)
    ·exact⟨by omega,aW h2 ((yT _).2 ⟨by omega,by omega⟩)⟩
    ·omega
   ·refine aL ?_ rfl
    simp only[ij];rw[Hu (p:=ig) hi ((rQ _).2 (.inl (by omega))),Bool.and_false]
  ·have hw2:=Tk hi (by omega)
   repeat' first|refine aB ?_|refine aA (fun hw=>?_) (fun hw=>?_)<;>try omega|fail
   all_goals refine aL ?_ rfl
   all_goals (simp only[ij];rw[Hu (p:=ig) hi ((rQ _).2 (.inr (by omega))),Bool.and_false])
 ·have:i=s.length:=by omega
  repeat' first|refine aB ?_|refine aA (fun hw=>?_) (fun hw=>?_)<;>try omega|fail
  refine aL ?_ rfl
  simp only[ij];rw[decide_eq_true (by omega),UB (fun k hk=>h2 k (by omega))];rfl
theorem Tz(s:aH)(hs:s.length≤2 ^ 62): aq Tryz.prog xP [.str s] (.bool (ij s)):=by
 refine aq.of_nil (NU (by simp) ?_) rfl
 unfold Fx aM
 intro Q aC aD aE
 repeat' first|refine aB ?_|refine aA (fun hw=>?_) (fun hw=>?_)<;>try omega|fail
 with_reducible refine a_ [2,3,4,5,6,7,8,9,10,11,12,13,14,15,16,17,18,19] (fun i:Nat=>[(3,I i)]) (fun i=>[]) (fun i=>i≤s.length∧ ∀ k,k<i→ig (s.getD k 0)=true) (fun i=>s.length-i) (0) ?_ ?_ ?_ ?_
 ·simp
 ·rfl
 ·exact at_
 rintro i r ⟨h1,h2⟩
 by_cases hi:i<s.length
 ·repeat' first|refine aB ?_|refine aA (fun hw=>?_) (fun hw=>?_)<;>try omega|fail
  ·refine aL ?_ rfl
   simp only[ij];rw[Hu (p:=ig) hi ((rQ _).2 (.inr (by omega))),Bool.and_false]
  ·refine⟨i+1,?_,?_,by first|rfl|(simp[go_sem];done),bG,at_⟩<;>(try dsimp only)
   ·exact⟨by omega,aW h2 ((yT _).2 ⟨by omega,by omega⟩)⟩
   ·omega
  ·refine aL ?_ rfl
   simp only[ij];rw[Hu (p:=ig) hi ((rQ _).2 (.inl (by omega))),Bool.and_false]
 ·repeat' first|refine aB ?_|refine aA (fun hw=>?_) (fun hw=>?_)<;>try omega|fail
  refine aL ?_ rfl
  simp only[ij];rw[UB (fun k hk=>h2 k (by omega)),Bool.and_true]
  refine congrArg AV.bool ?_
  rw[Bool.eq_iff_iff,decide_eq_true_eq,decide_eq_true_eq];omega
theorem Kn(n:Int)(s:aH): bS ⟨0,n,s⟩=(decide (n=0) && decide (s=[])):=rfl
theorem Ko(n:Int)(s:aH): bS ⟨1,n,s⟩=decide (s=[]):=rfl
theorem Kq(n:Int)(s:aH): bS ⟨2,n,s⟩=(decide (n=0) && ij s):=rfl
theorem Kr(n:Int)(s:aH): bS ⟨3,n,s⟩=(decide (s=[]) && (decide (n=0) || decide (n=1))):=rfl
theorem RL(k n:Int)(s:aH)(h0:k≠0)(h1:k≠1)(h2:k≠2)(h3:k≠3): bS ⟨k,n,s⟩=false:=by
 simp[bS,h0,h1,h2,h3]
def kV(b:Bool): Int:=if b then 0 else 2
theorem VM(x:BitVec 64): x &&& ~~~ 1#64=0#64↔x=0#64∨x=1#64:=by
 constructor
 ·intro h
  have hb:∀ i,1≤i→i<64→x.getLsbD i=false:=fun i h1 h2=>by
   have:=congrArg (fun y=>BitVec.getLsbD y i) h
   have h3:(1#64).getLsbD i=false:=by
    rw[BitVec.getLsbD_one];simp;omega
   simp only[BitVec.getLsbD_and,BitVec.getLsbD_not,h3,h2,decide_true,Bool.not_false,Bool.and_true,BitVec.getLsbD_zero]at this
   exact this
  cases h0:x.getLsbD 0 with
  | false =>
    left
    apply BitVec.eq_of_getLsbD_eq
    intro i hi
    by_cases hz:i=0
    ·subst hz;rw[h0];rfl
    ·rw[hb i (by omega) hi];simp
  | true =>
    right
    apply BitVec.eq_of_getLsbD_eq
    intro i hi
    by_cases hz:i=0
    ·subst hz;rw[h0];rfl
    ·rw[hb i (by omega) hi,BitVec.getLsbD_one];simp[hz]
 ·rintro(rfl|rfl)<;>decide
theorem TA(m:Nat)(h:m<18446744073709551616): IntKind.wrap .i64 m=0↔m=0:=by
 simp only[IntKind.wrap,IntKind.bits,IntKind.signed]
 simp
 omega
theorem agf(n:Int)(h : -9223372036854775808≤n)(h':n≤9223372036854775807): nB .andNot .i64 n 1=0↔n=0∨n=1:=by
 rw[jV]
 show IntKind.wrap .i64 ((BitVec.ofInt 64 n &&& ~~~ BitVec.ofInt 64 1).toNat:Int)=0↔_
 rw[TA _ (BitVec.isLt _)]
 have h1:(BitVec.ofInt 64 n &&& ~~~ BitVec.ofInt 64 1).toNat=0↔BitVec.ofInt 64 n &&& ~~~ 1#64=0#64:=by
  rw[← BitVec.toNat_inj];rfl
 rw[h1,VM,← BitVec.toNat_inj,← BitVec.toNat_inj]
 simp only[BitVec.toNat_ofInt,BitVec.toNat_ofNat]
 omega
theorem mA(k n:Int)(s:aH)(h : -9223372036854775808≤n)(h':n≤9223372036854775807): aq Tryz.prog jX [.agg [I k,I n,.str s]] (I (kV (bS ⟨k,n,s⟩))):=by
 refine aq.of_nil (NB (by simp) ?_) rfl
 unfold Fc aM
 intro Q aC aD aE
 repeat' first|refine aB ?_|refine aF (Ty _) ?_|refine aA (fun hw=>?_) (fun hw=>?_)<;>try omega|fail
 all_goals refine aL ?_ rfl
 all_goals (refine congrArg I ?_;unfold kV;try rw[agf n h h']at hw)
 all_goals (try subst k)
 all_goals first
  |(rw[if_neg (by rw[Kn];simp_all)];done)
  |(rw[if_pos (by rw[Kn];simp_all)];done)
  |(rw[if_neg (by rw[Ko];simp_all)];done)
  |(rw[if_pos (by rw[Ko];simp_all)];done)
  |(rw[if_neg (by rw[Kq];simp_all)];done)
  |(rw[if_pos (by rw[Kq];simp_all)];done)
  |(rw[if_neg (by rw[Kr];simp_all)];done)
  |(rw[if_pos (by rw[Kr];simp_all)];done)
  |(rw[if_neg (by rw[RL _ _ _ (by assumption) (by assumption) (by assumption) (by assumption)];simp)])
theorem rR(k n:Int)(s:aH)(hs:s.length≤2 ^ 62): aq Tryz.prog nU [.agg [I k,I n,.str s]] (.bool (bS ⟨k,n,s⟩)):=by
 refine aq.of_nil (NI (by simp) ?_) rfl
 unfold Fk aM
 intro Q aC aD aE
 repeat' first|refine aB ?_|refine aF (Tz _ hs) ?_|refine aA (fun hw=>?_) (fun hw=>?_)<;>try omega|fail
 all_goals refine aL ?_ rfl
 all_goals (refine congrArg AV.bool ?_;try subst k)
 all_goals first
  |(rw[Kn];rw[Bool.eq_iff_iff];simp_all;done)
  |(rw[Ko];rw[Bool.eq_iff_iff];simp_all;done)
  |(rw[Kq];rw[Bool.eq_iff_iff];simp_all;done)
  |(rw[Kr];rw[Bool.eq_iff_iff];simp_all;done)
  |(rw[RL _ _ _ (by assumption) (by assumption) (by assumption) (by assumption)])
structure yu where
 op:Int
 sign:aH
 level:Int
deriving Inhabited,DecidableEq
def RM(b:yu): AV:= .agg [I b.op,.str b.sign,I b.level]
attribute [go_sem] RM
def dL: List yu:=[⟨4,[43],4⟩,⟨5,[45],4⟩,⟨6,[42],5⟩,⟨7,[47],5⟩,⟨8,[61],3⟩,⟨9,[33,61],3⟩,⟨10,[60],3⟩,⟨11,[60,61],3⟩,⟨12,[62],3⟩,⟨13,[62,61],3⟩,⟨14,[97,110,100],2⟩,⟨15,[111,114],1⟩]
def bt(op:Int): yu:=(dL.find? fun b=>b.op==op).getD ⟨0,[],0⟩
def gP(op:Int): Int:=if op=1∨op=2 then 0 else if op=3 then 1 else if op=16 then 3 else if 0<(bt op).level then 2 else -1
def bR(op:Int): Int:=if op=16 then 0 else if op=3 then 6 else if op=1∨op=2 then 7 else(bt op).level
theorem yU(op:Int)(h:op<4∨15<op): bt op=⟨0,[],0⟩:=by
 have:dL.find? (fun b=>b.op==op)=none:=by
  rw[List.find?_eq_none]
  intro b hb
  simp only[dL,List.mem_cons,List.not_mem_nil,or_false]at hb
  rcases hb with rfl|rfl|rfl|rfl|rfl|rfl|rfl|rfl|rfl|rfl|rfl|rfl<;>(simp only[beq_iff_eq];omega)
 simp[bt,this]
theorem L7(op:Int)(h1:4≤op)(h2:op≤15): (bt op).sign≠[]∧0<(bt op).level:=by
 have:op=4∨op=5∨op=6∨op=7∨op=8∨op=9∨op=10∨op=11∨op=12∨op=13∨op=14∨op=15:=by omega
 rcases this with rfl|rfl|rfl|rfl|rfl|rfl|rfl|rfl|rfl|rfl|rfl|rfl<;>decide
theorem VN(op:Int): (bt op).sign=[]↔¬ 0<(bt op).level:=by
 by_cases h:4≤op∧op≤15
 ·have:=L7 op h.1 h.2
  simp[this.1];omega
 ·rw[yU op (by omega)];simp
theorem Bw: aq Tryz.prog mG [] (.aG false ⟨true,3⟩ (dL.map RM)):=by
 refine aq.of_nil (G0 (by simp) ?_) rfl
 unfold yn aM
 intro Q aC aD aE
 repeat' first|refine aB ?_|refine aA (fun hw=>?_) (fun hw=>?_)<;>try omega|fail
 all_goals exact Lv (View.weak _ _ _ (by simp))
theorem Cc(op:Int): aq Tryz.prog nT [I op] (RM (bt op)):=by
 refine aq.of_nil (NH (by simp) ?_) rfl
 unfold Fj aM
 intro Q aC aD aE
 have hl:dL.length=12:=rfl
 repeat' first|refine aB ?_|refine aF Bw ?_|refine aA (fun hw=>?_) (fun hw=>?_)<;>try omega|fail
 with_reducible refine a_ [4,7,8,9,10,11,12,13,14,15,16] (fun p:Nat × List aR=>[(7,I p.1)]) (fun p=> .cells [I 0,.str [],I 0]::p.2) (fun p=>p.1≤12∧ ∀ k,k<p.1→((dL.getD k default).op==op)=false) (fun p=>12-p.1) (0,[]) ?_ ?_ ?_ ?_
 ·simp
 ·rfl
 ·exact at_
 rintro⟨i,τ⟩ r ⟨h1,h2⟩
 dsimp only at h1 h2
 by_cases hi:i<12
 ·repeat' first|refine aB ?_|refine aA (fun hw=>?_) (fun hw=>?_)<;>try omega|fail
  ·refine aL ?_ rfl
   have:bt op=dL.getD i default:=by
    unfold bt;rw[vY (p:=fun b:yu=>b.op==op) hi h2 (by simpa using hw)];rfl
   rw[this];try rfl
  ·refine⟨(i+1,τ++[.cells [I (dL.getD i default).op,.str (dL.getD i default).sign,I (dL.getD i default).level]]),?_,?_,by first|rfl|(simp[go_sem];done),bG,at_⟩<;>(try dsimp only)
   ·exact⟨by omega,aW h2 (by simpa using hw)⟩
   ·omega
 ·repeat' first|refine aB ?_|refine aA (fun hw=>?_) (fun hw=>?_)<;>try omega|fail
  refine aL ?_ rfl
  have:bt op=⟨0,[],0⟩:=by
   unfold bt;rw[sL (p:=fun b:yu=>b.op==op) (fun k hk=>h2 k (by omega))];rfl
  rw[this];try rfl
theorem Eb(op:Int): aq Tryz.prog pI [I op] (.str (bt op).sign):=by
 refine aq.of_nil (Qf (by simp) ?_) rfl
 unfold GZ aM
 intro Q aC aD aE
 repeat' first|refine aB ?_|refine aA (fun hw=>?_) (fun hw=>?_)<;>try omega|fail
 all_goals refine aL ?_ rfl
 all_goals (try subst op)
 all_goals first|rfl|(rw[yU op (by omega)])
theorem Ju(op:Int): aq Tryz.prog sn [I op] (I (bR op)):=by
 refine aq.of_nil (NN (by simp) ?_) rfl
 unfold Fq aM
 intro Q aC aD aE
 repeat' first|refine aB ?_|refine aA (fun hw=>?_) (fun hw=>?_)<;>try omega|fail
 all_goals refine aL ?_ rfl
 all_goals (try subst op)
 all_goals (refine congrArg I ?_)
 all_goals first|rfl|decide|skip
 by_cases Xy:op=16
 ·subst Xy;rfl
 ·unfold bR;rw[if_neg Xy,if_neg (by assumption),if_neg (by omega),yU op (by omega)]
theorem RN(op:Int): aq Tryz.prog vH [I op] (I (gP op)):=by
 refine aq.of_nil (LI (by simp) ?_) rfl
 unfold CZ aM
 intro Q aC aD aE
 repeat' first|refine aB ?_|refine aF (Cc _) ?_|refine aA (fun hw=>?_) (fun hw=>?_)<;>try omega|fail
 all_goals refine aL ?_ rfl
 all_goals (refine congrArg I ?_;unfold gP)
 all_goals first|(simp_all;done)
theorem TC(op:Int): aq Tryz.prog xO [I op] (I (gP op)):=by
 refine aq.of_nil (NM (by simp) ?_) rfl
 unfold Fp aM
 intro Q aC aD aE
 repeat' first|refine aB ?_|refine aF (Eb _) ?_|refine aA (fun hw=>?_) (fun hw=>?_)<;>try omega|fail
 all_goals refine aL ?_ rfl
 all_goals (refine congrArg I ?_;unfold gP)
 all_goals (try rw[VN]at hw)
 all_goals first|(simp_all;done)|(rw[if_neg (by omega),if_neg (by omega),if_neg (by omega),if_pos (by omega)])|(rw[if_neg (by omega),if_neg (by omega),if_neg (by omega),if_neg (by omega)])
mutual
def fK: Expr→Nat
 | .mk _ _ _ l=>iI l+1
def iI: List Expr→Nat
 | []=>0
 | x::r=>Nat.max (fK x) (iI r)
end
mutual
def da: Expr→Nat
 | .mk _ _ _ l=>kW l+1
def kW: List Expr→Nat
 | []=>0
 | x::r=>da x+kW r
end
theorem v7(l:List Expr): l.length≤kW l:=by
 induction l with
 | nil=>simp[kW]
 | cons x r ih=>cases x;simp only[kW,da,List.length_cons];omega
theorem tg{l:List Expr}{x:Expr}(h:x ∈ l): da x≤kW l:=by
 induction l with
 | nil=>cases h
 | cons y r ih =>
   simp only[kW]
   rcases List.mem_cons.1 h with rfl|h
   ·omega
   ·have:=ih h;omega
theorem aaP: ∀ x,fK x≤da x:=by
 intro x
 induction x using Expr.ind with
 | h op v s l ih =>
   simp only[fK,da]
   have:iI l≤kW l:=by
    clear op v s
    induction l with
    | nil=>simp[iI]
    | cons y r ih2 =>
      simp only[iI,kW]
      have h1:=ih y (by simp)
      have h2:=ih2 (fun z hz=>ih z (List.mem_cons_of_mem _ hz))
      exact Nat.max_le.2 ⟨by omega,by omega⟩
   omega
theorem VO(l:List Expr)(x:Expr): iI (l++[x])=Nat.max (iI l) (fK x):=by
 induction l with
 | nil=>simp only[List.nil_append,iI];exact Nat.max_comm _ _
 | cons y r ih=>simp only[List.cons_append,iI,ih];exact(Nat.max_assoc _ _ _).symm
theorem take_succ{α : Type}[Inhabited α]{l:List α}{k:Nat}(h:k<l.length): l.take (k+1)=l.take k++[l.getD k default]:=by
 rw[List.take_succ_eq_append_getElem h,List.getD_eq_getElem?_getD,List.getElem?_eq_getElem h];rfl
theorem Ec{l:List Expr}{k:Nat}(h:k<l.length): iI (l.take (k+1))=Nat.max (iI (l.take k)) (fK (l.getD k default)):=by
 rw[take_succ h,VO]
theorem Ed(l:List Expr)(k:Nat): iI (l.take k)≤kW l:=by
 have:∀ l:List Expr,iI l≤kW l:=fun l=>by
  have:=aaP (.mk 0 default [] l)
  simp only[fK,da]at this;omega
 refine Nat.le_trans (this _) ?_
 induction l generalizing k with
 | nil=>simp[kW]
 | cons x r ih => cases k with
   | zero=>simp[kW]
   | succ k=>simp only[List.take_succ_cons,kW];have:=ih k;omega
theorem Cd(x:Expr)(hx:da x≤2 ^ 60): aq Tryz.prog jW [aJ x] (I (fK x)):=by
 induction x using Expr.ind with
 | h op v s l ih =>
   simp only[da]at hx
   have hlen:=v7 l
   have hih:∀ k,k<l.length→aq Tryz.prog jW [aJ (l.getD k default)] (I (fK (l.getD k default))):=fun k hk =>
    ih _ (aY hk) (by have:=tg (aY hk);omega)
   refine aq.of_nil (NA (by simp) ?_) (by simp)
   unfold Fb aM
   intro Q aC aD aE
   repeat' first|refine aB ?_|refine aA (fun hw=>?_) (fun hw=>?_)<;>try omega|fail
   with_reducible refine a_ [3,5,9,10,11,12,13,14,15,16,17] (fun p:Nat × List aR=>[(9,I p.1),(3,I (iI (l.take p.1)))]) (fun p=> .cells [I op,I v.kind,I v.n,.str v.s,.str s,.aG false EX (l.map aJ)]::p.2) (fun p=>p.1≤l.length) (fun p=>l.length-p.1) (0,[]) ?_ ?_ ?_ ?_
   ·simp
   ·rfl
   ·exact at_
   rintro⟨i,τ⟩ r h1
   dsimp only at h1
   by_cases hi:i<l.length
   ·have hy:=hih i hi
    have agh:(if((iI (l.take i):Nat):Int)<((fK (l.getD i default):Nat):Int)then ((fK (l.getD i default):Nat):Int)else ((iI (l.take i):Nat):Int))=((iI (l.take (i+1)):Nat):Int):=by
     rw[Ec hi]
     show _=((max (iI (l.take i)) (fK (l.getD i default)):Nat):Int)
     by_cases hm:iI (l.take i)≤fK (l.getD i default)
     ·rw[Nat.max_eq_right hm];split<;>omega
     ·rw[Nat.max_eq_left (by omega)];split<;>omega
    rw[aN]at hy
    repeat' first|simp (disch:=omega) only[go_sem,aC,aD,aE,aj,au,ak,Nat.reduceAdd,Nat.reduceBEq,↓reduceIte,agh]|refine aB ?_|refine aF hy ?_|refine aA (fun hw=>?_) (fun hw=>?_)<;>try omega|fail
    refine⟨(i+1,τ++[.cells [I (l.getD i default).op,I (l.getD i default).v.kind,I (l.getD i default).v.n,.str (l.getD i default).v.s,.str (l.getD i default).s,.aG false EX ((l.getD i default).l.map aJ)]]),?_,?_,by first|rfl|(simp[go_sem];done),bG,at_⟩<;>(try dsimp only)
    ·omega
    ·omega
   ·have h3:=Ed l l.length
    rw[List.take_length]at h3
    have h2:l.take i=l:=List.take_of_length_le (by omega)
    have h4:=Ed l i
    rw[h2]at h4
    repeat' first|simp (disch:=omega) only[go_sem,aC,aD,aE,aj,au,ak,Nat.reduceAdd,Nat.reduceBEq,↓reduceIte,h2]|refine aB ?_|refine aA (fun hw=>?_) (fun hw=>?_)<;>try omega|fail
    refine aL ?_ rfl
    refine congrArg I ?_
    simp only[fK];omega
theorem Ee(x:Expr)(hx:da x≤2 ^ 60): aq Tryz.prog kS [aJ x] (I (fK x)):=by
 induction x using Expr.ind with
 | h op v s l ih =>
   simp only[da]at hx
   have hlen:=v7 l
   have hih:∀ k,k<l.length→aq Tryz.prog kS [aJ (l.getD k default)] (I (fK (l.getD k default))):=fun k hk =>
    ih _ (aY hk) (by have:=tg (aY hk);omega)
   refine aq.of_nil (P5 (by simp) ?_) (by simp)
   unfold GN aM
   intro Q aC aD aE
   repeat' first|refine aB ?_|refine aA (fun hw=>?_) (fun hw=>?_)<;>try omega|fail
   with_reducible refine a_ [3,4,5,6,7,8,9,10,11,12,13,14,15,16,17,18,19,20,21,22] (fun p:Nat × List aR=>[(4,I p.1),(3,I (iI (l.take p.1)))]) (fun p=> .cells [I op,I v.kind,I v.n,.str v.s,.str s,.aG false EX (l.map aJ)]::p.2) (fun p=>p.1≤l.length) (fun p=>l.length-p.1) (0,[]) ?_ ?_ ?_ ?_
   ·simp
   ·rfl
   ·exact at_
   rintro⟨i,τ⟩ r h1
   dsimp only at h1
   have h4:=Ed l i
   by_cases hi:i<l.length
   ·have hy:=hih i hi
    rw[aN]at hy
    repeat' first|refine aB ?_|refine aF hy ?_|refine aA (fun hw=>?_) (fun hw=>?_)<;>try omega|fail
    ·have e:iI (l.take (i+1))=fK (l.getD i default):=by rw[Ec hi];exact Nat.max_eq_right (by omega)
     refine⟨(i+1,τ),?_,?_,by first|rfl|(simp[go_sem];done),bG,at_⟩<;>(try dsimp only)
     ·omega
     ·omega
    ·have e:iI (l.take (i+1))=iI (l.take i):=by rw[Ec hi];exact Nat.max_eq_left (by omega)
     refine⟨(i+1,τ),?_,?_,by first|rfl|(simp[go_sem];done),bG,at_⟩<;>(try dsimp only)
     ·omega
     ·omega
   ·have h3:=Ed l l.length
    rw[List.take_length]at h3
    have h2:l.take i=l:=List.take_of_length_le (by omega)
    rw[h2]at h4
    repeat' first|simp (disch:=omega) only[go_sem,aC,aD,aE,aj,au,ak,Nat.reduceAdd,Nat.reduceBEq,↓reduceIte,h2]|refine aB ?_|refine aA (fun hw=>?_) (fun hw=>?_)<;>try omega|fail
    refine aL ?_ rfl
    refine congrArg I ?_
    simp only[fK];omega
def fh{α β : Type}(p : α→ β→Bool): List α→List β→Bool
 | [],[]=>true
 | x::r,y::t=>p x y && fh p r t
 | _,_=>false
theorem mT{α β : Type}{p : α→ β→Bool}: ∀ {l:List α} {m:List β},l.length≠m.length→fh p l m=false
 | [],[],h=>absurd rfl h
 | [],_::_,_=>rfl
 | _::_,[],_=>rfl
 | x::r,y::t,h=>by simp only[fh];rw[mT (by simpa using h),Bool.and_false]
theorem pV{α β : Type}[Inhabited α][Inhabited β]{p : α→ β→Bool}: ∀ {l:List α} {m:List β} {i:Nat},i<l.length→p (l.getD i default) (m.getD i default)=false→i<m.length→fh p l m=false
 | x::r,y::t,0,_,h,_=>by simp only[List.getD_cons_zero]at h;simp only[fh,h,Bool.false_and]
 | x :: r, y :: t, i + 1, h1, h, h2 => by
   simp only[List.getD_cons_succ]at h
   simp only[fh];rw[pV (i:=i) (by simpa using h1) h (by simpa using h2),Bool.and_false]
theorem mU{α β : Type}[Inhabited α][Inhabited β]{p : α→ β→Bool}: ∀ {l:List α} {m:List β},l.length=m.length→(∀ k,k<l.length→p (l.getD k default) (m.getD k default)=true)→fh p l m=true
 | [],[],_,_=>rfl
 | x :: r, y :: t, h, hp => by
   have h0:=hp 0 (by simp)
   simp only[List.getD_cons_zero]at h0
   simp only[fh,h0,Bool.true_and]
   exact mU (by simpa using h) (fun k hk=>by have:=hp (k+1) (by simpa using hk);simpa only[List.getD_cons_succ]using this)
@[go_sem] theorem ahC {α : Type} (τ : List α) (c d : α):(τ++[c]++[d])[τ.length+1]? = some d:=by simp
@[go_sem] theorem ahD {α : Type} (τ : List α) (c d : α):(τ++[c]++[d])[τ.length]? = some c:=by simp
@[go_sem] theorem ahF {α : Type} (τ : List α) (c d e : α):(τ++[c]++[d]).set (τ.length+1) e = τ++[c]++[e]:=by simp
theorem Da(fn:FuncId)(cap:List AV)(hcap:AV.bW cap=true)(p:Expr→Expr→Bool)(l m:List Expr)
 (h:∀ k,k<l.length→k<m.length→aq Tryz.prog fn (aJ (l.getD k default)::aJ (m.getD k default)::cap) (.bool (p (l.getD k default) (m.getD k default)))) (hl:l.length≤2 ^ 62) (hm:m.length≤2 ^ 62) :
 aq Tryz.prog lF [bP l,bP m,.fn (.func fn) [] cap] (.bool (fh p l m)):=by
 refine aq.of_nil (Aq (by simp) ?_) (by simp[AV.cF,AV.bW,hcap,qK])
 unfold q8 aM
 intro Q aC aD aE
 repeat' first|refine aB ?_|refine aA (fun hw=>?_) (fun hw=>?_)<;>try omega|fail
 ·refine aL ?_ rfl
  rw[mT (by omega)]
 have hlm:l.length=m.length:=by omega
 with_reducible refine a_ [6,7,8,9,17,18,19,20,21,22,23,24,25,26,27,28,29,30,31] (fun p:Nat × List aR=>[(17,I p.1)]) (fun p=>p.2) (fun q=>q.1≤l.length∧ ∀ k,k<q.1→p (l.getD k default) (m.getD k default)=true) (fun p=>l.length-p.1) (0,[]) ?_ ?_ ?_ ?_
 ·simp
 ·rfl
 ·exact at_
 rintro⟨i,τ⟩ r ⟨h1,h2⟩
 dsimp only at h1 h2
 by_cases hi:i<l.length
 ·have hy:=h i hi (by omega)
  rw[aN,aN]at hy
  repeat' first|refine aB ?_|refine aF hy ?_|refine aA (fun hw=>?_) (fun hw=>?_)<;>try omega|fail
  ·refine aL ?_ rfl
   rw[pV hi hw (by omega)]
  ·refine⟨(i+1,τ++[.cells [I (l.getD i default).op,I (l.getD i default).v.kind,I (l.getD i default).v.n,.str (l.getD i default).v.s,.str (l.getD i default).s,.aG false EX ((l.getD i default).l.map aJ)]]++[.cells [I (m.getD i default).op,I (m.getD i default).v.kind,I (m.getD i default).v.n,.str (m.getD i default).v.s,.str (m.getD i default).s,.aG false EX ((m.getD i default).l.map aJ)]]),?_,?_,by first|rfl|(simp[go_sem];done),bG,at_⟩<;>(try dsimp only)
   ·exact⟨by omega,aW h2 hw⟩
   ·omega
 ·repeat' first|refine aB ?_|refine aA (fun hw=>?_) (fun hw=>?_)<;>try omega|fail
  refine aL ?_ rfl
  rw[mU hlm (fun k hk=>h2 k (by omega))]
mutual
def mI: Expr→Expr→Bool
 | .mk o v s l,y=>decide (o=y.op) && decide (v=y.v) && decide (s=y.s) && Ef l y.l
def Ef: List Expr→List Expr→Bool
 | [],[]=>true
 | x::r,y::t=>mI x y && Ef r t
 | _,_=>false
end
theorem Ks: ∀(l m:List Expr),Ef l m=fh mI l m
 | [],[]=>rfl
 | [],_::_=>rfl
 | _::_,[]=>rfl
 | x::r,y::t=>by simp only[Ef,fh,Ks r t]
mutual
def Jv: Expr→Prop
 | .mk _ _ _ l=>l.length≤2 ^ 60∧Xz l
def Xz: List Expr→Prop
 | []=>True
 | x::r=>Jv x∧Xz r
end
theorem Iz{l:List Expr}{x:Expr}(h:Xz l)(hx:x ∈ l): Jv x:=by
 induction l with
 | nil=>cases hx
 | cons y r ih =>
   simp only[Xz]at h
   rcases List.mem_cons.1 hx with rfl|hx
   ·exact h.1
   ·exact ih h.2 hx
theorem acp{l:List Expr}(h:∀ x ∈ l,Jv x): Xz l:=by
 induction l with
 | nil=>trivial
 | cons y r ih=>exact⟨h y (by simp),ih (fun x hx=>h x (List.mem_cons_of_mem _ hx))⟩
theorem L8(x:Expr): da x≤2 ^ 60→Jv x:=by
 induction x using Expr.ind with
 | h op v s l ih =>
   intro h
   simp only[da]at h
   have hl:=v7 l
   exact⟨by omega,acp (fun y hy=>ih y hy (by have:=tg hy;omega))⟩
theorem TD(x:Expr): ∀ y:Expr,Jv x→Jv y→aq Tryz.prog nW [aJ x,aJ y] (.bool (mI x y)):=by
 induction x using Expr.ind with
 | h op v s l ih =>
   rintro⟨op',v',s',m⟩ hx hy
   simp only[Jv]at hx hy
   obtain⟨hl,xg⟩:=hx
   obtain⟨hm,W3⟩:=hy
   have hc:=Da nW [] rfl mI l m (fun k h1 h2=>ih _ (aY h1) _ (Iz xg (aY h1)) (Iz W3 (aY h2))) (by omega) (by omega)
   rw[← Ks]at hc
   simp only[bP]at hc
   obtain⟨vk,vn,vs⟩:=v
   obtain⟨XA,XB,vs'⟩:=v'
   refine aq.of_nil (NQ (by simp) ?_) (by simp)
   unfold Fu aM
   intro Q aC aD aE
   repeat' first|refine aB ?_|refine aF hc ?_|refine aA (fun hw=>?_) (fun hw=>?_)<;>try omega|fail
   all_goals refine aL ?_ rfl
   all_goals (refine congrArg AV.bool ?_;simp only[mI,Expr.op,Expr.v,Expr.s,Expr.l])
   all_goals (rw[Bool.eq_iff_iff];simp_all)
theorem VP(x:Expr): ∀ y:Expr,Jv x→Jv y→aq Tryz.prog ue [aJ x,aJ y] (.bool (mI x y)):=by
 induction x using Expr.ind with
 | h op v s l ih =>
   rintro⟨op',v',s',m⟩ hx hy
   simp only[Jv]at hx hy
   obtain⟨hl,xg⟩:=hx
   obtain⟨hm,W3⟩:=hy
   have hc:∀ k,k<l.length→k<m.length→_:=fun k h1 h2=>ih _ (aY h1) (m.getD k default) (Iz xg (aY h1)) (Iz W3 (aY h2))
   obtain⟨vk,vn,vs⟩:=v
   obtain⟨XA,XB,vs'⟩:=v'
   have hs:mI (.mk op ⟨vk,vn,vs⟩ s l) (.mk op' ⟨XA,XB,vs'⟩ s' m)=(decide (op=op') && decide ((⟨vk,vn,vs⟩:dy)=⟨XA,XB,vs'⟩) && decide (s=s') && fh mI l m):=by
    rw[← Ks];rfl
   rw[hs]
   refine aq.of_nil (Qi (by simp) ?_) (by simp)
   unfold G5 aM
   intro Q aC aD aE
   repeat' first|refine aB ?_|refine aA (fun hw=>?_) (fun hw=>?_)<;>try omega|fail
   ·refine aL ?_ rfl
    rw[mT (by omega),Bool.and_false]
   ·have hlm:l.length=m.length:=by omega
    with_reducible refine a_ [4,5,34,35,36,37,38,39,40,41,42,43,44,45,46,47,48,49,50,51,52] (fun i:Nat=>[(5,I i)]) (fun _=>[.cells [I op,I vk,I vn,.str vs,.str s,.aG false EX (l.map aJ)],.cells [I op',I XA,I XB,.str vs',.str s',.aG false EX (m.map aJ)]]) (fun i=>i≤l.length∧ ∀ k,k<i→mI (l.getD k default) (m.getD k default)=true) (fun i=>l.length-i) 0 ?_ ?_ ?_ ?_
    ·simp
    ·rfl
    ·exact at_
    rintro i r ⟨h1,h2⟩
    by_cases hi:i<l.length
    ·have hy:=hc i hi (by omega)
     rw[aN,aN]at hy
     repeat' first|refine aB ?_|refine aF hy ?_|refine aA (fun hw=>?_) (fun hw=>?_)<;>try omega|fail
     ·refine aL ?_ rfl
      rw[pV hi hw (by omega),Bool.and_false]
     ·refine⟨i+1,?_,?_,by first|rfl|(simp[go_sem];done),bG,at_⟩<;>(try dsimp only)
      ·exact⟨by omega,aW h2 hw⟩
      ·omega
    ·repeat' first|refine aB ?_|refine aA (fun hw=>?_) (fun hw=>?_)<;>try omega|fail
     refine aL ?_ rfl
     rw[mU hlm (fun k hk=>h2 k (by omega))]
     simp_all
   ·refine aL ?_ rfl
    rw[decide_eq_false (by assumption:¬ s=s'),Bool.and_false,Bool.false_and]
   ·refine aL ?_ rfl
    refine congrArg AV.bool ?_
    have:decide ((⟨vk,vn,vs⟩:dy)=⟨XA,XB,vs'⟩)=false:=by simp_all
    rw[this,Bool.and_false,Bool.false_and,Bool.false_and]
   ·refine aL ?_ rfl
    rw[decide_eq_false (by assumption:¬ op=op'),Bool.false_and,Bool.false_and,Bool.false_and]
theorem Db(fn:FuncId)(cap:List AV)(hcap:AV.bW cap=true)(p:Expr→Bool)(l:List Expr)(h:∀ k,k<l.length→aq Tryz.prog fn (aJ (l.getD k default)::cap) (.bool (p (l.getD k default))))(hl:l.length≤2 ^ 62):
 aq Tryz.prog lE [bP l,.fn (.func fn) [] cap] (I (gZ p l)):=by
 refine aq.of_nil (Am (by simp) ?_) (by simp[AV.cF,AV.bW,hcap,qK])
 unfold qZ aM
 intro Q aC aD aE
 repeat' first|refine aB ?_|refine aA (fun hw=>?_) (fun hw=>?_)<;>try omega|fail
 with_reducible refine a_ [4,5,8,9,10,11,12,13,14,15,16,17,18] (fun i:Nat=>[(8,I i)]) (fun _=>[]) (fun i=>i≤l.length∧ ∀ k,k<i→p (l.getD k default)=false) (fun i=>l.length-i) (0) ?_ ?_ ?_ ?_
 ·simp
 ·rfl
 ·exact at_
 ·rintro i r ⟨hi,hp⟩
  by_cases hin:i<l.length
  ·have hx:=h i hin
   rw[aN]at hx
   repeat' first|refine aB ?_|refine aF hx ?_|refine aA (fun hw=>?_) (fun hw=>?_)<;>try omega|fail
   ·refine aL ?_ rfl
    refine congrArg I ?_
    exact(oz hin hp hw).symm
   ·refine⟨i+1,?_,?_,by first|rfl|(simp[go_sem];done),bG,at_⟩<;>(try dsimp only)
    ·exact⟨by omega,aW hp hw⟩
    ·omega
  ·repeat' first|refine aB ?_|refine aA (fun hw=>?_) (fun hw=>?_)<;>try omega|fail
   refine aL ?_ rfl
   refine congrArg I ?_
   exact(nr fun k hk=>hp k (by omega)).symm
theorem Kt{α : Type}[Inhabited α](p : α→Bool)(l:List α): decide (0≤gZ p l)=l.any p:=by
 rcases sK p l with⟨h1,h2⟩|⟨i,h1,h2,h3⟩
 ·rw[h1,show decide ((0:Int)≤ -1)=false from(by decide)];symm
  rw[List.any_eq_false];exact List.find?_eq_none.1 h2
 ·rw[h2,decide_eq_true (by omega)];symm
  rw[List.any_eq_true];exact⟨_,aY h1,List.find?_some h3⟩
theorem Ay(fn:FuncId)(cap:List AV)(hcap:AV.bW cap=true)(p:Expr→Bool)(l:List Expr)(h:∀ k,k<l.length→aq Tryz.prog fn (aJ (l.getD k default)::cap) (.bool (p (l.getD k default))))(hl:l.length≤2 ^ 62):
 aq Tryz.prog jZ [bP l,.fn (.func fn) [] cap] (.bool (l.any p)):=by
 refine aq.of_nil (wZ (by simp) ?_) (by simp[AV.cF,AV.bW,hcap,qK])
 unfold n6 aM
 intro Q aC aD aE
 have hc:=Db fn cap hcap p l h hl
 simp only[bP]at hc
 repeat' first|refine aB ?_|refine aF hc ?_|refine aA (fun hw=>?_) (fun hw=>?_)<;>try omega|fail
 all_goals refine aL ?_ rfl
 all_goals rw[← Kt]
def v0: dy:=⟨0,0,[]⟩
mutual
def bC: Expr→Bool
 | .mk op v s l => decide ((l.length : Int) = gP op) &&
    (if op=1 then decide (s=[]) && bS v && (decide (v.kind≠1) || decide (0≤v.n))
     else if op=2 then decide (v=v0) && eK s
     else decide (v=v0) && decide (s=[]) && pW l)
def pW: List Expr→Bool
 | []=>true
 | x::r=>bC x && pW r
end
theorem uE(l:List Expr): pW l = !(l.any fun x=> !(bC x)):=by
 induction l with
 | nil=>rfl
 | cons x r ih=>simp[pW,ih]
mutual
def eH: Expr→Prop
 | .mk _ v s l=>s.length≤2 ^ 62∧v.s.length≤2 ^ 62∧ -9223372036854775808≤v.n∧v.n≤9223372036854775807∧Jw l
def Jw: List Expr→Prop
 | []=>True
 | x::r=>eH x∧Jw r
end
theorem v8{l:List Expr}{x:Expr}(h:Jw l)(hx:x ∈ l): eH x:=by
 induction l with
 | nil=>cases hx
 | cons y r ih =>
   simp only[Jw]at h
   rcases List.mem_cons.1 hx with rfl|hx
   ·exact h.1
   ·exact ih h.2 hx
theorem N0(x:Expr)(h:aq Tryz.prog kJ [aJ x] (.bool (bC x))): aq Tryz.prog nI [aJ x] (.bool (!(bC x))):=by
 refine aq.of_nil (I2 (by simp) ?_) (by simp)
 unfold Ag aM
 intro Q aC aD aE
 rw[aN]at h ⊢
 repeat' first|refine aB ?_|refine aF h ?_|refine aA (fun hw=>?_) (fun hw=>?_)<;>try omega|fail
 all_goals refine aL ?_ rfl
 all_goals simp_all
theorem Hv(x:Expr): eH x→da x≤2 ^ 60→aq Tryz.prog kJ [aJ x] (.bool (bC x)):=by
 induction x using Expr.ind with
 | h op v s l ih =>
   intro hx hz
   simp only[da]at hz
   simp only[eH]at hx
   obtain⟨o1,o2,o3,o4,o5⟩:=hx
   have hl:=v7 l
   have hc:=Ay nI [] rfl (fun x=> !(bC x)) l (fun k h1=>N0 _ (ih _ (aY h1) (v8 o5 (aY h1)) (by have:=tg (aY h1);omega))) (by omega)
   simp only[bP]at hc
   obtain⟨vk,vn,vs⟩:=v
   refine aq.of_nil (LA (by simp) ?_) (by simp)
   unfold CQ aM
   intro Q aC aD aE
   repeat' first|refine aB ?_|refine aF (RN _) ?_|refine aF (mA _ _ _ o3 o4) ?_|refine aF (Ea _ o1) ?_|refine aF hc ?_|refine aA (fun hw=>?_) (fun hw=>?_)<;>try omega|fail
   all_goals refine aL ?_ rfl
   all_goals (refine congrArg AV.bool ?_;simp only[bC,uE])
   all_goals (rw[Bool.eq_iff_iff];simp_all[v0,kV])
theorem Hw(x:Expr)(hx:eH x)(hz:da x≤2 ^ 60): aq Tryz.prog qF [aJ x] (I (kV (bC x))):=by
 refine aq.of_nil (LN (by simp) ?_) (by simp)
 unfold C7 aM
 intro Q aC aD aE
 have h:=Hv x hx hz
 rw[aN]at h ⊢
 repeat' first|refine aB ?_|refine aF h ?_|refine aA (fun hw=>?_) (fun hw=>?_)<;>try omega|fail
 all_goals refine aL ?_ rfl
 all_goals simp_all[kV]
theorem XC{l:List Expr}{i:Nat}(hi:i<l.length)(h:bC (l.getD i default)=false): pW l=false:=by
 rw[uE,Ax hi (by rw[h];rfl)];rfl
theorem VQ{l:List Expr}(h:∀ k,k<l.length→bC (l.getD k default)=true): pW l=true:=by
 rw[uE,vZ (fun k hk=>by rw[h k hk];rfl)];rfl
theorem Ce(x:Expr): eH x→da x≤2 ^ 60→aq Tryz.prog lQ [aJ x] (.bool (bC x)):=by
 induction x using Expr.ind with
 | h op v s l ih =>
   intro hx hz
   simp only[da]at hz
   simp only[eH]at hx
   obtain⟨o1,o2,o3,o4,o5⟩:=hx
   have hl:=v7 l
   have hc:∀ k,k<l.length→_:=fun k h1=>ih _ (aY h1) (v8 o5 (aY h1)) (by have:=tg (aY h1);omega)
   obtain⟨vk,vn,vs⟩:=v
   refine aq.of_nil (ND (by simp) ?_) (by simp)
   unfold Fg aM
   intro Q aC aD aE
   repeat' first|refine aB ?_|refine aF (TC _) ?_|refine aF (rR _ _ _ o2) ?_|refine aF (yS _ o1) ?_|refine aA (fun hw=>?_) (fun hw=>?_)<;>try omega|fail
   all_goals try (refine aL ?_ rfl;refine congrArg AV.bool ?_;simp only[bC];rw[Bool.eq_iff_iff];simp_all[v0];done)
   with_reducible refine a_ [2,3,46,47,48,49,50,51,52,53,54,55,56,57,58,59] (fun i:Nat=>[(3,I i)]) (fun _=>[.cells [I op,I vk,I vn,.str vs,.str s,.aG false EX (l.map aJ)]]) (fun i=>i≤l.length∧ ∀ k,k<i→bC (l.getD k default)=true) (fun i=>l.length-i) 0 ?_ ?_ ?_ ?_
   ·simp
   ·rfl
   ·exact at_
   ·rintro i r ⟨h1,h2⟩
    by_cases hi:i<l.length
    ·have hy:=hc i hi
     rw[aN]at hy
     repeat' first|refine aB ?_|refine aF hy ?_|refine aA (fun hw=>?_) (fun hw=>?_)<;>try omega|fail
     ·refine aL ?_ rfl
      refine congrArg AV.bool ?_
      simp only[bC]
      rw[XC hi (by assumption)]
      simp_all
     ·refine⟨i+1,?_,?_,by first|rfl|(simp[go_sem];done),bG,at_⟩<;>(try dsimp only)
      ·exact⟨by omega,aW h2 hw⟩
      ·omega
    ·repeat' first|refine aB ?_|refine aA (fun hw=>?_) (fun hw=>?_)<;>try omega|fail
     all_goals refine aL ?_ rfl
     all_goals refine congrArg AV.bool ?_
     all_goals simp only[bC]
     all_goals rw[VQ (fun k hk=>h2 k (by omega))]
     all_goals (rw[Bool.eq_iff_iff];simp_all[v0])
theorem bE{v r:AV}{lT ds:List AV}{τ : ai}(hv:View (.dead:: τ) v r)(hd:aQ (.dead:: τ) lT ds):
 ∃ r0 Cq zC,Out.ret (oneOf [v])=Out.ret r0∧aR.cells lT:: τ = aR.cells Cq::zC∧View (.dead::zC) r0 r∧aQ (.dead::zC) Cq ds:=⟨_,_,_,rfl,rfl,hv,hd⟩
def x0: Expr:= .mk 0 v0 [] []
def Hx(T:List Tok)(p:Nat)(b:Bool): Tok:=if b then default else T.getD p default
def dO(T:List Tok)(p:Nat)(k:Int)(s:aH): Bool:=decide (p<T.length) && (decide ((T.getD p default).kind=k) && decide ((T.getD p default).s=s))
def cn(T:List Tok)(p:Nat)(b:Bool)(k:Int)(s:aH): Bool:= !b && dO T p k s
def gy(x:yu): Int:=if x.level<3 then 1 else 4
def nu(T:List Tok)(p:Nat)(b:Bool)(lvl:Int): Option yu:=dL.find? fun x=>x.level==lvl && cn T p b (gy x) x.sign
def O4(T:List Tok)(p:Nat)(b:Bool)(lvl:Int): Nat:=if(nu T p b lvl).isSome then p+1 else p
def Hy(o:Option yu): Int:=match o with
 | some x=>x.op
 | none=>0
theorem aQ.eqv{σ : ai}{a b:List AV}(h:a=b)(hp:AV.bW b=true): aQ σ a b:=by subst h;exact aQ.refl hp
def mJ(s:aH): Option dy:=if s=[110,117,108,108]then some v0 else if s=[102,97,108,115,101]then some ⟨3,0,[]⟩else if s=[116,114,117,101]then some ⟨3,1,[]⟩else none
structure RS where
 x:Expr
 p:Nat
 bad:Bool
deriving Inhabited
def bn(T:List Tok)(p:Nat)(b:Bool): List AV:=[.aG false ET (T.map j3),I p,.bool b]
attribute [go_sem] bn
theorem aO(T:List Tok)(p:Nat)(b:Bool): AV.bW (bn T p b)=true:=by simp[bn,AV.cF,AV.bW,LY]
theorem nM{α : Type}[Inhabited α]{l:List α}{i:Nat}(h:l.length≤i): l.getD i default=default:=by
 rw[List.getD_eq_getElem?_getD,List.getElem?_eq_none h];rfl
theorem VS: (default:Tok)=⟨0,[],0,0⟩:=rfl
theorem aaQ(T:List Tok)(p:Nat)(b:Bool)(k:Int)(s:aH)(hk:k≠0): cn T p b k s=(decide ((Hx T p b).kind=k) && decide ((Hx T p b).s=s)):=by
 unfold cn Hx dO
 cases b with
 | true=>simp[VS];intro h;exact absurd h.symm hk
 | false =>
   by_cases hp:p<T.length
   ·simp[hp]
   ·rw[nM (by omega)];simp[hp,VS];intro h;exact absurd h.symm hk
theorem L9(T:List Tok)(p:Nat)(b:Bool): aV Tryz.prog lp 0 [] (bn T p b) (bn T p b) (j3 (Hx T p b)):=by
 refine aV.bH (D8 (by simp) ?_) rfl (aO _ _ _)
 unfold vp aM
 intro Q aC aD aE
 cases b with
 | true =>
   repeat' first|refine aB ?_|refine aA (fun hw=>?_) (fun hw=>?_)<;>try omega|fail
   exact bE (View.eqv rfl rfl) (aQ.refl (aO T p true))
 | false =>
   by_cases hp:p<T.length
   ·repeat' first|refine aB ?_|refine aA (fun hw=>?_) (fun hw=>?_)<;>try omega|fail
    refine bE (View.eqv ?_ rfl) (aQ.refl (aO T p false))
    simp only[Hx];rfl
   ·repeat' first|refine aB ?_|refine aA (fun hw=>?_) (fun hw=>?_)<;>try omega|fail
    refine bE (View.eqv ?_ rfl) (aQ.refl (aO T p false))
    simp only[Hx];rw[nM (by omega)];rfl
def kX(T:List Tok)(p:Nat)(b:Bool)(k:Int)(s:aH): Nat:=if cn T p b k s then p+1 else p
theorem Hz(T:List Tok)(p:Nat)(b:Bool)(k:Int)(s:aH)(hk:k≠0)(hp:p≤2 ^ 61): aV Tryz.prog fo 0 [I k,.str s] (bn T p b) (bn T (kX T p b k s) b) (.bool (cn T p b k s)):=by
 have hn:=L9 T p b
 unfold kX
 rw[aaQ T p b k s hk]
 generalize Hx T p b=t at hn ⊢
 obtain⟨tk,ts,tn,tp⟩:=t
 simp only[bn,j3]at hn
 refine aV.bH (F0 (by simp) ?_) rfl (aO _ _ _)
 unfold w_ aM
 intro Q aC aD aE
 repeat' first|refine aB ?_|refine aS hn ?_|refine aA (fun hw=>?_) (fun hw=>?_)<;>try omega|fail
 all_goals first
  |(refine bE (View.eqv ?_ rfl) (aQ.eqv ?_ (aO _ _ _))<;>simp_all[bn];done)
theorem Cf(T:List Tok)(p:Nat)(b:Bool)(k:Int)(s:aH)(hk:k≠0)(hp:p≤2 ^ 61): aV Tryz.prog iH 0 [I k,.str s] (bn T p b) (bn T (kX T p b k s) (b || !(cn T p b k s))) (.bJ []):=by
 have hn:=Hz T p b k s hk hp
 generalize cn T p b k s=o at hn ⊢
 simp only[bn]at hn
 refine aV.bH (C_ (by simp) ?_) rfl (aO _ _ _)
 unfold uB aM
 intro Q aC aD aE
 cases o
 ·repeat' first|refine aB ?_|refine aS hn ?_|refine aA (fun hw=>?_) (fun hw=>?_)<;>try omega|fail
  refine tO rfl (aQ.eqv ?_ (aO _ _ _));simp[bn]
 ·repeat' first|refine aB ?_|refine aS hn ?_|refine aA (fun hw=>?_) (fun hw=>?_)<;>try omega|fail
  refine tO rfl (aQ.eqv ?_ (aO _ _ _));simp[bn]
theorem RO(s:aH): aq Tryz.prog xU [.str s] (.bJ [gO ((mJ s).getD v0),.bool (mJ s).isSome]):=by
 refine aq.of_nil (NY (by simp) ?_) rfl
 unfold FC aM
 intro Q aC aD aE
 repeat' first|refine aB ?_|refine aA (fun hw=>?_) (fun hw=>?_)<;>try omega|fail
 all_goals refine aP ?_ rfl
 all_goals simp_all[mJ,gO,v0]
theorem FE(T:List Tok)(p:Nat)(b:Bool)(lvl:Int)(hp:p≤2 ^ 61): aV Tryz.prog js 0 [I lvl] (bn T p b) (bn T (O4 T p b lvl) b) (I (Hy (nu T p b lvl))):=by
 refine aV.bH (AZ (by simp) ?_) rfl (aO _ _ _)
 unfold rM aM
 intro Q aC aD aE
 have hl:dL.length=12:=rfl
 have ho:=fun k s (hk:k≠0)=>Hz T p b k s hk hp
 simp only[bn]at ho
 repeat' first|refine aB ?_|refine aF Bw ?_|refine aA (fun hw=>?_) (fun hw=>?_)<;>try omega|fail
 with_reducible refine a_ [4,6,7,10,11,12,13,14,15,16,17,18,19,20,21,22,23,24,25,26,27,28,29,30] (fun q:Nat × List aR=>[(10,I q.1)]) (fun q=> .cells [.aG false ET (T.map j3),I p,.bool b]::q.2) (fun q=>q.1≤12∧ ∀ k,k<q.1→((dL.getD k default).level==lvl && cn T p b (gy (dL.getD k default)) (dL.getD k default).sign)=false) (fun q=>12-q.1) (0,[]) ?_ ?_ ?_ ?_
 ·simp
 ·rfl
 ·exact at_
 rintro⟨i,τ⟩ r ⟨h1,h2⟩
 dsimp only at h1 h2
 by_cases hi:i<12
 ·obtain⟨x,hx⟩:∃ x,dL.getD i default=x:=⟨_,rfl⟩
  have hyes:(x.level==lvl && cn T p b (gy x) x.sign)=true→nu T p b lvl=some x:=fun h=>by
   unfold nu;rw[vY (p:=fun y:yu=>y.level==lvl && cn T p b (gy y) y.sign) hi h2 (by rw[hx];exact h),hx]
  have N1:(x.level==lvl && cn T p b (gy x) x.sign)=false→ ∀ k,k<i+1→((dL.getD k default).level==lvl && cn T p b (gy (dL.getD k default)) (dL.getD k default).sign)=false:=fun h=>aW h2 (by rw[hx];exact h)
  have hk2:(x.level<3∧gy x=1)∨(¬ x.level<3∧gy x=4):=by unfold gy;split<;>simp_all
  clear h2
  rcases hk2 with⟨hlv,XD⟩|⟨hlv,XD⟩
  all_goals rw[XD]at hyes N1
  all_goals (
   repeat' first|simp (disch:=omega) only[go_sem,aC,aD,aE,aj,au,ak,Nat.reduceAdd,Nat.reduceBEq,↓reduceIte,hx]|refine aB ?_|with_reducible refine Nu (ho 1 _ (by decide)) rfl ?_|with_reducible refine vC (ho 1 _ (by decide)) rfl ?_|with_reducible refine Nv (ho 1 _ (by decide)) rfl ?_|with_reducible refine Nu (ho 4 _ (by decide)) rfl ?_|with_reducible refine vC (ho 4 _ (by decide)) rfl ?_|with_reducible refine Nv (ho 4 _ (by decide)) rfl ?_|refine aA (fun hw=>?_) (fun hw=>?_)<;>try omega|fail
   ·rename_i _ hlq
    have hy:=hyes (by rw[hlq,hw];simp)
    refine bE (View.eqv ?_ rfl) (aQ.eqv ?_ (aO _ _ _))
    ·rw[hy];rfl
    ·simp[bn,O4,hy,kX,hw]
   ·rename_i hlq
    refine⟨(i+1,τ++[.cells [I x.op,.str x.sign,I x.level]]),?_,?_,?_,bG,at_⟩<;>(try dsimp only)
    ·exact⟨by omega,N1 (by rw[hw];simp)⟩
    ·omega
    ·simp[kX,hw]
   ·refine⟨(i+1,τ++[.cells [I x.op,.str x.sign,I x.level]]),?_,?_,?_,bG,at_⟩<;>(try dsimp only)
    ·exact⟨by omega,N1 (by rw[beq_eq_false_iff_ne.2 hw];rfl)⟩
    ·omega)
 ·have hno : nu T p b lvl = none := by
   unfold nu;rw[sL (p:=fun y:yu=>y.level==lvl && cn T p b (gy y) y.sign) (fun k hk=>h2 k (by omega))]
  repeat' first|refine aB ?_|refine aA (fun hw=>?_) (fun hw=>?_)<;>try omega|fail
  refine bE (View.eqv ?_ rfl) (aQ.eqv ?_ (aO _ _ _))<;>simp_all[bn,Hy,O4]
end Go.Proofs.YtmbgnaoilncbnaaGreatDoor
