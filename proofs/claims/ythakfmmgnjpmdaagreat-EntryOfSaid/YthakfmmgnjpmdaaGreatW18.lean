/- Part. -/
import Derived.Test.YthakfmmgnjpmdaaGreatW17
set_option linter.all false
namespace Go.Proofs.YthakfmmgnjpmdaaGreat
open Go.AM
set_option maxRecDepth 4000
def D5{s:aS}{p:UInt8->Bool}{i:Nat}(hi:i<s.length)(hp:p (s.getD i 0)=false): s.all p=false:=by
 rw[List.all_eq_false];refine⟨s.getD i 0,?_,ne_true_of_eq_false hp⟩;rw[aB,aE hi];exact eW hi
def Tb{s:aS}{p:UInt8->Bool}(h:∀ k,k<s.length->p (s.getD k 0)=true): s.all p=true:=by
 rw[bg];intro x hx;obtain⟨k,hk,rfl⟩:=bT hx;have:=h k hk;rwa[aB,aE hk]at this
def Br(c:UInt8): kz c=true↔32<=c.toNat/\c.toNat<=126:=by simp[kz]
def rJ(c:UInt8): kz c=false↔c.toNat<32\/126<c.toNat:=by
 rw[<-Bool.not_eq_true,Br];omega
def RL(s:aS): aF aD 166 [.str s] (.bool (lA s)):=by
 refine aK K3 ?_;intro Q aq au aA;repeat' first|refine ak ?_|refine aj ?_ ?_<;>intro hw<;>try omega|fail
 ·refine aN ?_ rfl;simp only[lA];rw[decide_eq_false (by omega),dO]
 with_reducible refine aX [2,4,10,11,12,13,14,15,16,17,18] (fun i:Nat=>[]) (fun i=>[.kS s i]) (fun i=>i<=s.length/\ ∀ k,k<i->kz (s.getD k 0)=true) (fun i=>s.length-i) 0 ?_ ?_ ?_ ?_
 ·simp
 ·rfl
 ·exact at_
 rintro i r ⟨h1,h2⟩;by_cases hi:i<s.length
 ·by_cases ha:(s.getD i 0).toNat<128
  ·repeat' first|refine ak ?_|refine aj ?_ ?_<;>intro hw<;>try omega|fail
   ·refine aN ?_ rfl;simp only[lA];rw[D5 (p:=kz) hi ((rJ _).2 (.inr (by omega))),fc]
   ·refine⟨i+1,?_,?_,by first|rfl|(simp[go_sem];done),bK,at_⟩<;>(try dsimp only)
    ·exact⟨by omega,bx h2 ((Br _).2 ⟨by omega,by omega⟩)⟩
    ·omega
   ·refine aN ?_ rfl;simp only[lA];rw[D5 (p:=kz) hi ((rJ _).2 (.inl (by omega))),fc]
  ·have hw2:=Rr hi (by omega);repeat' first|refine ak ?_|refine aj ?_ ?_<;>intro hw<;>try omega|fail
   all_goals refine aN ?_ rfl
   all_goals (simp only[lA];rw[D5 (p:=kz) hi ((rJ _).2 (.inr (by omega))),fc])
 ·have:i=s.length:=by omega
  repeat' first|refine ak ?_|refine aj ?_ ?_<;>intro hw<;>try omega|fail
  refine aN ?_ rfl;simp only[lA];rw[decide_eq_true (by omega),Tb (fun k hk=>h2 k (by omega))];rfl
def RM(s:aS)(hs:s.length<=2 ^ 62): aF aD 197 [.str s] (.bool (lA s)):=by
 refine aK K6 ?_;intro Q aq au aA;repeat' first|refine ak ?_|refine aj ?_ ?_<;>intro hw<;>try omega|fail
 with_reducible refine aX [2,3,4,5,6,7,8,9,10,11,12,13,14,15,16,17,18,19] (fun i:Nat=>[(3,I i)]) (fun i=>[]) (fun i=>i<=s.length/\ ∀ k,k<i->kz (s.getD k 0)=true) (fun i=>s.length-i) (0) ?_ ?_ ?_ ?_
 ·simp
 ·rfl
 ·exact at_
 rintro i r ⟨h1,h2⟩;by_cases hi:i<s.length
 ·repeat' first|refine ak ?_|refine aj ?_ ?_<;>intro hw<;>try omega|fail
  ·refine aN ?_ rfl;simp only[lA];rw[D5 (p:=kz) hi ((rJ _).2 (.inr (by omega))),fc]
  ·refine⟨i+1,?_,?_,by first|rfl|(simp[go_sem];done),bK,at_⟩<;>(try dsimp only)
   ·exact⟨by omega,bx h2 ((Br _).2 ⟨by omega,by omega⟩)⟩
   ·omega
  ·refine aN ?_ rfl;simp only[lA];rw[D5 (p:=kz) hi ((rJ _).2 (.inl (by omega))),fc]
 ·repeat' first|refine ak ?_|refine aj ?_ ?_<;>intro hw<;>try omega|fail
  refine aN ?_ rfl;simp only[lA];rw[Tb (fun k hk=>h2 k (by omega)),Bool.and_true];refine congrArg AV.bool ?_;rw[aW,decide_eq_true_eq,decide_eq_true_eq];omega
def xH(n:Int)(s:aS): bp ⟨0,n,s⟩=(decide (n=0) && decide (s=[])):=rfl
def xI(n:Int)(s:aS): bp ⟨1,n,s⟩=decide (s=[]):=rfl
def Ht(n:Int)(s:aS): bp ⟨2,n,s⟩=(decide (n=0) && lA s):=rfl
def Bs(n:Int)(s:aS): bp ⟨3,n,s⟩=(decide (s=[]) && (decide (n=0) || decide (n=1))):=rfl
def Hu(k n:Int)(s:aS)(h0:k≠0)(h1:k≠1)(h2:k≠2)(h3:k≠3): bp ⟨k,n,s⟩=false:=by
 simp[bp,h0,h1,h2,h3]
def iz(b:Bool): Int:=if b then 0 else 2
def UI(x:BitVec 64): x &&& ~~~ 1#64=0#64↔x=0#64\/x=1#64:=by
 constructor
 ·intro h
  have hb:∀ i,1<=i->i<64->x.getLsbD i=false:=fun i h1 h2=>by
   have:=congrArg (fun y=>BitVec.getLsbD y i) h
   have h3:(1#64).getLsbD i=false:=by
    rw[BitVec.getLsbD_one];simp;omega
   simp only[BitVec.getLsbD_and,BitVec.getLsbD_not,h3,h2,decide_true,gi,Bool.and_true,BitVec.getLsbD_zero]at this;exact this
  cases h0:x.getLsbD 0 with
  | false =>
    left;apply BitVec.eq_of_getLsbD_eq;intro i hi;by_cases hz:i=0
    ·subst hz;rw[h0];rfl
    ·rw[hb i (by omega) hi];simp
  | true =>
    right;apply BitVec.eq_of_getLsbD_eq;intro i hi;by_cases hz:i=0
    ·subst hz;rw[h0];rfl
    ·rw[hb i (by omega) hi,BitVec.getLsbD_one];simp[hz]
 ·rintro(rfl|rfl)<;>decide
def RN(m:Nat)(h:m<18446744073709551616): IntKind.wrap .i64 m=0↔m=0:=by
 simp only[IntKind.wrap,IntKind.bits,IntKind.signed];simp;omega
def agd(n:Int)(h : -9223372036854775808<=n)(h':n<=9223372036854775807): pQ .andNot .i64 n 1=0↔n=0\/n=1:=by
 rw[mL];show IntKind.wrap .i64 ((BitVec.ofInt 64 n &&& ~~~ BitVec.ofInt 64 1).toNat:Int)=0↔_;rw[RN _ (BitVec.isLt _)]
 have h1:(BitVec.ofInt 64 n &&& ~~~ BitVec.ofInt 64 1).toNat=0↔BitVec.ofInt 64 n &&& ~~~ 1#64=0#64:=by
  rw[<-BitVec.toNat_inj];rfl
 rw[h1,UI,<-BitVec.toNat_inj,<-BitVec.toNat_inj];simp only[BitVec.toNat_ofInt,BitVec.toNat_ofNat];omega
def jT(k n:Int)(s:aS)(h : -9223372036854775808<=n)(h':n<=9223372036854775807): aF aD 115 [.agg [I k,I n,.str s]] (I (iz (bp ⟨k,n,s⟩))):=by
 refine aK KV ?_;intro Q aq au aA;repeat' first|refine ak ?_|refine cW (RL _) ?_|refine aj ?_ ?_<;>intro hw<;>try omega|fail
 all_goals refine aN ?_ rfl
 all_goals (refine congrArg I ?_;unfold iz;try rw[agd n h h']at hw)
 all_goals (try subst k)
 all_goals first
  |(rw[if_neg (by rw[xH];simp_all)];done)
  |(rw[if_pos (by rw[xH];simp_all)];done)
  |(rw[if_neg (by rw[xI];simp_all)];done)
  |(rw[if_pos (by rw[xI];simp_all)];done)
  |(rw[if_neg (by rw[Ht];simp_all)];done)
  |(rw[if_pos (by rw[Ht];simp_all)];done)
  |(rw[if_neg (by rw[Bs];simp_all)];done)
  |(rw[if_pos (by rw[Bs];simp_all)];done)
  |(rw[if_neg (by rw[Hu _ _ _ (by assumption) (by assumption) (by assumption) (by assumption)];simp)])
def pB(k n:Int)(s:aS)(hs:s.length<=2 ^ 62): aF aD 145 [.agg [I k,I n,.str s]] (.bool (bp ⟨k,n,s⟩)):=by
 refine aK KY ?_;intro Q aq au aA;repeat' first|refine ak ?_|refine cW (RM _ hs) ?_|refine aj ?_ ?_<;>intro hw<;>try omega|fail
 all_goals refine aN ?_ rfl
 all_goals (refine congrArg AV.bool ?_;try subst k)
 all_goals first
  |(rw[xH];rw[aW];simp_all;done)
  |(rw[xI];rw[aW];simp_all;done)
  |(rw[Ht];rw[aW];simp_all;done)
  |(rw[Bs];rw[aW];simp_all;done)
  |(rw[Hu _ _ _ (by assumption) (by assumption) (by assumption) (by assumption)])
structure Ah where
 op:Int
 sign:aS
 level:Int
deriving Inhabited,DecidableEq
def Ze(b:Ah): AV:= .agg [I b.op,.str b.sign,I b.level]
attribute [go_sem] Ze
def jz: List Ah:=[⟨4,[43],4⟩,⟨5,[45],4⟩,⟨6,[42],5⟩,⟨7,[47],5⟩,⟨8,[61],3⟩,⟨9,[33,61],3⟩,⟨10,[60],3⟩,⟨11,[60,61],3⟩,⟨12,[62],3⟩,⟨13,[62,61],3⟩,⟨14,[97,110,100],2⟩,⟨15,[111,114],1⟩]
def oH(op:Int): Ah:=(jz.find? fun b=>b.op==op).getD ⟨0,[],0⟩
def lB(op:Int): Int:=if op=1\/op=2 then 0 else if op=3 then 1 else if op=16 then 3 else if 0<(oH op).level then 2 else -1
def PA(op:Int): Int:=if op=16 then 0 else if op=3 then 6 else if op=1\/op=2 then 7 else(oH op).level
def wD(op:Int)(h:op<4\/15<op): oH op=⟨0,[],0⟩:=by
 have:jz.find? (fun b=>b.op==op)=none:=by
  rw[List.find?_eq_none];intro b hb;simp only[jz,List.mem_cons,List.not_mem_nil,or_false]at hb;rcases hb with rfl|rfl|rfl|rfl|rfl|rfl|rfl|rfl|rfl|rfl|rfl|rfl<;>(simp only[beq_iff_eq];omega)
 simp[oH,this]
def Je(op:Int)(h1:4<=op)(h2:op<=15): (oH op).sign≠[]/\0<(oH op).level:=by
 have:op=4\/op=5\/op=6\/op=7\/op=8\/op=9\/op=10\/op=11\/op=12\/op=13\/op=14\/op=15:=by omega
 rcases this with rfl|rfl|rfl|rfl|rfl|rfl|rfl|rfl|rfl|rfl|rfl|rfl<;>decide
def UJ(op:Int): (oH op).sign=[]↔¬ 0<(oH op).level:=by
 by_cases h:4<=op/\op<=15
 ·have:=Je op h.1 h.2;simp[this.1];omega
 ·rw[wD op (by omega)];simp
def yK: aF aD 278 [] (.aG false ⟨true,3⟩ (jz.map Ze)):=by
 refine aK DQ ?_;intro Q aq au aA;repeat' first|refine ak ?_|refine aj ?_ ?_<;>intro hw<;>try omega|fail
 all_goals exact uS (View.weak _ _ _ (by simp))
def RO(op:Int): aF aD 262 [I op] (Ze (oH op)):=by
 refine aK Lb ?_;intro Q aq au aA;have hl:jz.length=12:=rfl;repeat' first|refine ak ?_|refine cW yK ?_|refine aj ?_ ?_<;>intro hw<;>try omega|fail
 with_reducible refine aX [4,7,8,9,10,11,12,13,14,15,16] (fun p:Nat × List bE=>[(7,I p.1)]) (fun p=> .cells [I 0,.str [],I 0]::p.2) (fun p=>p.1<=12/\ ∀ k,k<p.1->((jz.getD k default).op==op)=false) (fun p=>12-p.1) (0,[]) ?_ ?_ ?_ ?_
 ·simp
 ·rfl
 ·exact at_
 rintro⟨i,τ⟩ r ⟨h1,h2⟩;dsimp only at h1 h2;by_cases hi:i<12
 ·repeat' first|refine ak ?_|refine aj ?_ ?_<;>intro hw<;>try omega|fail
  ·refine aN ?_ rfl
   have:oH op=jz.getD i default:=by
    unfold oH;rw[sO (p:=fun b:Ah=>b.op==op) hi h2 (by simpa using hw)];rfl
   rw[this];try rfl
  ·refine⟨(i+1,τ++[.cells [I (jz.getD i default).op,.str (jz.getD i default).sign,I (jz.getD i default).level]]),?_,?_,by first|rfl|(simp[go_sem];done),bK,at_⟩<;>(try dsimp only)
   ·exact⟨by omega,bx h2 (by simpa using hw)⟩
   ·omega
 ·repeat' first|refine ak ?_|refine aj ?_ ?_<;>intro hw<;>try omega|fail
  refine aN ?_ rfl
  have:oH op=⟨0,[],0⟩:=by
   unfold oH;rw[qg (p:=fun b:Ah=>b.op==op) (fun k hk=>h2 k (by omega))];rfl
  rw[this];try rfl
def Jf(op:Int): aF aD 239 [I op] (.str (oH op).sign):=by
 refine aK NV ?_;intro Q aq au aA;repeat' first|refine ak ?_|refine aj ?_ ?_<;>intro hw<;>try omega|fail
 all_goals refine aN ?_ rfl
 all_goals (try subst op)
 all_goals first|rfl|(rw[wD op (by omega)])
def RP(op:Int): aF aD 268 [I op] (I (PA op)):=by
 refine aK Ld ?_;intro Q aq au aA;repeat' first|refine ak ?_|refine aj ?_ ?_<;>intro hw<;>try omega|fail
 all_goals refine aN ?_ rfl
 all_goals (try subst op)
 all_goals (refine congrArg I ?_)
 all_goals first|rfl|decide|skip
 by_cases W0:op=16
 ·subst W0;rfl
 ·unfold PA;rw[if_neg W0,if_neg (by assumption),if_neg (by omega),wD op (by omega)]
def PB(op:Int): aF aD 217 [I op] (I (lB op)):=by
 refine aK I7 ?_;intro Q aq au aA;repeat' first|refine ak ?_|refine cW (RO _) ?_|refine aj ?_ ?_<;>intro hw<;>try omega|fail
 all_goals refine aN ?_ rfl
 all_goals (refine congrArg I ?_;unfold lB)
 all_goals first|(simp_all;done)
def RQ(op:Int): aF aD 195 [I op] (I (lB op)):=by
 refine aK K5 ?_;intro Q aq au aA;repeat' first|refine ak ?_|refine cW (Jf _) ?_|refine aj ?_ ?_<;>intro hw<;>try omega|fail
 all_goals refine aN ?_ rfl
 all_goals (refine congrArg I ?_;unfold lB)
 all_goals (try rw[UJ]at hw)
 all_goals first|(simp_all;done)|(rw[if_neg (by omega),if_neg (by omega),if_neg (by omega),if_pos (by omega)])|(rw[if_neg (by omega),if_neg (by omega),if_neg (by omega),if_neg (by omega)])
mutual
def kA: Expr->Nat
 | .mk _ _ _ l=>kB l+1
def kB: List Expr->Nat
 | []=>0
 | x::r=>Nat.max (kA x) (kB r)
end
mutual
def fE: Expr->Nat
 | .mk _ _ _ l=>nY l+1
def nY: List Expr->Nat
 | []=>0
 | x::r=>fE x+nY r
end
def uE(l:List Expr): l.length<=nY l:=by
 induction l with
 | nil=>simp[nY]
 | cons x r ih=>cases x;simp only[nY,fE,List.length_cons];omega
def sP{l:List Expr}{x:Expr}(h:x ∈ l): fE x<=nY l:=by
 induction l with
 | nil=>cases h
 | cons y r ih =>
   simp only[nY];rcases List.mem_cons.1 h with rfl|h
   ·omega
   ·have:=ih h;omega
def abh: ∀ x,kA x<=fE x:=by
 intro x
 induction x using Expr.ind with
 | h op v s l ih =>
   simp only[kA,fE]
   have:kB l<=nY l:=by
    clear op v s
    induction l with
    | nil=>simp[kB]
    | cons y r Wk =>
      simp only[kB,nY];have h1:=ih y (by simp);have h2:=Wk (fun z hz=>ih z (da _ hz));exact Nat.max_le.2 ⟨by omega,by omega⟩
   omega
def UK(l:List Expr)(x:Expr): kB (l++[x])=Nat.max (kB l) (kA x):=by
 induction l with
 | nil=>simp only[dP,kB];exact Nat.max_comm _ _
 | cons y r ih=>simp only[cV,kB,ih];exact(Nat.max_assoc _ _ _).symm
def take_succ{α : Type}[Inhabited α]{l:List α}{k:Nat}(h:k<l.length): l.take (k+1)=l.take k++[l.getD k default]:=by
 rw[List.take_succ_eq_append_getElem h,aB,aE h];rfl
def Bt{l:List Expr}{k:Nat}(h:k<l.length): kB (l.take (k+1))=Nat.max (kB (l.take k)) (kA (l.getD k default)):=by
 rw[take_succ h,UK]
def Bu(l:List Expr)(k:Nat): kB (l.take k)<=nY l:=by
 have:∀ l:List Expr,kB l<=nY l:=fun l=>by
  have:=abh (.mk 0 default [] l);simp only[kA,fE]at this;omega
 refine c_ (this _) ?_
 induction l generalizing k with
 | nil=>simp[nY]
 | cons x r ih => cases k with
   | zero=>simp[nY]
   | succ k=>simp only[List.take_succ_cons,nY];have:=ih k;omega
def F1(x:Expr)(hx:fE x<=2 ^ 60): aF aD 164 [aJ x] (I (kA x)):=by
 induction x using Expr.ind with
 | h op v s l ih =>
   simp only[fE]at hx;have hlen:=uE l
   have hih:∀ k,k<l.length->aF aD 164 [aJ (l.getD k default)] (I (kA (l.getD k default))):=fun k hk =>
    ih _ (aO hk) (by have:=sP (aO hk);omega)
   refine aK K0 ?_;intro Q aq au aA;repeat' first|refine ak ?_|refine aj ?_ ?_<;>intro hw<;>try omega|fail
   with_reducible refine aX [3,5,9,10,11,12,13,14,15,16,17] (fun p:Nat × List bE=>[(9,I p.1),(3,I (kB (l.take p.1)))]) (fun p=> .cells [I op,I v.kind,I v.n,.str v.s,.str s,.aG false EX (l.map aJ)]::p.2) (fun p=>p.1<=l.length) (fun p=>l.length-p.1) (0,[]) ?_ ?_ ?_ ?_
   ·simp
   ·rfl
   ·exact at_
   rintro⟨i,τ⟩ r h1;dsimp only at h1;by_cases hi:i<l.length
   ·have hy:=hih i hi
    have age:(if((kB (l.take i):Nat):Int)<((kA (l.getD i default):Nat):Int)then ((kA (l.getD i default):Nat):Int)else ((kB (l.take i):Nat):Int))=((kB (l.take (i+1)):Nat):Int):=by
     rw[Bt hi];show _=((max (kB (l.take i)) (kA (l.getD i default)):Nat):Int);by_cases hm:kB (l.take i)<=kA (l.getD i default)
     ·rw[Nat.max_eq_right hm];split<;>omega
     ·rw[Nat.max_eq_left (by omega)];split<;>omega
    rw[aU]at hy;repeat' first|simp (disch:=omega) only[go_sem,aq,au,aA,age]|refine ak ?_|refine aj ?_ ?_<;>intro hw<;>try omega|fail
    refine⟨(i+1,τ++[.cells [I (l.getD i default).op,I (l.getD i default).v.kind,I (l.getD i default).v.n,.str (l.getD i default).v.s,.str (l.getD i default).s,.aG false EX ((l.getD i default).l.map aJ)]]),?_,?_,by first|rfl|(simp[go_sem];done),bK,at_⟩<;>(try dsimp only)
    ·omega
    ·omega
   ·have h3:=Bu l l.length;rw[List.take_length]at h3;have h2:l.take i=l:=bX (by omega);have h4:=Bu l i;rw[h2]at h4;repeat' first|simp (disch:=omega) only[go_sem,aq,au,aA,h2]|refine ak ?_|refine aj ?_ ?_<;>intro hw<;>try omega|fail
    refine aN ?_ rfl;refine congrArg I ?_;simp only[kA];omega
def Jg(x:Expr)(hx:fE x<=2 ^ 60): aF aD 142 [aJ x] (I (kA x)):=by
 induction x using Expr.ind with
 | h op v s l ih =>
   simp only[fE]at hx;have hlen:=uE l
   have hih:∀ k,k<l.length->aF aD 142 [aJ (l.getD k default)] (I (kA (l.getD k default))):=fun k hk =>
    ih _ (aO hk) (by have:=sP (aO hk);omega)
   refine aK ND ?_;intro Q aq au aA;repeat' first|refine ak ?_|refine aj ?_ ?_<;>intro hw<;>try omega|fail
   with_reducible refine aX [3,4,5,6,7,8,9,10,11,12,13,14,15,16,17,18,19,20,21,22] (fun p:Nat × List bE=>[(4,I p.1),(3,I (kB (l.take p.1)))]) (fun p=> .cells [I op,I v.kind,I v.n,.str v.s,.str s,.aG false EX (l.map aJ)]::p.2) (fun p=>p.1<=l.length) (fun p=>l.length-p.1) (0,[]) ?_ ?_ ?_ ?_
   ·simp
   ·rfl
   ·exact at_
   rintro⟨i,τ⟩ r h1;dsimp only at h1;have h4:=Bu l i;by_cases hi:i<l.length
   ·have hy:=hih i hi;rw[aU]at hy;repeat' first|refine ak ?_|refine aj ?_ ?_<;>intro hw<;>try omega|fail
    ·have e:kB (l.take (i+1))=kA (l.getD i default):=by rw[Bt hi];exact Nat.max_eq_right (by omega)
     refine⟨(i+1,τ),?_,?_,by first|rfl|(simp[go_sem];done),bK,at_⟩<;>(try dsimp only)
     ·omega
     ·omega
    ·have e:kB (l.take (i+1))=kB (l.take i):=by rw[Bt hi];exact Nat.max_eq_left (by omega)
     refine⟨(i+1,τ),?_,?_,by first|rfl|(simp[go_sem];done),bK,at_⟩<;>(try dsimp only)
     ·omega
     ·omega
   ·have h3:=Bu l l.length;rw[List.take_length]at h3;have h2:l.take i=l:=bX (by omega);rw[h2]at h4;repeat' first|simp (disch:=omega) only[go_sem,aq,au,aA,h2]|refine ak ?_|refine aj ?_ ?_<;>intro hw<;>try omega|fail
    refine aN ?_ rfl;refine congrArg I ?_;simp only[kA];omega
def fm{α β : Type}(p : α-> β->Bool): List α->List β->Bool
 | [],[]=>true
 | x::r,y::t=>p x y && fm p r t
 | _,_=>false
def qQ{α β : Type}{p : α-> β->Bool}: ∀ {l:List α} {m:List β},l.length≠m.length->fm p l m=false
 | [],[],h=>absurd rfl h
 | [],_::_,_=>rfl
 | _::_,[],_=>rfl
 | x::r,y::t,h=>by simp only[fm];rw[qQ (by simpa using h),fc]
def tD{α β : Type}[Inhabited α][Inhabited β]{p : α-> β->Bool}: ∀ {l:List α} {m:List β} {i:Nat},i<l.length->p (l.getD i default) (m.getD i default)=false->i<m.length->fm p l m=false
 | x::r,y::t,0,_,h,_=>by simp only[dn]at h;simp only[fm,h,dO]
 | x :: r, y :: t, i + 1, h1, h, h2 => by
   simp only[jd]at h;simp only[fm];rw[tD (i:=i) (by simpa using h1) h (by simpa using h2),fc]
def qR{α β : Type}[Inhabited α][Inhabited β]{p : α-> β->Bool}: ∀ {l:List α} {m:List β},l.length=m.length->(∀ k,k<l.length->p (l.getD k default) (m.getD k default)=true)->fm p l m=true
 | [],[],_,_=>rfl
 | x :: r, y :: t, h, hp => by
   have h0:=hp 0 (by simp);simp only[dn]at h0;simp only[fm,h0,dG];exact qR (by simpa using h) (fun k hk=>by have:=hp (k+1) (by simpa using hk);simpa only[jd]using this)
@[go_sem] def ahw {α : Type} (τ : List α) (c d : α):(τ++[c]++[d])[τ.length+1]? = some d:=by simp
@[go_sem] def ahx {α : Type} (τ : List α) (c d : α):(τ++[c]++[d])[τ.length]? = some c:=by simp
@[go_sem] def ahB {α : Type} (τ : List α) (c d e : α):(τ++[c]++[d]).set (τ.length+1) e = τ++[c]++[e]:=by simp
def Ai (fn : FuncId) (cap : List AV) (hcap : AV.bG cap = true) (p : Expr -> Expr -> Bool) (l m : List Expr)
    (h:∀ k,k<l.length->k<m.length->aF aD fn (aJ (l.getD k default)::aJ (m.getD k default)::cap) (.bool (p (l.getD k default) (m.getD k default)))) (hl:l.length<=2 ^ 62) (hm:m.length<=2 ^ 62) :
    aF aD 274 [cH l,cH m,.fn (.func fn) [] cap] (.bool (fm p l m)):=by
 refine aK xB ?_ (by simp[AV.cQ,AV.bG,hcap,qN]);intro Q aq au aA;repeat' first|refine ak ?_|refine aj ?_ ?_<;>intro hw<;>try omega|fail
 ·refine aN ?_ rfl;rw[qQ (by omega)]
 have xJ:l.length=m.length:=by omega
 with_reducible refine aX [6,7,8,9,17,18,19,20,21,22,23,24,25,26,27,28,29,30,31] (fun p:Nat × List bE=>[(17,I p.1)]) (fun p=>p.2) (fun q=>q.1<=l.length/\ ∀ k,k<q.1->p (l.getD k default) (m.getD k default)=true) (fun p=>l.length-p.1) (0,[]) ?_ ?_ ?_ ?_
 ·simp
 ·rfl
 ·exact at_
 rintro⟨i,τ⟩ r ⟨h1,h2⟩;dsimp only at h1 h2;by_cases hi:i<l.length
 ·have hy:=h i hi (by omega);rw[aU,aU]at hy;repeat' first|refine ak ?_|refine aj ?_ ?_<;>intro hw<;>try omega|fail
  ·refine aN ?_ rfl;rw[tD hi hw (by omega)]
  ·refine⟨(i+1,τ++[.cells [I (l.getD i default).op,I (l.getD i default).v.kind,I (l.getD i default).v.n,.str (l.getD i default).v.s,.str (l.getD i default).s,.aG false EX ((l.getD i default).l.map aJ)]]++[.cells [I (m.getD i default).op,I (m.getD i default).v.kind,I (m.getD i default).v.n,.str (m.getD i default).v.s,.str (m.getD i default).s,.aG false EX ((m.getD i default).l.map aJ)]]),?_,?_,by first|rfl|(simp[go_sem];done),bK,at_⟩<;>(try dsimp only)
   ·exact⟨by omega,bx h2 hw⟩
   ·omega
 ·repeat' first|refine ak ?_|refine aj ?_ ?_<;>intro hw<;>try omega|fail
  refine aN ?_ rfl;rw[qR xJ (fun k hk=>h2 k (by omega))]
mutual
def pU: Expr->Expr->Bool
 | .mk o v s l,y=>decide (o=y.op) && decide (v=y.v) && decide (s=y.s) && Oo l y.l
def Oo: List Expr->List Expr->Bool
 | [],[]=>true
 | x::r,y::t=>pU x y && Oo r t
 | _,_=>false
end
def Hv: ∀(l m:List Expr),Oo l m=fm pU l m
 | [],[]=>rfl
 | [],_::_=>rfl
 | _::_,[]=>rfl
 | x::r,y::t=>by simp only[Oo,fm,Hv r t]
mutual
def F2: Expr->Prop
 | .mk _ _ _ l=>l.length<=2 ^ 60/\W1 l
def W1: List Expr->Prop
 | []=>True
 | x::r=>F2 x/\W1 r
end
def Fj{l:List Expr}{x:Expr}(h:W1 l)(hx:x ∈ l): F2 x:=by
 induction l with
 | nil=>cases hx
 | cons y r ih =>
   simp only[W1]at h;rcases List.mem_cons.1 hx with rfl|hx
   ·exact h.1
   ·exact ih h.2 hx
def ac0{l:List Expr}(h:∀ x ∈ l,F2 x): W1 l:=by
 induction l with
 | nil=>trivial
 | cons y r ih=>exact⟨h y (by simp),ih (fun x hx=>h x (da _ hx))⟩
def Jh(x:Expr): fE x<=2 ^ 60->F2 x:=by
 induction x using Expr.ind with
 | h op v s l ih =>
   intro h;simp only[fE]at h;have hl:=uE l;exact⟨by omega,ac0 (fun y hy=>ih y hy (by have:=sP hy;omega))⟩
def RR(x:Expr): ∀ y:Expr,F2 x->F2 y->aF aD 252 [aJ x,aJ y] (.bool (pU x y)):=by
 induction x using Expr.ind with
 | h op v s l ih =>
   rintro⟨op',v',s',m⟩ hx hy;simp only[F2]at hx hy;obtain⟨hl,PC⟩:=hx;obtain⟨hm,Wm⟩:=hy;have hc:=Ai 252 [] rfl pU l m (fun k h1 h2=>ih _ (aO h1) _ (Fj PC (aO h1)) (Fj Wm (aO h2))) (by omega) (by omega);rw[<-Hv]at hc;simp only[cH]at hc;obtain⟨vk,vn,vs⟩:=v;obtain⟨W2,W3,vs'⟩:=v';refine aK La ?_;intro Q aq au aA;repeat' first|refine ak ?_|refine aj ?_ ?_<;>intro hw<;>try omega|fail
   all_goals refine aN ?_ rfl
   all_goals (refine congrArg AV.bool ?_;simp only[pU,Expr.op,Expr.v,Expr.s,Expr.l])
   all_goals (rw[aW];simp_all)
def UL(x:Expr): ∀ y:Expr,F2 x->F2 y->aF aD 234 [aJ x,aJ y] (.bool (pU x y)):=by
 induction x using Expr.ind with
 | h op v s l ih =>
   rintro⟨op',v',s',m⟩ hx hy;simp only[F2]at hx hy;obtain⟨hl,PC⟩:=hx;obtain⟨hm,Wm⟩:=hy;have hc:∀ k,k<l.length->k<m.length->_:=fun k h1 h2=>ih _ (aO h1) (m.getD k default) (Fj PC (aO h1)) (Fj Wm (aO h2));obtain⟨vk,vn,vs⟩:=v;obtain⟨W2,W3,vs'⟩:=v'
   have hs:pU (.mk op ⟨vk,vn,vs⟩ s l) (.mk op' ⟨W2,W3,vs'⟩ s' m)=(decide (op=op') && decide ((⟨vk,vn,vs⟩:aH)=⟨W2,W3,vs'⟩) && decide (s=s') && fm pU l m):=by
    rw[<-Hv];rfl
   rw[hs];refine aK NU ?_;intro Q aq au aA;repeat' first|refine ak ?_|refine aj ?_ ?_<;>intro hw<;>try omega|fail
   ·refine aN ?_ rfl;rw[qQ (by omega),fc]
   ·have xJ:l.length=m.length:=by omega
    with_reducible refine aX [4,5,34,35,36,37,38,39,40,41,42,43,44,45,46,47,48,49,50,51,52] (fun i:Nat=>[(5,I i)]) (fun _=>[.cells [I op,I vk,I vn,.str vs,.str s,.aG false EX (l.map aJ)],.cells [I op',I W2,I W3,.str vs',.str s',.aG false EX (m.map aJ)]]) (fun i=>i<=l.length/\ ∀ k,k<i->pU (l.getD k default) (m.getD k default)=true) (fun i=>l.length-i) 0 ?_ ?_ ?_ ?_
    ·simp
    ·rfl
    ·exact at_
    rintro i r ⟨h1,h2⟩;by_cases hi:i<l.length
    ·have hy:=hc i hi (by omega);rw[aU,aU]at hy;repeat' first|refine ak ?_|refine aj ?_ ?_<;>intro hw<;>try omega|fail
     ·refine aN ?_ rfl;rw[tD hi hw (by omega),fc]
     ·refine⟨i+1,?_,?_,by first|rfl|(simp[go_sem];done),bK,at_⟩<;>(try dsimp only)
      ·exact⟨by omega,bx h2 hw⟩
      ·omega
    ·repeat' first|refine ak ?_|refine aj ?_ ?_<;>intro hw<;>try omega|fail
     refine aN ?_ rfl;rw[qR xJ (fun k hk=>h2 k (by omega))];simp_all
   ·refine aN ?_ rfl;rw[decide_eq_false (by assumption:¬ s=s'),fc,dO]
   ·refine aN ?_ rfl;refine congrArg AV.bool ?_;have:decide ((⟨vk,vn,vs⟩:aH)=⟨W2,W3,vs'⟩)=false:=by simp_all
    rw[this,fc,dO,dO]
   ·refine aN ?_ rfl;rw[decide_eq_false (by assumption:¬ op=op'),dO,dO,dO]
def Aj (fn : FuncId) (cap : List AV) (hcap : AV.bG cap = true) (p : Expr -> Bool) (l : List Expr) (h : ∀ k, k < l.length -> aF aD fn (aJ (l.getD k default) :: cap) (.bool (p (l.getD k default)))) (hl : l.length <= 2 ^ 62) :
    aF aD 263 [cH l,.fn (.func fn) [] cap] (I (iT p l)):=by
 refine aK xA ?_ (by simp[AV.cQ,AV.bG,hcap,qN]);intro Q aq au aA;repeat' first|refine ak ?_|refine aj ?_ ?_<;>intro hw<;>try omega|fail
 with_reducible refine aX [4,5,8,9,10,11,12,13,14,15,16,17,18] (fun i:Nat=>[(8,I i)]) (fun _=>[]) (fun i=>i<=l.length/\ ∀ k,k<i->p (l.getD k default)=false) (fun i=>l.length-i) (0) ?_ ?_ ?_ ?_
 ·simp
 ·rfl
 ·exact at_
 ·rintro i r ⟨hi,hp⟩;by_cases hin:i<l.length
  ·have hx:=h i hin;rw[aU]at hx;repeat' first|refine ak ?_|refine aj ?_ ?_<;>intro hw<;>try omega|fail
   ·refine aN ?_ rfl;refine congrArg I ?_;exact(lK hin hp hw).symm
   ·refine⟨i+1,?_,?_,by first|rfl|(simp[go_sem];done),bK,at_⟩<;>(try dsimp only)
    ·exact⟨by omega,bx hp hw⟩
    ·omega
  ·repeat' first|refine ak ?_|refine aj ?_ ?_<;>intro hw<;>try omega|fail
   refine aN ?_ rfl;refine congrArg I ?_;exact(kQ fun k hk=>hp k (by omega)).symm
def uF{α : Type}[Inhabited α](p : α->Bool)(l:List α): decide (0<=iT p l)=l.any p:=by
 rcases sv p l with⟨h1,h2⟩|⟨i,h1,h2,h3⟩
 ·rw[h1,show decide ((0:Int)<= -1)=false from(by decide)];symm;rw[List.any_eq_false];exact List.find?_eq_none.1 h2
 ·rw[h2,decide_eq_true (by omega)];symm;rw[List.any_eq_true];exact⟨_,aO h1,List.find?_some h3⟩
def xK (fn : FuncId) (cap : List AV) (hcap : AV.bG cap = true) (p : Expr -> Bool) (l : List Expr) (h : ∀ k, k < l.length -> aF aD fn (aJ (l.getD k default) :: cap) (.bool (p (l.getD k default)))) (hl : l.length <= 2 ^ 62) :
    aF aD 218 [cH l,.fn (.func fn) [] cap] (.bool (l.any p)):=by
 refine aK vp ?_ (by simp[AV.cQ,AV.bG,hcap,qN]);intro Q aq au aA;have hc:=Aj fn cap hcap p l h hl;simp only[cH]at hc;repeat' first|refine ak ?_|refine aj ?_ ?_<;>intro hw<;>try omega|fail
 all_goals refine aN ?_ rfl
 all_goals rw[<-uF]
def v0: aH:=⟨0,0,[]⟩
mutual
def dw: Expr->Bool
 | .mk op v s l => decide ((l.length : Int) = lB op) &&
    (if op=1 then decide (s=[]) && bp v && (decide (v.kind≠1) || decide (0<=v.n))
     else if op=2 then decide (v=v0) && jH s
     else decide (v=v0) && decide (s=[]) && rK l)
def rK: List Expr->Bool
 | []=>true
 | x::r=>dw x && rK r
end
def tE(l:List Expr): rK l = !(l.any fun x=> !(dw x)):=by
 induction l with
 | nil=>rfl
 | cons x r ih=>simp[rK,ih]
mutual
def iG: Expr->Prop
 | .mk _ v s l=>s.length<=2 ^ 62/\v.s.length<=2 ^ 62/\ -9223372036854775808<=v.n/\v.n<=9223372036854775807/\F3 l
def F3: List Expr->Prop
 | []=>True
 | x::r=>iG x/\F3 r
end
def Fk{l:List Expr}{x:Expr}(h:F3 l)(hx:x ∈ l): iG x:=by
 induction l with
 | nil=>cases hx
 | cons y r ih =>
   simp only[F3]at h;rcases List.mem_cons.1 hx with rfl|hx
   ·exact h.1
   ·exact ih h.2 hx
def Lg(x:Expr)(h:aF aD 169 [aJ x] (.bool (dw x))): aF aD 219 [aJ x] (.bool (!(dw x))):=by
 refine aK FL ?_;intro Q aq au aA;rw[aU]at h ⊢;repeat' first|refine ak ?_|refine aj ?_ ?_<;>intro hw<;>try omega|fail
 all_goals refine aN ?_ rfl
 all_goals simp_all
def PD(x:Expr): iG x->fE x<=2 ^ 60->aF aD 169 [aJ x] (.bool (dw x)):=by
 induction x using Expr.ind with
 | h op v s l ih =>
   intro hx hz;simp only[fE]at hz;simp only[iG]at hx;obtain⟨o1,o2,o3,o4,o5⟩:=hx;have hl:=uE l;have hc:=xK 219 [] rfl (fun x=> !(dw x)) l (fun k h1=>Lg _ (ih _ (aO h1) (Fk o5 (aO h1)) (by have:=sP (aO h1);omega))) (by omega);simp only[cH]at hc;obtain⟨vk,vn,vs⟩:=v;refine aK I2 ?_;intro Q aq au aA;repeat' first|refine ak ?_|refine cW (PB _) ?_|refine cW (jT _ _ _ o3 o4) ?_|refine cW (xF _ o1) ?_|refine aj ?_ ?_<;>intro hw<;>try omega|fail
   all_goals refine aN ?_ rfl
   all_goals (refine congrArg AV.bool ?_;simp only[dw,tE])
   all_goals (rw[aW];simp_all[v0,iz])
def xL(x:Expr)(hx:iG x)(hz:fE x<=2 ^ 60): aF aD 117 [aJ x] (I (iz (dw x))):=by
 refine aK IZ ?_;intro Q aq au aA;have h:=PD x hx hz;rw[aU]at h ⊢;repeat' first|refine ak ?_|refine aj ?_ ?_<;>intro hw<;>try omega|fail
 all_goals refine aN ?_ rfl
 all_goals simp_all[iz]
def W4{l:List Expr}{i:Nat}(hi:i<l.length)(h:dw (l.getD i default)=false): rK l=false:=by
 rw[tE,D4 hi (by rw[h];rfl)];rfl
def UM{l:List Expr}(h:∀ k,k<l.length->dw (l.getD k default)=true): rK l=true:=by
 rw[tE,Ag (fun k hk=>by rw[h k hk];rfl)];rfl
def zh(x:Expr): iG x->fE x<=2 ^ 60->aF aD 143 [aJ x] (.bool (dw x)):=by
 induction x using Expr.ind with
 | h op v s l ih =>
   intro hx hz;simp only[fE]at hz;simp only[iG]at hx;obtain⟨o1,o2,o3,o4,o5⟩:=hx;have hl:=uE l;have hc:∀ k,k<l.length->_:=fun k h1=>ih _ (aO h1) (Fk o5 (aO h1)) (by have:=sP (aO h1);omega);obtain⟨vk,vn,vs⟩:=v;refine aK KX ?_;intro Q aq au aA;repeat' first|refine ak ?_|refine cW (RQ _) ?_|refine cW (pB _ _ _ o2) ?_|refine cW (wC _ o1) ?_|refine aj ?_ ?_<;>intro hw<;>try omega|fail
   all_goals try (refine aN ?_ rfl;refine congrArg AV.bool ?_;simp only[dw];rw[aW];simp_all[v0];done)
   with_reducible refine aX [2,3,46,47,48,49,50,51,52,53,54,55,56,57,58,59] (fun i:Nat=>[(3,I i)]) (fun _=>[.cells [I op,I vk,I vn,.str vs,.str s,.aG false EX (l.map aJ)]]) (fun i=>i<=l.length/\ ∀ k,k<i->dw (l.getD k default)=true) (fun i=>l.length-i) 0 ?_ ?_ ?_ ?_
   ·simp
   ·rfl
   ·exact at_
   ·rintro i r ⟨h1,h2⟩;by_cases hi:i<l.length
    ·have hy:=hc i hi;rw[aU]at hy;repeat' first|refine ak ?_|refine aj ?_ ?_<;>intro hw<;>try omega|fail
     ·refine aN ?_ rfl;refine congrArg AV.bool ?_;simp only[dw];rw[W4 hi (by assumption)];simp_all
     ·refine⟨i+1,?_,?_,by first|rfl|(simp[go_sem];done),bK,at_⟩<;>(try dsimp only)
      ·exact⟨by omega,bx h2 hw⟩
      ·omega
    ·repeat' first|refine ak ?_|refine aj ?_ ?_<;>intro hw<;>try omega|fail
     all_goals refine aN ?_ rfl
     all_goals refine congrArg AV.bool ?_
     all_goals simp only[dw]
     all_goals rw[UM (fun k hk=>h2 k (by omega))]
     all_goals (rw[aW];simp_all[v0])
def bZ {v r : AV} {n6 ds : List AV} {τ : ae} (hv : View (.dead :: τ) v r) (hd : bn (.dead :: τ) n6 ds) :
    ∃ r0 vW tq,Out.ret (oneOf [v])=Out.ret r0/\bE.cells n6:: τ = bE.cells vW::tq/\View (.dead::tq) r0 r/\bn (.dead::tq) vW ds:=⟨_,_,_,rfl,rfl,hv,hd⟩
def x0: Expr:= .mk 0 v0 [] []
def D6(T:List cg)(p:Nat)(b:Bool): cg:=if b then default else T.getD p default
def jA(T:List cg)(p:Nat)(k:Int)(s:aS): Bool:=decide (p<T.length) && (decide ((T.getD p default).kind=k) && decide ((T.getD p default).s=s))
def eG(T:List cg)(p:Nat)(b:Bool)(k:Int)(s:aS): Bool:= !b && jA T p k s
def mj(x:Ah): Int:=if x.level<3 then 1 else 4
def uf(T:List cg)(p:Nat)(b:Bool)(lvl:Int): Option Ah:=jz.find? fun x=>x.level==lvl && eG T p b (mj x) x.sign
def Mr(T:List cg)(p:Nat)(b:Bool)(lvl:Int): Nat:=if(uf T p b lvl).isSome then p+1 else p
def D7(o:Option Ah): Int:=match o with
 | some x=>x.op
 | none=>0
def bn.eqv{σ : ae}{a b:List AV}(h:a=b)(hp:AV.bG b=true): bn σ a b:=by subst h;exact bn.refl hp
def qS(s:aS): Option aH:=if s=[110,117,108,108]then some v0 else if s=[102,97,108,115,101]then some ⟨3,0,[]⟩else if s=[116,114,117,101]then some ⟨3,1,[]⟩else none
structure RS where
 x:Expr
 p:Nat
 bad:Bool
deriving Inhabited
def bN(T:List cg)(p:Nat)(b:Bool): List AV:=[.aG false ET (T.map lT),I p,.bool b]
attribute [go_sem] bN
def aT(T:List cg)(p:Nat)(b:Bool): AV.bG (bN T p b)=true:=by simp[bN,AV.cQ,AV.bG,Ja]
def qh{α : Type}[Inhabited α]{l:List α}{i:Nat}(h:l.length<=i): l.getD i default=default:=by
 rw[aB,fQ h];rfl
def UN: (default:cg)=⟨0,[],0,0⟩:=rfl
def abi(T:List cg)(p:Nat)(b:Bool)(k:Int)(s:aS)(hk:k≠0): eG T p b k s=(decide ((D6 T p b).kind=k) && decide ((D6 T p b).s=s)):=by
 unfold eG D6 jA;cases b with
 | true=>simp[UN];intro h;exact absurd h.symm hk
 | false =>
   by_cases hp:p<T.length
   ·simp[hp]
   ·rw[qh (by omega)];simp[hp,UN];intro h;exact absurd h.symm hk
def Ji(T:List cg)(p:Nat)(b:Bool): br aD 275 0 [] (bN T p b) (bN T p b) (lT (D6 T p b)):=by
 refine br.bM (Bn.go ?_) rfl (aT _ _ _);unfold cj;intro Q aq au aA;cases b with
 | true =>
   repeat' first|refine ak ?_|refine aj ?_ ?_<;>intro hw<;>try omega|fail
   exact bZ (View.eqv rfl rfl) (bn.refl (aT T p true))
 | false =>
   by_cases hp:p<T.length
   ·repeat' first|refine ak ?_|refine aj ?_ ?_<;>intro hw<;>try omega|fail
    refine bZ (View.eqv ?_ rfl) (bn.refl (aT T p false));simp only[D6];rfl
   ·repeat' first|refine ak ?_|refine aj ?_ ?_<;>intro hw<;>try omega|fail
    refine bZ (View.eqv ?_ rfl) (bn.refl (aT T p false));simp only[D6];rw[qh (by omega)];rfl
def oS(T:List cg)(p:Nat)(b:Bool)(k:Int)(s:aS): Nat:=if eG T p b k s then p+1 else p
def D8(T:List cg)(p:Nat)(b:Bool)(k:Int)(s:aS)(hk:k≠0)(hp:p<=2 ^ 61): br aD 254 0 [I k,.str s] (bN T p b) (bN T (oS T p b k s) b) (.bool (eG T p b k s)):=by
 have hn:=Ji T p b;unfold oS;rw[abi T p b k s hk];generalize D6 T p b=t at hn ⊢;obtain⟨tk,ts,tn,tp⟩:=t;simp only[bN,lT]at hn;refine br.bM (C2.go ?_) rfl (aT _ _ _);unfold cj;intro Q aq au aA;repeat' first|refine ak ?_|refine bh hn ?_|refine aj ?_ ?_<;>intro hw<;>try omega|fail
 all_goals first
  |(refine bZ (View.eqv ?_ rfl) (bn.eqv ?_ (aT _ _ _))<;>simp_all[bN];done)
def zi(T:List cg)(p:Nat)(b:Bool)(k:Int)(s:aS)(hk:k≠0)(hp:p<=2 ^ 61): br aD 276 0 [I k,.str s] (bN T p b) (bN T (oS T p b k s) (b || !(eG T p b k s))) (.bJ []):=by
 have hn:=D8 T p b k s hk hp;generalize eG T p b k s=o at hn ⊢;simp only[bN]at hn;refine br.bM (Af.go ?_) rfl (aT _ _ _);unfold cj;intro Q aq au aA;cases o
 ·repeat' first|refine ak ?_|refine bh hn ?_|refine aj ?_ ?_<;>intro hw<;>try omega|fail
  refine tj rfl (bn.eqv ?_ (aT _ _ _));simp[bN]
 ·repeat' first|refine ak ?_|refine bh hn ?_|refine aj ?_ ?_<;>intro hw<;>try omega|fail
  refine tj rfl (bn.eqv ?_ (aT _ _ _));simp[bN]
def PE(s:aS): aF aD 277 [.str s] (.bJ [bD ((qS s).getD v0),.bool (qS s).isSome]):=by
 refine aK Le ?_;intro Q aq au aA;repeat' first|refine ak ?_|refine aj ?_ ?_<;>intro hw<;>try omega|fail
 all_goals refine bt ?_ rfl
 all_goals simp_all[qS,bD,v0]
def Cz(T:List cg)(p:Nat)(b:Bool)(lvl:Int)(hp:p<=2 ^ 61): br aD 257 0 [I lvl] (bN T p b) (bN T (Mr T p b lvl) b) (I (D7 (uf T p b lvl))):=by
 refine br.bM (yh.go ?_) rfl (aT _ _ _);unfold cj;intro Q aq au aA;have hl:jz.length=12:=rfl;have ho:=fun k s (hk:k≠0)=>D8 T p b k s hk hp;simp only[bN]at ho;repeat' first|refine ak ?_|refine cW yK ?_|refine aj ?_ ?_<;>intro hw<;>try omega|fail
 with_reducible refine aX [4,6,7,10,11,12,13,14,15,16,17,18,19,20,21,22,23,24,25,26,27,28,29,30] (fun q:Nat × List bE=>[(10,I q.1)]) (fun q=> .cells [.aG false ET (T.map lT),I p,.bool b]::q.2) (fun q=>q.1<=12/\ ∀ k,k<q.1->((jz.getD k default).level==lvl && eG T p b (mj (jz.getD k default)) (jz.getD k default).sign)=false) (fun q=>12-q.1) (0,[]) ?_ ?_ ?_ ?_
 ·simp
 ·rfl
 ·exact at_
 rintro⟨i,τ⟩ r ⟨h1,h2⟩;dsimp only at h1 h2;by_cases hi:i<12
 ·obtain⟨x,hx⟩:∃ x,jz.getD i default=x:=⟨_,rfl⟩
  have hyes:(x.level==lvl && eG T p b (mj x) x.sign)=true->uf T p b lvl=some x:=fun h=>by
   unfold uf;rw[sO (p:=fun y:Ah=>y.level==lvl && eG T p b (mj y) y.sign) hi h2 (by rw[hx];exact h),hx]
  have Lh:(x.level==lvl && eG T p b (mj x) x.sign)=false-> ∀ k,k<i+1->((jz.getD k default).level==lvl && eG T p b (mj (jz.getD k default)) (jz.getD k default).sign)=false:=fun h=>bx h2 (by rw[hx];exact h);have iX:(x.level<3/\mj x=1)\/(¬ x.level<3/\mj x=4):=by unfold mj;split<;>simp_all
  clear h2;rcases iX with⟨hlv,W5⟩|⟨hlv,W5⟩;all_goals rw[W5]at hyes Lh
  all_goals (
   repeat' first|simp (disch:=omega) only[go_sem,aq,au,aA,hx]|refine ak ?_|with_reducible refine KA (ho 1 _ (by decide)) rfl ?_|with_reducible refine KD (ho 1 _ (by decide)) rfl ?_|with_reducible refine KE (ho 1 _ (by decide)) rfl ?_|with_reducible refine KA (ho 4 _ (by decide)) rfl ?_|with_reducible refine KD (ho 4 _ (by decide)) rfl ?_|with_reducible refine KE (ho 4 _ (by decide)) rfl ?_|refine aj ?_ ?_<;>intro hw<;>try omega|fail
   ·rename_i _ hlq;have hy:=hyes (by rw[hlq,hw];simp);refine bZ (View.eqv ?_ rfl) (bn.eqv ?_ (aT _ _ _))
    ·rw[hy];rfl
    ·simp[bN,Mr,hy,oS,hw]
   ·rename_i hlq;refine⟨(i+1,τ++[.cells [I x.op,.str x.sign,I x.level]]),?_,?_,?_,bK,at_⟩<;>(try dsimp only)
    ·exact⟨by omega,Lh (by rw[hw];simp)⟩
    ·omega
    ·simp[oS,hw]
   ·refine⟨(i+1,τ++[.cells [I x.op,.str x.sign,I x.level]]),?_,?_,?_,bK,at_⟩<;>(try dsimp only)
    ·exact⟨by omega,Lh (by rw[beq_eq_false_iff_ne.2 hw];rfl)⟩
    ·omega)
 ·have hno : uf T p b lvl = none := by
   unfold uf;rw[qg (p:=fun y:Ah=>y.level==lvl && eG T p b (mj y) y.sign) (fun k hk=>h2 k (by omega))]
  repeat' first|refine ak ?_|refine aj ?_ ?_<;>intro hw<;>try omega|fail
  refine bZ (View.eqv ?_ rfl) (bn.eqv ?_ (aT _ _ _))<;>simp_all[bN,D7,Mr]
