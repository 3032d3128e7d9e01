/- Part. -/
import Derived.Test.YtmbgnaoilncbnaaGreatDoorX17
set_option linter.all false
namespace Go.Proofs.YtmbgnaoilncbnaaGreatDoor
open Go.AM
set_option maxRecDepth 4000
def Li{s:aJ}{p:UInt8->Bool}{i:Nat}(hi:i<s.length)(hp:p (s.getD i 0)=false): s.all p=false:=by
 rw[List.all_eq_false];refine⟨s.getD i 0,?_,ne_true_of_eq_false hp⟩;rw[aE,aQ hi];exact fY hi
def YS{s:aJ}{p:UInt8->Bool}(h:∀ k,k<s.length->p (s.getD k 0)=true): s.all p=true:=by
 rw[bx];intro x hx;obtain⟨k,hk,rfl⟩:=bW hx;have:=h k hk;rwa[aE,aQ hk]at this
def B6(c:UInt8): kz c=true↔32<=c.toNat/\c.toNat<=126:=by simp[kz]
def vt(c:UInt8): kz c=false↔c.toNat<32\/126<c.toNat:=by
 rw[<-dL,B6];omega
def XM(s:aJ): ai Tryz.prog AP [.str s] (.bool (kX s)):=by
 refine ai.aG (R5 (by simp) ?_) rfl;unfold Jc aP;intro Q au aA aB;repeat' first|refine aq ?_|refine ak ?_ ?_<;>intro hw<;>try omega|fail
 ·refine aM ?_ rfl;simp only[kX];rw[decide_eq_false (by omega),dH]
 with_reducible refine bn [2,4,10,11,12,13,14,15,16,17,18] (fun i:Nat=>[]) (fun i=>[.iY s i]) (fun i=>i<=s.length/\ ∀ k,k<i->kz (s.getD k 0)=true) (fun i=>s.length-i) 0 ?_ ?_ ?_ ?_
 ·simp
 ·rfl
 ·exact at_
 rintro i r ⟨h1,h2⟩;by_cases hi:i<s.length
 ·by_cases ha:(s.getD i 0).toNat<128
  ·repeat' first|refine aq ?_|refine ak ?_ ?_<;>intro hw<;>try omega|fail
   ·refine aM ?_ rfl;simp only[kX];rw[Li (p:=kz) hi ((vt _).2 (.inr (by omega))),eA]
   ·refine⟨i+1,?_,?_,by first|rfl|(simp[go_sem];done),bJ,at_⟩<;>(try dsimp only)
    ·exact⟨by omega,bf h2 ((B6 _).2 ⟨by omega,by omega⟩)⟩
    ·omega
   ·refine aM ?_ rfl;simp only[kX];rw[Li (p:=kz) hi ((vt _).2 (.inl (by omega))),eA]
  ·have hw2:=Xz hi (by omega);repeat' first|refine aq ?_|refine ak ?_ ?_<;>intro hw<;>try omega|fail
   all_goals refine aM ?_ rfl
   all_goals (simp only[kX];rw[Li (p:=kz) hi ((vt _).2 (.inr (by omega))),eA])
 ·have:i=s.length:=by omega
  repeat' first|refine aq ?_|refine ak ?_ ?_<;>intro hw<;>try omega|fail
  refine aM ?_ rfl;simp only[kX];rw[decide_eq_true (by omega),YS (fun k hk=>h2 k (by omega))];rfl
def XN(s:aJ)(hs:s.length<=2 ^ 62): ai Tryz.prog AZ [.str s] (.bool (kX s)):=by
 refine ai.aG (Sc (by simp) ?_) rfl;unfold Jl aP;intro Q au aA aB;repeat' first|refine aq ?_|refine ak ?_ ?_<;>intro hw<;>try omega|fail
 with_reducible refine bn [2,3,4,5,6,7,8,9,10,11,12,13,14,15,16,17,18,19] (fun i:Nat=>[(3,I i)]) (fun i=>[]) (fun i=>i<=s.length/\ ∀ k,k<i->kz (s.getD k 0)=true) (fun i=>s.length-i) (0) ?_ ?_ ?_ ?_
 ·simp
 ·rfl
 ·exact at_
 rintro i r ⟨h1,h2⟩;by_cases hi:i<s.length
 ·repeat' first|refine aq ?_|refine ak ?_ ?_<;>intro hw<;>try omega|fail
  ·refine aM ?_ rfl;simp only[kX];rw[Li (p:=kz) hi ((vt _).2 (.inr (by omega))),eA]
  ·refine⟨i+1,?_,?_,by first|rfl|(simp[go_sem];done),bJ,at_⟩<;>(try dsimp only)
   ·exact⟨by omega,bf h2 ((B6 _).2 ⟨by omega,by omega⟩)⟩
   ·omega
  ·refine aM ?_ rfl;simp only[kX];rw[Li (p:=kz) hi ((vt _).2 (.inl (by omega))),eA]
 ·repeat' first|refine aq ?_|refine ak ?_ ?_<;>intro hw<;>try omega|fail
  refine aM ?_ rfl;simp only[kX];rw[YS (fun k hk=>h2 k (by omega)),Bool.and_true];refine congrArg AV.bool ?_;rw[aV,decide_eq_true_eq,decide_eq_true_eq];omega
def OD(n:Int)(s:aJ): bL ⟨0,n,s⟩=(decide (n=0) && decide (s=[])):=rfl
def OE(n:Int)(s:aJ): bL ⟨1,n,s⟩=decide (s=[]):=rfl
def OG(n:Int)(s:aJ): bL ⟨2,n,s⟩=(decide (n=0) && kX s):=rfl
def OH(n:Int)(s:aJ): bL ⟨3,n,s⟩=(decide (s=[]) && (decide (n=0) || decide (n=1))):=rfl
def VZ(k n:Int)(s:aJ)(h0:k≠0)(h1:k≠1)(h2:k≠2)(h3:k≠3): bL ⟨k,n,s⟩=false:=by
 simp[bL,h0,h1,h2,h3]
def mX(b:Bool): Int:=if b then 0 else 2
def aac(x:BitVec 64): x &&& ~~~ 1#64=0#64↔x=0#64\/x=1#64:=by
 constructor
 ·intro h
  have hb:∀ i,1<=i->i<64->x.getLsbD i=false:=fun i h1 h2=>by
   have:=congrArg (fun y=>BitVec.getLsbD y i) h
   have h3:(1#64).getLsbD i=false:=by
    rw[BitVec.getLsbD_one];simp;omega
   simp only[BitVec.getLsbD_and,BitVec.getLsbD_not,h3,h2,decide_true,gk,Bool.and_true,BitVec.getLsbD_zero]at this;exact this
  cases h0:x.getLsbD 0 with
  | false =>
    left;apply BitVec.eq_of_getLsbD_eq;intro i hi;by_cases hz:i=0
    ·subst hz;rw[h0];rfl
    ·rw[hb i (by omega) hi];simp
  | true =>
    right;apply BitVec.eq_of_getLsbD_eq;intro i hi;by_cases hz:i=0
    ·subst hz;rw[h0];rfl
    ·rw[hb i (by omega) hi,BitVec.getLsbD_one];simp[hz]
 ·rintro(rfl|rfl)<;>decide
def XO(m:Nat)(h:m<18446744073709551616): IntKind.wrap .i64 m=0↔m=0:=by
 simp only[IntKind.wrap,IntKind.bits,IntKind.signed];simp;omega
def ajW(n:Int)(h : -9223372036854775808<=n)(h':n<=9223372036854775807): cU .andNot .i64 n 1=0↔n=0\/n=1:=by
 rw[kf];show IntKind.wrap .i64 ((BitVec.ofInt 64 n &&& ~~~ BitVec.ofInt 64 1).toNat:Int)=0↔_;rw[XO _ (BitVec.isLt _)]
 have h1:(BitVec.ofInt 64 n &&& ~~~ BitVec.ofInt 64 1).toNat=0↔BitVec.ofInt 64 n &&& ~~~ 1#64=0#64:=by
  rw[<-BitVec.toNat_inj];rfl
 rw[h1,aac,<-BitVec.toNat_inj,<-BitVec.toNat_inj];simp only[BitVec.toNat_ofInt,BitVec.toNat_ofNat];omega
def nc(k n:Int)(s:aJ)(h : -9223372036854775808<=n)(h':n<=9223372036854775807): ai Tryz.prog kL [.agg [I k,I n,.str s]] (I (mX (bL ⟨k,n,s⟩))):=by
 refine ai.aG (RV (by simp) ?_) rfl;unfold I4 aP;intro Q au aA aB;repeat' first|refine aq ?_|refine aC (XM _) ?_|refine ak ?_ ?_<;>intro hw<;>try omega|fail
 all_goals refine aM ?_ rfl
 all_goals (refine congrArg I ?_;unfold mX;try rw[ajW n h h']at hw)
 all_goals (try subst k)
 all_goals first
  |(rw[if_neg (by rw[OD];simp_all)];done)
  |(rw[if_pos (by rw[OD];simp_all)];done)
  |(rw[if_neg (by rw[OE];simp_all)];done)
  |(rw[if_pos (by rw[OE];simp_all)];done)
  |(rw[if_neg (by rw[OG];simp_all)];done)
  |(rw[if_pos (by rw[OG];simp_all)];done)
  |(rw[if_neg (by rw[OH];simp_all)];done)
  |(rw[if_pos (by rw[OH];simp_all)];done)
  |(rw[if_neg (by rw[VZ _ _ _ (by assumption) (by assumption) (by assumption) (by assumption)];simp)])
def rN(k n:Int)(s:aJ)(hs:s.length<=2 ^ 62): ai Tryz.prog oe [.agg [I k,I n,.str s]] (.bool (bL ⟨k,n,s⟩)):=by
 refine ai.aG (R0 (by simp) ?_) rfl;unfold Ja aP;intro Q au aA aB;repeat' first|refine aq ?_|refine aC (XN _ hs) ?_|refine ak ?_ ?_<;>intro hw<;>try omega|fail
 all_goals refine aM ?_ rfl
 all_goals (refine congrArg AV.bool ?_;try subst k)
 all_goals first
  |(rw[OD];rw[aV];simp_all;done)
  |(rw[OE];rw[aV];simp_all;done)
  |(rw[OG];rw[aV];simp_all;done)
  |(rw[OH];rw[aV];simp_all;done)
  |(rw[VZ _ _ _ (by assumption) (by assumption) (by assumption) (by assumption)])
structure GJ where
 op:Int
 sign:aJ
 level:Int
deriving Inhabited,DecidableEq
def V5(b:GJ): AV:= .agg [I b.op,.str b.sign,I b.level]
attribute [go_sem] V5
def gO: List GJ:=[⟨4,[43],4⟩,⟨5,[45],4⟩,⟨6,[42],5⟩,⟨7,[47],5⟩,⟨8,[61],3⟩,⟨9,[33,61],3⟩,⟨10,[60],3⟩,⟨11,[60,61],3⟩,⟨12,[62],3⟩,⟨13,[62,61],3⟩,⟨14,[97,110,100],2⟩,⟨15,[111,114],1⟩]
def cV(op:Int): GJ:=(gO.find? fun b=>b.op==op).getD ⟨0,[],0⟩
def jJ(op:Int): Int:=if op=1\/op=2 then 0 else if op=3 then 1 else if op=16 then 3 else if 0<(cV op).level then 2 else -1
def dc(op:Int): Int:=if op=16 then 0 else if op=3 then 6 else if op=1\/op=2 then 7 else(cV op).level
def B8(op:Int)(h:op<4\/15<op): cV op=⟨0,[],0⟩:=by
 have:gO.find? (fun b=>b.op==op)=none:=by
  rw[dG];intro b hb;simp only[gO,List.mem_cons,List.not_mem_nil,or_false]at hb;rcases hb with rfl|rfl|rfl|rfl|rfl|rfl|rfl|rfl|rfl|rfl|rfl|rfl<;>(simp only[beq_iff_eq];omega)
 simp[cV,this]
def Qo(op:Int)(h1:4<=op)(h2:op<=15): (cV op).sign≠[]/\0<(cV op).level:=by
 have:op=4\/op=5\/op=6\/op=7\/op=8\/op=9\/op=10\/op=11\/op=12\/op=13\/op=14\/op=15:=by omega
 rcases this with rfl|rfl|rfl|rfl|rfl|rfl|rfl|rfl|rfl|rfl|rfl|rfl<;>decide
def aad(op:Int): (cV op).sign=[]↔¬ 0<(cV op).level:=by
 by_cases h:4<=op/\op<=15
 ·have:=Qo op h.1 h.2;simp[this.1];omega
 ·rw[B8 op (by omega)];simp
def EY: ai Tryz.prog pB [] (.aK false ⟨true,3⟩ (gO.map V5)):=by
 refine ai.aG (KV (by simp) ?_) rfl;unfold By aP;intro Q au aA aB;repeat' first|refine aq ?_|refine ak ?_ ?_<;>intro hw<;>try omega|fail
 all_goals exact PN (View.weak _ _ _ (by simp))
def Fx(op:Int): ai Tryz.prog qX [I op] (V5 (cV op)):=by
 refine ai.aG (RZ (by simp) ?_) rfl;unfold I_ aP;intro Q au aA aB;have hl:gO.length=12:=rfl;repeat' first|refine aq ?_|refine aC EY ?_|refine ak ?_ ?_<;>intro hw<;>try omega|fail
 with_reducible refine bn [4,7,8,9,10,11,12,13,14,15,16] (fun p:Nat × List aX=>[(7,I p.1)]) (fun p=> .cells [I 0,.str [],I 0]::p.2) (fun p=>p.1<=12/\ ∀ k,k<p.1->((gO.getD k default).op==op)=false) (fun p=>12-p.1) (0,[]) ?_ ?_ ?_ ?_
 ·simp
 ·rfl
 ·exact at_
 rintro⟨i,τ⟩ r ⟨h1,h2⟩;dsimp only at h1 h2;by_cases hi:i<12
 ·repeat' first|refine aq ?_|refine ak ?_ ?_<;>intro hw<;>try omega|fail
  ·refine aM ?_ rfl
   have:cV op=gO.getD i default:=by
    unfold cV;rw[wN (p:=fun b:GJ=>b.op==op) hi h2 (by simpa using hw)];rfl
   rw[this];try rfl
  ·refine⟨(i+1,τ++[.cells [I (gO.getD i default).op,.str (gO.getD i default).sign,I (gO.getD i default).level]]),?_,?_,by first|rfl|(simp[go_sem];done),bJ,at_⟩<;>(try dsimp only)
   ·exact⟨by omega,bf h2 (by simpa using hw)⟩
   ·omega
 ·repeat' first|refine aq ?_|refine ak ?_ ?_<;>intro hw<;>try omega|fail
  refine aM ?_ rfl
  have:cV op=⟨0,[],0⟩:=by
   unfold cV;rw[wk (p:=fun b:GJ=>b.op==op) (fun k hk=>h2 k (by omega))];rfl
  rw[this];try rfl
def HQ(op:Int): ai Tryz.prog sP [I op] (.str (cV op).sign):=by
 refine ai.aG (Uw (by simp) ?_) rfl;unfold KU aP;intro Q au aA aB;repeat' first|refine aq ?_|refine ak ?_ ?_<;>intro hw<;>try omega|fail
 all_goals refine aM ?_ rfl
 all_goals (try subst op)
 all_goals first|rfl|(rw[B8 op (by omega)])
def Nn(op:Int): ai Tryz.prog vM [I op] (I (dc op)):=by
 refine ai.aG (R7 (by simp) ?_) rfl;unfold Jf aP;intro Q au aA aB;repeat' first|refine aq ?_|refine ak ?_ ?_<;>intro hw<;>try omega|fail
 all_goals refine aM ?_ rfl
 all_goals (try subst op)
 all_goals (refine congrArg I ?_)
 all_goals first|rfl|decide|skip
 by_cases h16:op=16
 ·subst h16;rfl
 ·unfold dc;rw[if_neg h16,if_neg (by assumption),if_neg (by omega),B8 op (by omega)]
def V6(op:Int): ai Tryz.prog y2 [I op] (I (jJ op)):=by
 refine ai.aG (P6 (by simp) ?_) rfl;unfold Gu aP;intro Q au aA aB;repeat' first|refine aq ?_|refine aC (Fx _) ?_|refine ak ?_ ?_<;>intro hw<;>try omega|fail
 all_goals refine aM ?_ rfl
 all_goals (refine congrArg I ?_;unfold jJ)
 all_goals first|(simp_all;done)
def XP(op:Int): ai Tryz.prog AY [I op] (I (jJ op)):=by
 refine ai.aG (R6 (by simp) ?_) rfl;unfold Je aP;intro Q au aA aB;repeat' first|refine aq ?_|refine aC (HQ _) ?_|refine ak ?_ ?_<;>intro hw<;>try omega|fail
 all_goals refine aM ?_ rfl
 all_goals (refine congrArg I ?_;unfold jJ)
 all_goals (try rw[aad]at hw)
 all_goals first|(simp_all;done)|(rw[if_neg (by omega),if_neg (by omega),if_neg (by omega),if_pos (by omega)])|(rw[if_neg (by omega),if_neg (by omega),if_neg (by omega),if_neg (by omega)])
mutual
def i_: Expr->Nat
 | .mk _ _ _ l=>kB l+1
def kB: List Expr->Nat
 | []=>0
 | x::r=>Nat.max (i_ x) (kB r)
end
mutual
def eK: Expr->Nat
 | .mk _ _ _ l=>nD l+1
def nD: List Expr->Nat
 | []=>0
 | x::r=>eK x+nD r
end
def zk(l:List Expr): l.length<=nD l:=by
 induction l with
 | nil=>simp[nD]
 | cons x r ih=>cases x;simp only[nD,eK,List.length_cons];omega
def wO{l:List Expr}{x:Expr}(h:x ∈ l): eK x<=nD l:=by
 induction l with
 | nil=>cases h
 | cons y r ih =>
   simp only[nD];rcases List.mem_cons.1 h with rfl|h
   ·omega
   ·have:=ih h;omega
def aeF: ∀ x,i_ x<=eK x:=by
 intro x
 induction x using Expr.ind with
 | h op v s l ih =>
   simp only[i_,eK]
   have:kB l<=nD l:=by
    clear op v s
    induction l with
    | nil=>simp[kB]
    | cons y r ih2 =>
      simp only[kB,nD];have h1:=ih y (by simp);have h2:=ih2 (fun z hz=>ih z (cZ _ hz));exact Nat.max_le.2 ⟨by omega,by omega⟩
   omega
def aae(l:List Expr)(x:Expr): kB (l++[x])=Nat.max (kB l) (i_ x):=by
 induction l with
 | nil=>simp only[List.nil_append,kB];exact Nat.max_comm _ _
 | cons y r ih=>simp only[fx,kB,ih];exact(Nat.max_assoc _ _ _).symm
def take_succ{α : Type}[Inhabited α]{l:List α}{k:Nat}(h:k<l.length): l.take (k+1)=l.take k++[l.getD k default]:=by
 rw[List.take_succ_eq_append_getElem h,aE,aQ h];rfl
def HR{l:List Expr}{k:Nat}(h:k<l.length): kB (l.take (k+1))=Nat.max (kB (l.take k)) (i_ (l.getD k default)):=by
 rw[take_succ h,aae]
def HS(l:List Expr)(k:Nat): kB (l.take k)<=nD l:=by
 have:∀ l:List Expr,kB l<=nD l:=fun l=>by
  have:=aeF (.mk 0 default [] l);simp only[i_,eK]at this;omega
 refine cD (this _) ?_
 induction l generalizing k with
 | nil=>simp[nD]
 | cons x r ih => cases k with
   | zero=>simp[nD]
   | succ k=>simp only[List.take_succ_cons,nD];have:=ih k;omega
def Fy(x:Expr)(hx:eK x<=2 ^ 60): ai Tryz.prog mA [aL x] (I (i_ x)):=by
 induction x using Expr.ind with
 | h op v s l ih =>
   simp only[eK]at hx;have hlen:=zk l
   have hih:∀ k,k<l.length->ai Tryz.prog mA [aL (l.getD k default)] (I (i_ (l.getD k default))):=fun k hk =>
    ih _ (a_ hk) (by have:=wO (a_ hk);omega)
   refine ai.aG (RT (by simp) ?_) (by simp);unfold I2 aP;intro Q au aA aB;repeat' first|refine aq ?_|refine ak ?_ ?_<;>intro hw<;>try omega|fail
   with_reducible refine bn [3,5,9,10,11,12,13,14,15,16,17] (fun p:Nat × List aX=>[(9,I p.1),(3,I (kB (l.take p.1)))]) (fun p=> .cells [I op,I v.kind,I v.n,.str v.s,.str s,.aK false EX (l.map aL)]::p.2) (fun p=>p.1<=l.length) (fun p=>l.length-p.1) (0,[]) ?_ ?_ ?_ ?_
   ·simp
   ·rfl
   ·exact at_
   rintro⟨i,τ⟩ r h1;dsimp only at h1;by_cases hi:i<l.length
   ·have hy:=hih i hi
    have ajX:(if((kB (l.take i):Nat):Int)<((i_ (l.getD i default):Nat):Int)then ((i_ (l.getD i default):Nat):Int)else ((kB (l.take i):Nat):Int))=((kB (l.take (i+1)):Nat):Int):=by
     rw[HR hi];show _=((max (kB (l.take i)) (i_ (l.getD i default)):Nat):Int);by_cases hm:kB (l.take i)<=i_ (l.getD i default)
     ·rw[Nat.max_eq_right hm];split<;>omega
     ·rw[Nat.max_eq_left (by omega)];split<;>omega
    rw[aR]at hy;repeat' first|simp (disch:=omega) only[go_sem,au,aA,aB,ajX]|refine aq ?_|refine aC hy ?_|refine ak ?_ ?_<;>intro hw<;>try omega|fail
    refine⟨(i+1,τ++[.cells [I (l.getD i default).op,I (l.getD i default).v.kind,I (l.getD i default).v.n,.str (l.getD i default).v.s,.str (l.getD i default).s,.aK false EX ((l.getD i default).l.map aL)]]),?_,?_,by first|rfl|(simp[go_sem];done),bJ,at_⟩<;>(try dsimp only)
    ·omega
    ·omega
   ·have h3:=HS l l.length;rw[List.take_length]at h3;have h2:l.take i=l:=br (by omega);have h4:=HS l i;rw[h2]at h4;repeat' first|simp (disch:=omega) only[go_sem,au,aA,aB,h2]|refine aq ?_|refine ak ?_ ?_<;>intro hw<;>try omega|fail
    refine aM ?_ rfl;refine congrArg I ?_;simp only[i_];omega
def HU(x:Expr)(hx:eK x<=2 ^ 60): ai Tryz.prog nx [aL x] (I (i_ x)):=by
 induction x using Expr.ind with
 | h op v s l ih =>
   simp only[eK]at hx;have hlen:=zk l
   have hih:∀ k,k<l.length->ai Tryz.prog nx [aL (l.getD k default)] (I (i_ (l.getD k default))):=fun k hk =>
    ih _ (a_ hk) (by have:=wO (a_ hk);omega)
   refine ai.aG (Ul (by simp) ?_) (by simp);unfold KH aP;intro Q au aA aB;repeat' first|refine aq ?_|refine ak ?_ ?_<;>intro hw<;>try omega|fail
   with_reducible refine bn [3,4,5,6,7,8,9,10,11,12,13,14,15,16,17,18,19,20,21,22] (fun p:Nat × List aX=>[(4,I p.1),(3,I (kB (l.take p.1)))]) (fun p=> .cells [I op,I v.kind,I v.n,.str v.s,.str s,.aK false EX (l.map aL)]::p.2) (fun p=>p.1<=l.length) (fun p=>l.length-p.1) (0,[]) ?_ ?_ ?_ ?_
   ·simp
   ·rfl
   ·exact at_
   rintro⟨i,τ⟩ r h1;dsimp only at h1;have h4:=HS l i;by_cases hi:i<l.length
   ·have hy:=hih i hi;rw[aR]at hy;repeat' first|refine aq ?_|refine aC hy ?_|refine ak ?_ ?_<;>intro hw<;>try omega|fail
    ·have e:kB (l.take (i+1))=i_ (l.getD i default):=by rw[HR hi];exact Nat.max_eq_right (by omega)
     refine⟨(i+1,τ),?_,?_,by first|rfl|(simp[go_sem];done),bJ,at_⟩<;>(try dsimp only)
     ·omega
     ·omega
    ·have e:kB (l.take (i+1))=kB (l.take i):=by rw[HR hi];exact Nat.max_eq_left (by omega)
     refine⟨(i+1,τ),?_,?_,by first|rfl|(simp[go_sem];done),bJ,at_⟩<;>(try dsimp only)
     ·omega
     ·omega
   ·have h3:=HS l l.length;rw[List.take_length]at h3;have h2:l.take i=l:=br (by omega);rw[h2]at h4;repeat' first|simp (disch:=omega) only[go_sem,au,aA,aB,h2]|refine aq ?_|refine ak ?_ ?_<;>intro hw<;>try omega|fail
    refine aM ?_ rfl;refine congrArg I ?_;simp only[i_];omega
def gx{α β : Type}(p : α-> β->Bool): List α->List β->Bool
 | [],[]=>true
 | x::r,y::t=>p x y && gx p r t
 | _,_=>false
def ou{α β : Type}{p : α-> β->Bool}: ∀ {l:List α} {m:List β},l.length≠m.length->gx p l m=false
 | [],[],h=>absurd rfl h
 | [],_::_,_=>rfl
 | _::_,[],_=>rfl
 | x::r,y::t,h=>by simp only[gx];rw[ou (by simpa using h),eA]
def rq{α β : Type}[Inhabited α][Inhabited β]{p : α-> β->Bool}: ∀ {l:List α} {m:List β} {i:Nat},i<l.length->p (l.getD i default) (m.getD i default)=false->i<m.length->gx p l m=false
 | x::r,y::t,0,_,h,_=>by simp only[cQ]at h;simp only[gx,h,dH]
 | x :: r, y :: t, i + 1, h1, h, h2 => by
   simp only[List.getD_cons_succ]at h;simp only[gx];rw[rq (i:=i) (by simpa using h1) h (by simpa using h2),eA]
def ow{α β : Type}[Inhabited α][Inhabited β]{p : α-> β->Bool}: ∀ {l:List α} {m:List β},l.length=m.length->(∀ k,k<l.length->p (l.getD k default) (m.getD k default)=true)->gx p l m=true
 | [],[],_,_=>rfl
 | x :: r, y :: t, h, hp => by
   have h0:=hp 0 (by simp);simp only[cQ]at h0;simp only[gx,h0,dA];exact ow (by simpa using h) (fun k hk=>by have:=hp (k+1) (by simpa using hk);simpa only[List.getD_cons_succ]using this)
@[go_sem] def alj {α : Type} (τ : List α) (c d : α):(τ++[c]++[d])[τ.length+1]? = some d:=by simp
@[go_sem] def alk {α : Type} (τ : List α) (c d : α):(τ++[c]++[d])[τ.length]? = some c:=by simp
@[go_sem] def aln {α : Type} (τ : List α) (c d e : α):(τ++[c]++[d]).set (τ.length+1) e = τ++[c]++[e]:=by simp
def GK (fn : FuncId) (cap : List AV) (hcap : AV.cy cap = true) (p : Expr -> Expr -> Bool) (l m : List Expr)
    (h:∀ k,k<l.length->k<m.length->ai Tryz.prog fn (aL (l.getD k default)::aL (m.getD k default)::cap) (.bool (p (l.getD k default) (m.getD k default)))) (hl:l.length<=2 ^ 62) (hm:m.length<=2 ^ 62) :
    ai Tryz.prog nY [cw l,cw m,.fn (.func fn) [] cap] (.bool (gx p l m)):=by
 refine ai.aG (DA (by simp) ?_) (by simp[AV.dn,AV.cy,hcap,uh]);unfold uG aP;intro Q au aA aB;repeat' first|refine aq ?_|refine ak ?_ ?_<;>intro hw<;>try omega|fail
 ·refine aM ?_ rfl;rw[ou (by omega)]
 have hlm:l.length=m.length:=by omega
 with_reducible refine bn [6,7,8,9,17,18,19,20,21,22,23,24,25,26,27,28,29,30,31] (fun p:Nat × List aX=>[(17,I p.1)]) (fun p=>p.2) (fun q=>q.1<=l.length/\ ∀ k,k<q.1->p (l.getD k default) (m.getD k default)=true) (fun p=>l.length-p.1) (0,[]) ?_ ?_ ?_ ?_
 ·simp
 ·rfl
 ·exact at_
 rintro⟨i,τ⟩ r ⟨h1,h2⟩;dsimp only at h1 h2;by_cases hi:i<l.length
 ·have hy:=h i hi (by omega);rw[aR,aR]at hy;repeat' first|refine aq ?_|refine aC hy ?_|refine ak ?_ ?_<;>intro hw<;>try omega|fail
  ·refine aM ?_ rfl;rw[rq hi hw (by omega)]
  ·refine⟨(i+1,τ++[.cells [I (l.getD i default).op,I (l.getD i default).v.kind,I (l.getD i default).v.n,.str (l.getD i default).v.s,.str (l.getD i default).s,.aK false EX ((l.getD i default).l.map aL)]]++[.cells [I (m.getD i default).op,I (m.getD i default).v.kind,I (m.getD i default).v.n,.str (m.getD i default).v.s,.str (m.getD i default).s,.aK false EX ((m.getD i default).l.map aL)]]),?_,?_,by first|rfl|(simp[go_sem];done),bJ,at_⟩<;>(try dsimp only)
   ·exact⟨by omega,bf h2 hw⟩
   ·omega
 ·repeat' first|refine aq ?_|refine ak ?_ ?_<;>intro hw<;>try omega|fail
  refine aM ?_ rfl;rw[ow hlm (fun k hk=>h2 k (by omega))]
mutual
def sE: Expr->Expr->Bool
 | .mk o v s l,y=>decide (o=y.op) && decide (v=y.v) && decide (s=y.s) && UX l y.l
def UX: List Expr->List Expr->Bool
 | [],[]=>true
 | x::r,y::t=>sE x y && UX r t
 | _,_=>false
end
def OI: ∀(l m:List Expr),UX l m=gx sE l m
 | [],[]=>rfl
 | [],_::_=>rfl
 | _::_,[]=>rfl
 | x::r,y::t=>by simp only[UX,gx,OI r t]
mutual
def Np: Expr->Prop
 | .mk _ _ _ l=>l.length<=2 ^ 60/\brL l
def brL: List Expr->Prop
 | []=>True
 | x::r=>Np x/\brL r
end
def Mn{l:List Expr}{x:Expr}(h:brL l)(hx:x ∈ l): Np x:=by
 induction l with
 | nil=>cases hx
 | cons y r ih =>
   simp only[brL]at h;rcases List.mem_cons.1 hx with rfl|hx
   ·exact h.1
   ·exact ih h.2 hx
def af8{l:List Expr}(h:∀ x ∈ l,Np x): brL l:=by
 induction l with
 | nil=>trivial
 | cons y r ih=>exact⟨h y (by simp),ih (fun x hx=>h x (cZ _ hx))⟩
def Qp(x:Expr): eK x<=2 ^ 60->Np x:=by
 induction x using Expr.ind with
 | h op v s l ih =>
   intro h;simp only[eK]at h;have hl:=zk l;exact⟨by omega,af8 (fun y hy=>ih y hy (by have:=wO hy;omega))⟩
def XQ(x:Expr): ∀ y:Expr,Np x->Np y->ai Tryz.prog qZ [aL x,aL y] (.bool (sE x y)):=by
 induction x using Expr.ind with
 | h op v s l ih =>
   rintro⟨op',v',s',m⟩ hx hy;simp only[Np]at hx hy;obtain⟨hl,BC⟩:=hx;obtain⟨hm,hbm⟩:=hy;have hc:=GK qZ [] rfl sE l m (fun k h1 h2=>ih _ (a_ h1) _ (Mn BC (a_ h1)) (Mn hbm (a_ h2))) (by omega) (by omega);rw[<-OI]at hc;simp only[cw]at hc;obtain⟨vk,vn,vs⟩:=v;obtain⟨vk',vn',vs'⟩:=v';refine ai.aG (R9 (by simp) ?_) (by simp);unfold Ji aP;intro Q au aA aB;repeat' first|refine aq ?_|refine aC hc ?_|refine ak ?_ ?_<;>intro hw<;>try omega|fail
   all_goals refine aM ?_ rfl
   all_goals (refine congrArg AV.bool ?_;simp only[sE,Expr.op,Expr.v,Expr.s,Expr.l])
   all_goals (rw[aV];simp_all)
def aaf(x:Expr): ∀ y:Expr,Np x->Np y->ai Tryz.prog xE [aL x,aL y] (.bool (sE x y)):=by
 induction x using Expr.ind with
 | h op v s l ih =>
   rintro⟨op',v',s',m⟩ hx hy;simp only[Np]at hx hy;obtain⟨hl,BC⟩:=hx;obtain⟨hm,hbm⟩:=hy;have hc:∀ k,k<l.length->k<m.length->_:=fun k h1 h2=>ih _ (a_ h1) (m.getD k default) (Mn BC (a_ h1)) (Mn hbm (a_ h2));obtain⟨vk,vn,vs⟩:=v;obtain⟨vk',vn',vs'⟩:=v'
   have hs:sE (.mk op ⟨vk,vn,vs⟩ s l) (.mk op' ⟨vk',vn',vs'⟩ s' m)=(decide (op=op') && decide ((⟨vk,vn,vs⟩:eg)=⟨vk',vn',vs'⟩) && decide (s=s') && gx sE l m):=by
    rw[<-OI];rfl
   rw[hs];refine ai.aG (Uz (by simp) ?_) (by simp);unfold K0 aP;intro Q au aA aB;repeat' first|refine aq ?_|refine ak ?_ ?_<;>intro hw<;>try omega|fail
   ·refine aM ?_ rfl;rw[ou (by omega),eA]
   ·have hlm:l.length=m.length:=by omega
    with_reducible refine bn [4,5,34,35,36,37,38,39,40,41,42,43,44,45,46,47,48,49,50,51,52] (fun i:Nat=>[(5,I i)]) (fun _=>[.cells [I op,I vk,I vn,.str vs,.str s,.aK false EX (l.map aL)],.cells [I op',I vk',I vn',.str vs',.str s',.aK false EX (m.map aL)]]) (fun i=>i<=l.length/\ ∀ k,k<i->sE (l.getD k default) (m.getD k default)=true) (fun i=>l.length-i) 0 ?_ ?_ ?_ ?_
    ·simp
    ·rfl
    ·exact at_
    rintro i r ⟨h1,h2⟩;by_cases hi:i<l.length
    ·have hy:=hc i hi (by omega);rw[aR,aR]at hy;repeat' first|refine aq ?_|refine aC hy ?_|refine ak ?_ ?_<;>intro hw<;>try omega|fail
     ·refine aM ?_ rfl;rw[rq hi hw (by omega),eA]
     ·refine⟨i+1,?_,?_,by first|rfl|(simp[go_sem];done),bJ,at_⟩<;>(try dsimp only)
      ·exact⟨by omega,bf h2 hw⟩
      ·omega
    ·repeat' first|refine aq ?_|refine ak ?_ ?_<;>intro hw<;>try omega|fail
     refine aM ?_ rfl;rw[ow hlm (fun k hk=>h2 k (by omega))];simp_all
   ·refine aM ?_ rfl;rw[decide_eq_false (by assumption:¬ s=s'),eA,dH]
   ·refine aM ?_ rfl;refine congrArg AV.bool ?_;have:decide ((⟨vk,vn,vs⟩:eg)=⟨vk',vn',vs'⟩)=false:=by simp_all
    rw[this,eA,dH,dH]
   ·refine aM ?_ rfl;rw[decide_eq_false (by assumption:¬ op=op'),dH,dH,dH]
def GL (fn : FuncId) (cap : List AV) (hcap : AV.cy cap = true) (p : Expr -> Bool) (l : List Expr) (h : ∀ k, k < l.length -> ai Tryz.prog fn (aL (l.getD k default) :: cap) (.bool (p (l.getD k default)))) (hl : l.length <= 2 ^ 62) :
    ai Tryz.prog nX [cw l,.fn (.func fn) [] cap] (I (jI p l)):=by
 refine ai.aG (Dx (by simp) ?_) (by simp[AV.dn,AV.cy,hcap,uh]);unfold uF aP;intro Q au aA aB;repeat' first|refine aq ?_|refine ak ?_ ?_<;>intro hw<;>try omega|fail
 with_reducible refine bn [4,5,8,9,10,11,12,13,14,15,16,17,18] (fun i:Nat=>[(8,I i)]) (fun _=>[]) (fun i=>i<=l.length/\ ∀ k,k<i->p (l.getD k default)=false) (fun i=>l.length-i) (0) ?_ ?_ ?_ ?_
 ·simp
 ·rfl
 ·exact at_
 ·rintro i r ⟨hi,hp⟩;by_cases hin:i<l.length
  ·have hx:=h i hin;rw[aR]at hx;repeat' first|refine aq ?_|refine aC hx ?_|refine ak ?_ ?_<;>intro hw<;>try omega|fail
   ·refine aM ?_ rfl;refine congrArg I ?_;exact(pR hin hp hw).symm
   ·refine⟨i+1,?_,?_,by first|rfl|(simp[go_sem];done),bJ,at_⟩<;>(try dsimp only)
    ·exact⟨by omega,bf hp hw⟩
    ·omega
  ·repeat' first|refine aq ?_|refine ak ?_ ?_<;>intro hw<;>try omega|fail
   refine aM ?_ rfl;refine congrArg I ?_;exact(oN fun k hk=>hp k (by omega)).symm
def HV{α : Type}[Inhabited α](p : α->Bool)(l:List α): decide (0<=jI p l)=l.any p:=by
 rcases wj p l with⟨h1,h2⟩|⟨i,h1,h2,h3⟩
 ·rw[h1,show decide ((0:Int)<= -1)=false from(by decide)];symm;rw[List.any_eq_false];exact dG.1 h2
 ·rw[h2,decide_eq_true (by omega)];symm;rw[List.any_eq_true];exact⟨_,a_ h1,eX h3⟩
def DJ (fn : FuncId) (cap : List AV) (hcap : AV.cy cap = true) (p : Expr -> Bool) (l : List Expr) (h : ∀ k, k < l.length -> ai Tryz.prog fn (aL (l.getD k default) :: cap) (.bool (p (l.getD k default)))) (hl : l.length <= 2 ^ 62) :
    ai Tryz.prog mC [cw l,.fn (.func fn) [] cap] (.bool (l.any p)):=by
 refine ai.aG (zX (by simp) ?_) (by simp[AV.dn,AV.cy,hcap,uh]);unfold rh aP;intro Q au aA aB;have hc:=GL fn cap hcap p l h hl;simp only[cw]at hc;repeat' first|refine aq ?_|refine aC hc ?_|refine ak ?_ ?_<;>intro hw<;>try omega|fail
 all_goals refine aM ?_ rfl
 all_goals rw[<-HV]
def v0: eg:=⟨0,0,[]⟩
mutual
def cA: Expr->Bool
 | .mk op v s l => decide ((l.length : Int) = jJ op) &&
    (if op=1 then decide (s=[]) && bL v && (decide (v.kind≠1) || decide (0<=v.n))
     else if op=2 then decide (v=v0) && gE s
     else decide (v=v0) && decide (s=[]) && tj l)
def tj: List Expr->Bool
 | []=>true
 | x::r=>cA x && tj r
end
def x8(l:List Expr): tj l = !(l.any fun x=> !(cA x)):=by
 induction l with
 | nil=>rfl
 | cons x r ih=>simp[tj,ih]
mutual
def ic: Expr->Prop
 | .mk _ v s l=>s.length<=2 ^ 62/\v.s.length<=2 ^ 62/\ -9223372036854775808<=v.n/\v.n<=9223372036854775807/\Nq l
def Nq: List Expr->Prop
 | []=>True
 | x::r=>ic x/\Nq r
end
def Cm{l:List Expr}{x:Expr}(h:Nq l)(hx:x ∈ l): ic x:=by
 induction l with
 | nil=>cases hx
 | cons y r ih =>
   simp only[Nq]at h;rcases List.mem_cons.1 hx with rfl|hx
   ·exact h.1
   ·exact ih h.2 hx
def Si(x:Expr)(h:ai Tryz.prog nh [aL x] (.bool (cA x))): ai Tryz.prog qD [aL x] (.bool (!(cA x))):=by
 refine ai.aG (MR (by simp) ?_) (by simp);unfold Dr aP;intro Q au aA aB;rw[aR]at h ⊢;repeat' first|refine aq ?_|refine aC h ?_|refine ak ?_ ?_<;>intro hw<;>try omega|fail
 all_goals refine aM ?_ rfl
 all_goals simp_all
def Lj(x:Expr): ic x->eK x<=2 ^ 60->ai Tryz.prog nh [aL x] (.bool (cA x)):=by
 induction x using Expr.ind with
 | h op v s l ih =>
   intro hx hz;simp only[eK]at hz;simp only[ic]at hx;obtain⟨o1,o2,o3,o4,o5⟩:=hx;have hl:=zk l;have hc:=DJ qD [] rfl (fun x=> !(cA x)) l (fun k h1=>Si _ (ih _ (a_ h1) (Cm o5 (a_ h1)) (by have:=wO (a_ h1);omega))) (by omega);simp only[cw]at hc;obtain⟨vk,vn,vs⟩:=v;refine ai.aG (PX (by simp) ?_) (by simp);unfold Gl aP;intro Q au aA aB;repeat' first|refine aq ?_|refine aC (V6 _) ?_|refine aC (nc _ _ _ o3 o4) ?_|refine aC (DG _ o1) ?_|refine aC hc ?_|refine ak ?_ ?_<;>intro hw<;>try omega|fail
   all_goals refine aM ?_ rfl
   all_goals (refine congrArg AV.bool ?_;simp only[cA,x8])
   all_goals (rw[aV];simp_all[v0,mX])
def Ll(x:Expr)(hx:ic x)(hz:eK x<=2 ^ 60): ai Tryz.prog uc [aL x] (I (mX (cA x))):=by
 refine ai.aG (Qa (by simp) ?_) (by simp);unfold GC aP;intro Q au aA aB;have h:=Lj x hx hz;rw[aR]at h ⊢;repeat' first|refine aq ?_|refine aC h ?_|refine ak ?_ ?_<;>intro hw<;>try omega|fail
 all_goals refine aM ?_ rfl
 all_goals simp_all[mX]
def abG{l:List Expr}{i:Nat}(hi:i<l.length)(h:cA (l.getD i default)=false): tj l=false:=by
 rw[x8,DI hi (by rw[h];rfl)];rfl
def aag{l:List Expr}(h:∀ k,k<l.length->cA (l.getD k default)=true): tj l=true:=by
 rw[x8,zj (fun k hk=>by rw[h k hk];rfl)];rfl
def Fz(x:Expr): ic x->eK x<=2 ^ 60->ai Tryz.prog oc [aL x] (.bool (cA x)):=by
 induction x using Expr.ind with
 | h op v s l ih =>
   intro hx hz;simp only[eK]at hz;simp only[ic]at hx;obtain⟨o1,o2,o3,o4,o5⟩:=hx;have hl:=zk l;have hc:∀ k,k<l.length->_:=fun k h1=>ih _ (a_ h1) (Cm o5 (a_ h1)) (by have:=wO (a_ h1);omega);obtain⟨vk,vn,vs⟩:=v;refine ai.aG (RX (by simp) ?_) (by simp);unfold I7 aP;intro Q au aA aB;repeat' first|refine aq ?_|refine aC (XP _) ?_|refine aC (rN _ _ _ o2) ?_|refine aC (x7 _ o1) ?_|refine ak ?_ ?_<;>intro hw<;>try omega|fail
   all_goals try (refine aM ?_ rfl;refine congrArg AV.bool ?_;simp only[cA];rw[aV];simp_all[v0];done)
   with_reducible refine bn [2,3,46,47,48,49,50,51,52,53,54,55,56,57,58,59] (fun i:Nat=>[(3,I i)]) (fun _=>[.cells [I op,I vk,I vn,.str vs,.str s,.aK false EX (l.map aL)]]) (fun i=>i<=l.length/\ ∀ k,k<i->cA (l.getD k default)=true) (fun i=>l.length-i) 0 ?_ ?_ ?_ ?_
   ·simp
   ·rfl
   ·exact at_
   ·rintro i r ⟨h1,h2⟩;by_cases hi:i<l.length
    ·have hy:=hc i hi;rw[aR]at hy;repeat' first|refine aq ?_|refine aC hy ?_|refine ak ?_ ?_<;>intro hw<;>try omega|fail
     ·refine aM ?_ rfl;refine congrArg AV.bool ?_;simp only[cA];rw[abG hi (by assumption)];simp_all
     ·refine⟨i+1,?_,?_,by first|rfl|(simp[go_sem];done),bJ,at_⟩<;>(try dsimp only)
      ·exact⟨by omega,bf h2 hw⟩
      ·omega
    ·repeat' first|refine aq ?_|refine ak ?_ ?_<;>intro hw<;>try omega|fail
     all_goals refine aM ?_ rfl
     all_goals refine congrArg AV.bool ?_
     all_goals simp only[cA]
     all_goals rw[aag (fun k hk=>h2 k (by omega))]
     all_goals (rw[aV];simp_all[v0])
def bR {v r : AV} {oC ds : List AV} {τ : aj} (hv : View (.dead :: τ) v r) (hd : aW (.dead :: τ) oC ds) :
    ∃ r0 Cq CO,Out.ret (oneOf [v])=Out.ret r0/\aX.cells oC:: τ = aX.cells Cq::CO/\View (.dead::CO) r0 r/\aW (.dead::CO) Cq ds:=⟨_,_,_,rfl,rfl,hv,hd⟩
def x0: Expr:= .mk 0 v0 [] []
def Lm(T:List Tok)(p:Nat)(b:Bool): Tok:=if b then default else T.getD p default
def iM(T:List Tok)(p:Nat)(k:Int)(s:aJ): Bool:=decide (p<T.length) && (decide ((T.getD p default).kind=k) && decide ((T.getD p default).s=s))
def ew(T:List Tok)(p:Nat)(b:Bool)(k:Int)(s:aJ): Bool:= !b && iM T p k s
def lI(x:GJ): Int:=if x.level<3 then 1 else 4
def vu(T:List Tok)(p:Nat)(b:Bool)(lvl:Int): Option GJ:=gO.find? fun x=>x.level==lvl && ew T p b (lI x) x.sign
def Tk(T:List Tok)(p:Nat)(b:Bool)(lvl:Int): Nat:=if(vu T p b lvl).isSome then p+1 else p
def Ln(o:Option GJ): Int:=match o with
 | some x=>x.op
 | none=>0
def aW.eqv{σ : aj}{a b:List AV}(h:a=b)(hp:AV.cy b=true): aW σ a b:=by subst h;exact aW.refl hp
def uk(s:aJ): Option eg:=if s=[110,117,108,108]then some v0 else if s=[102,97,108,115,101]then some ⟨3,0,[]⟩else if s=[116,114,117,101]then some ⟨3,1,[]⟩else none
structure RS where
 x:Expr
 p:Nat
 bad:Bool
deriving Inhabited
def bD(T:List Tok)(p:Nat)(b:Bool): List AV:=[.aK false ET (T.map mF),I p,.bool b]
attribute [go_sem] bD
def aS(T:List Tok)(p:Nat)(b:Bool): AV.cy (bD T p b)=true:=by simp[bD,AV.dn,AV.cy,Qk]
def qI{α : Type}[Inhabited α]{l:List α}{i:Nat}(h:l.length<=i): l.getD i default=default:=by
 rw[aE,List.getElem?_eq_none h];rfl
def aah: (default:Tok)=⟨0,[],0,0⟩:=rfl
def aeG(T:List Tok)(p:Nat)(b:Bool)(k:Int)(s:aJ)(hk:k≠0): ew T p b k s=(decide ((Lm T p b).kind=k) && decide ((Lm T p b).s=s)):=by
 unfold ew Lm iM;cases b with
 | true=>simp[aah];intro h;exact absurd h.symm hk
 | false =>
   by_cases hp:p<T.length
   ·simp[hp]
   ·rw[qI (by omega)];simp[hp,aah];intro h;exact absurd h.symm hk
def Qq(T:List Tok)(p:Nat)(b:Bool): bj Tryz.prog nM 0 [] (bD T p b) (bD T p b) (mF (Lm T p b)):=by
 refine bj.bV (HM (by simp) ?_) rfl (aS _ _ _);unfold yI aP;intro Q au aA aB;cases b with
 | true =>
   repeat' first|refine aq ?_|refine ak ?_ ?_<;>intro hw<;>try omega|fail
   exact bR (View.eqv rfl rfl) (aW.refl (aS T p true))
 | false =>
   by_cases hp:p<T.length
   ·repeat' first|refine aq ?_|refine ak ?_ ?_<;>intro hw<;>try omega|fail
    refine bR (View.eqv ?_ rfl) (aW.refl (aS T p false));simp only[Lm];rfl
   ·repeat' first|refine aq ?_|refine ak ?_ ?_<;>intro hw<;>try omega|fail
    refine bR (View.eqv ?_ rfl) (aW.refl (aS T p false));simp only[Lm];rw[qI (by omega)];rfl
def rA(T:List Tok)(p:Nat)(b:Bool)(k:Int)(s:aJ): Nat:=if ew T p b k s then p+1 else p
def Lo(T:List Tok)(p:Nat)(b:Bool)(k:Int)(s:aJ)(hk:k≠0)(hp:p<=2 ^ 61): bj Tryz.prog iu 0 [I k,.str s] (bD T p b) (bD T (rA T p b k s) b) (.bool (ew T p b k s)):=by
 have hn:=Qq T p b;unfold rA;rw[aeG T p b k s hk];generalize Lm T p b=t at hn ⊢;obtain⟨tk,ts,tn,tp⟩:=t;simp only[bD,mF]at hn;refine bj.bV (JQ (by simp) ?_) rfl (aS _ _ _);unfold Ab aP;intro Q au aA aB;repeat' first|refine aq ?_|refine bh hn ?_|refine ak ?_ ?_<;>intro hw<;>try omega|fail
 all_goals first
  |(refine bR (View.eqv ?_ rfl) (aW.eqv ?_ (aS _ _ _))<;>simp_all[bD];done)
def FA(T:List Tok)(p:Nat)(b:Bool)(k:Int)(s:aJ)(hk:k≠0)(hp:p<=2 ^ 61): bj Tryz.prog ku 0 [I k,.str s] (bD T p b) (bD T (rA T p b k s) (b || !(ew T p b k s))) (.bX []):=by
 have hn:=Lo T p b k s hk hp;generalize ew T p b k s=o at hn ⊢;simp only[bD]at hn;refine bj.bV (GG (by simp) ?_) rfl (aS _ _ _);unfold xY aP;intro Q au aA aB;cases o
 ·repeat' first|refine aq ?_|refine bh hn ?_|refine ak ?_ ?_<;>intro hw<;>try omega|fail
  refine xd rfl (aW.eqv ?_ (aS _ _ _));simp[bD]
 ·repeat' first|refine aq ?_|refine bh hn ?_|refine ak ?_ ?_<;>intro hw<;>try omega|fail
  refine xd rfl (aW.eqv ?_ (aS _ _ _));simp[bD]
def V7(s:aJ): ai Tryz.prog A5 [.str s] (.bX [iJ ((uk s).getD v0),.bool (uk s).isSome]):=by
 refine ai.aG (Sg (by simp) ?_) rfl;unfold Jq aP;intro Q au aA aB;repeat' first|refine aq ?_|refine ak ?_ ?_<;>intro hw<;>try omega|fail
 all_goals refine aT ?_ rfl
 all_goals simp_all[uk,iJ,v0]
def Jr(T:List Tok)(p:Nat)(b:Bool)(lvl:Int)(hp:p<=2 ^ 61): bj Tryz.prog lH 0 [I lvl] (bD T p b) (bD T (Tk T p b lvl) b) (I (Ln (vu T p b lvl))):=by
 refine bj.bV (Eb (by simp) ?_) rfl (aS _ _ _);unfold vm aP;intro Q au aA aB;have hl:gO.length=12:=rfl;have ho:=fun k s (hk:k≠0)=>Lo T p b k s hk hp;simp only[bD]at ho;repeat' first|refine aq ?_|refine aC EY ?_|refine ak ?_ ?_<;>intro hw<;>try omega|fail
 with_reducible refine bn [4,6,7,10,11,12,13,14,15,16,17,18,19,20,21,22,23,24,25,26,27,28,29,30] (fun q:Nat × List aX=>[(10,I q.1)]) (fun q=> .cells [.aK false ET (T.map mF),I p,.bool b]::q.2) (fun q=>q.1<=12/\ ∀ k,k<q.1->((gO.getD k default).level==lvl && ew T p b (lI (gO.getD k default)) (gO.getD k default).sign)=false) (fun q=>12-q.1) (0,[]) ?_ ?_ ?_ ?_
 ·simp
 ·rfl
 ·exact at_
 rintro⟨i,τ⟩ r ⟨h1,h2⟩;dsimp only at h1 h2;by_cases hi:i<12
 ·obtain⟨x,hx⟩:∃ x,gO.getD i default=x:=⟨_,rfl⟩
  have hyes:(x.level==lvl && ew T p b (lI x) x.sign)=true->vu T p b lvl=some x:=fun h=>by
   unfold vu;rw[wN (p:=fun y:GJ=>y.level==lvl && ew T p b (lI y) y.sign) hi h2 (by rw[hx];exact h),hx]
  have Sj:(x.level==lvl && ew T p b (lI x) x.sign)=false-> ∀ k,k<i+1->((gO.getD k default).level==lvl && ew T p b (lI (gO.getD k default)) (gO.getD k default).sign)=false:=fun h=>bf h2 (by rw[hx];exact h);have hk2:(x.level<3/\lI x=1)\/(¬ x.level<3/\lI x=4):=by unfold lI;split<;>simp_all
  clear h2;rcases hk2 with⟨hlv,hkb⟩|⟨hlv,hkb⟩;all_goals rw[hkb]at hyes Sj
  all_goals (
   repeat' first|simp (disch:=omega) only[go_sem,au,aA,aB,hx]|refine aq ?_|with_reducible refine yR (ho 1 _ (by decide)) rfl ?_|with_reducible refine yS (ho 1 _ (by decide)) rfl ?_|with_reducible refine RI (ho 1 _ (by decide)) rfl ?_|with_reducible refine yR (ho 4 _ (by decide)) rfl ?_|with_reducible refine yS (ho 4 _ (by decide)) rfl ?_|with_reducible refine RI (ho 4 _ (by decide)) rfl ?_|refine ak ?_ ?_<;>intro hw<;>try omega|fail
   ·rename_i _ hlq;have hy:=hyes (by rw[hlq,hw];simp);refine bR (View.eqv ?_ rfl) (aW.eqv ?_ (aS _ _ _))
    ·rw[hy];rfl
    ·simp[bD,Tk,hy,rA,hw]
   ·rename_i hlq;refine⟨(i+1,τ++[.cells [I x.op,.str x.sign,I x.level]]),?_,?_,?_,bJ,at_⟩<;>(try dsimp only)
    ·exact⟨by omega,Sj (by rw[hw];simp)⟩
    ·omega
    ·simp[rA,hw]
   ·refine⟨(i+1,τ++[.cells [I x.op,.str x.sign,I x.level]]),?_,?_,?_,bJ,at_⟩<;>(try dsimp only)
    ·exact⟨by omega,Sj (by rw[beq_eq_false_iff_ne.2 hw];rfl)⟩
    ·omega)
 ·have hno : vu T p b lvl = none := by
   unfold vu;rw[wk (p:=fun y:GJ=>y.level==lvl && ew T p b (lI y) y.sign) (fun k hk=>h2 k (by omega))]
  repeat' first|refine aq ?_|refine ak ?_ ?_<;>intro hw<;>try omega|fail
  refine bR (View.eqv ?_ rfl) (aW.eqv ?_ (aS _ _ _))<;>simp_all[bD,Ln,Tk]
end Go.Proofs.YtmbgnaoilncbnaaGreatDoor
