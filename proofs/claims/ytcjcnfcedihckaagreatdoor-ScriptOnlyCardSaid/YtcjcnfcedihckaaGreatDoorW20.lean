/- Part. -/
import Derived.Test.YtcjcnfcedihckaaGreatDoorW19
set_option linter.all false
namespace Go.Proofs.YtcjcnfcedihckaaGreatDoor
open Go.AM
set_option maxRecDepth 4000
def Mv(p:List Tok × Int × Int): AV:= .bO [sJ p.1,I p.2.1,I p.2.2]
attribute [go_sem] Mv
def W5(f pos:Nat)(acc:List Tok): o_ f [] pos acc=(acc,0,0):=by cases f<;>rfl
def rN (f pos : Nat) (acc : List Tok) (c : UInt8) (r : aI) : o_ (f + 1) (c :: r) pos acc =
    if c.toNat=32 then o_ f r (pos+1) acc
    else if(gZ (c::r)).e=0 then o_ f ((c::r).drop (gZ (c::r)).len) (pos+(gZ (c::r)).len) (acc++[⟨(gZ (c::r)).kind,(gZ (c::r)).s,(gZ (c::r)).n,pos⟩])
    else([],pos,(gZ (c::r)).e):=rfl
def Ii(s:aI)(hs:s.length<=2 ^ 30): aP aK 222 [.str s] (Mv (bG s)):=by
 unfold bG;by_cases hbig:200<s.length
 ·rw[if_pos hbig];refine aR Gr ?_;intro Q aF aG aH;repeat' first|refine aE ?_|refine aD ?_ ?_<;>intro hw<;>try omega|fail
  refine cG ?_;exact h_
 rw[if_neg hbig];generalize hT:o_ (s.length+1) s 0 []=T;refine aR Gr ?_;intro Q aF aG aH;repeat' first|refine aE ?_|refine aD ?_ ?_<;>intro hw<;>try omega|fail
 with_reducible refine bZ [2,3,4,5,6,7,8,12,13,14,15,16,17,18,19,20,21,22,23,24,25,26,27,28,29,30,31,32,33,34,35,36,37,38,39,40,41,42,43,44,45,46,47,48,49,50] (fun p:Nat × List Tok × List aY=>[(6,I p.1),(5,.own ET 0 p.2.1.length 0 p.2.1.length)]) (fun p=> .vec ET (p.2.1.map oH)::p.2.2) (fun p=>p.1<=s.length/\p.2.1.length<=p.1/\ ∃ f,s.length-p.1<f/\T=o_ f (s.drop p.1) p.1 p.2.1) (fun p=>s.length-p.1) (0,[],[]) ?_ ?_ ?_ ?_
 ·exact⟨by simp,by simp,s.length+1,by omega,hT.symm⟩
 ·rfl
 ·exact at_
 rintro⟨pos,acc,τ⟩ r ⟨h1,h2,f,h3,h4⟩;dsimp only at h1 h2 h3 h4;repeat' first|refine aE ?_|refine aD ?_ ?_<;>intro hw<;>try omega|fail
 with_reducible refine bZ [6,12,13,14,15,16,17,18,19,20,21,22,23] (fun p:Nat=>[(6,I p)]) (fun _=> .vec ET (acc.map oH):: τ) (fun p=>pos<=p/\p<=s.length/\ ∃ f,s.length-p<f/\T=o_ f (s.drop p) p acc) (fun p=>s.length-p) pos ?_ ?_ ?_ ?_
 ·exact⟨Nat.le_refl _,h1,f,h3,h4⟩
 ·rfl
 ·exact at_
 clear h3 h4;clear f;rintro p r2 ⟨k0,k1,f,k2,k3⟩;obtain⟨f,rfl⟩:∃ g,f=g+1:=⟨f-1,by omega⟩;by_cases hp:p<s.length
 ·rw[pg hp,rN]at k3;have hne:s.drop p≠[]:=by rw[pg hp];simp
  have hlen:(s.drop p).length<=2 ^ 30:=by rw[List.length_drop];omega
  rw[<-pg hp]at k3;have hnx:=W4 (s.drop p) hne hlen;have hol:=Mr hne;rw[List.length_drop]at hol;generalize gZ (s.drop p)=q at *;obtain⟨qk,qs,qn,ql,qe⟩:=q;dsimp only at k3 hol;repeat' first|refine aE ?_|refine aD ?_ ?_<;>intro hw<;>try omega|fail
  ·rw[if_pos (by omega)]at k3;refine⟨p+1,?_,?_,by first|rfl|(simp[go_sem];done),dH,at_⟩<;>(try dsimp only)
   ·exact⟨by omega,by omega,f,by omega,k3⟩
   ·omega
  ·rw[if_neg (by omega),if_neg hw]at k3;refine cG ?_;rw[k3];exact bL.cons (View.au _) (bL.refl rfl)
  ·rw[if_neg (by omega),if_pos hw,List.drop_drop]at k3;refine⟨(p+ql,acc++[⟨qk,qs,qn,p⟩],τ++[.cells [I qk,.str qs,I qn,I p,I ql]]),?_,?_,by first|rfl|(simp[go_sem];done),dH,at_⟩<;>(try dsimp only)
   ·exact⟨by omega,by simp;omega,f,by omega,k3⟩
   ·omega
 ·rw[iO (by omega),W5]at k3;repeat' first|refine aE ?_|refine aD ?_ ?_<;>intro hw<;>try omega|fail
  refine cG ?_;rw[k3];exact bL.cons (View.vec rfl (by simp) (by simp) (Mp _)) (bL.refl rfl)
def tR{p:UInt8->Bool}: ∀ {s:aI} {i:Nat},i<=(s.takeWhile p).length->i<s.length->p (s.getD i 0)=true->i<(s.takeWhile p).length
 | [],i,_,h,_=>by simp at h
 | c::r,0,_,_,hp=>by simp only[aT]at hp;simp[dQ,hp]
 | c :: r, i + 1, h1, h2, hp => by
   simp only[cq]at hp;simp only[dQ]at h1 ⊢;split at h1
   ·simp only[List.length_cons]at h1 h2 ⊢;have:=tR (p:=p) (s:=r) (i:=i) (by omega) (by omega) hp;split<;>simp_all
   ·simp at h1
def zV(s:aI)(i:Nat)(v:Int)(over:Bool): Prop:=i<=(s.takeWhile dW).length/\(over=false->nG (s.takeWhile dW) 0=nG ((s.takeWhile dW).drop i) v)/\(over=true->nG (s.takeWhile dW) 0=none)
def zV.step {s : aI} {i : Nat} {v : Int} (h : zV s i v false) (hi : i < s.length) (hd : dW (s.getD i 0) = true) :
    (v>(9223372036854775807-(((s.getD i 0).toNat:Int)-48)) / 10->zV s (i+1) v true) /\
    (¬ v>(9223372036854775807-(((s.getD i 0).toNat:Int)-48)) / 10->zV s (i+1) (v*10+(((s.getD i 0).toNat:Int)-48)) false):=by
 obtain⟨h1,h2,_⟩:=h;have hlt:i<(s.takeWhile dW).length:=tR h1 hi hd;have h3:=tO hlt;have h4:(s.takeWhile dW).drop i=s.getD i 0::(s.takeWhile dW).drop (i+1):=by rw[pg hlt,<-h3.1]
 rw[h4]at h2;simp only[nG]at h2;refine⟨fun hv=>⟨by omega,fun h=>by simp at h,fun _=>?_⟩,fun hv=>⟨by omega,fun _=>?_,fun h=>by simp at h⟩⟩
 ·rw[h2 trivial,if_pos hv]
 ·rw[h2 trivial,if_neg hv]
def zV.over{s:aI}{i:Nat}{v:Int}(h:zV s i v true)(hi:i<s.length)(hd:dW (s.getD i 0)=true): zV s (i+1) v true :=
 ⟨tR h.1 hi hd,fun h=>by simp at h,h.2.2⟩
def zV.fin{s:aI}{i:Nat}{v:Int}{o:Bool}(h:zV s i v o)(hi:i<s.length->dW (s.getD i 0)=false)(hl:i<=s.length): (s.takeWhile dW).length=i/\nG (s.takeWhile dW) 0=if o then none else some v:=by
 have hlen:(s.takeWhile dW).length=i:=by
  have h1:=h.1;apply Nat.le_antisymm _ h1;apply Nat.le_of_not_lt;intro hlt;have h3:=(tO hlt).2;have:i<s.length:=dG hlt (sL s);rw[hi this]at h3;cases h3
 refine⟨hlen,?_⟩;cases o with
 | false=>rw[h.2.1 rfl,iO (by omega)];rfl
 | true=>rw[h.2.2 rfl];rfl
def wg{α : Type}[Inhabited α]{p : α->Bool}{l:List α}{i:Nat}(hi:i<l.length)(h:∀ k,k<i->p (l.getD k default)=false)(hp:p (l.getD i default)=true): l.find? p=some (l.getD i default):=by
 have h1:=lU hi h hp;rcases tP p l with⟨h2,h3⟩|⟨j,h2,h3,h4⟩
 ·omega
 ·have:j=i:=by omega
  subst this;exact h4
def wO{α : Type}[Inhabited α]{p : α->Bool}{l:List α}(h:∀ k,k<l.length->p (l.getD k default)=false): l.find? p=none:=by
 have h1:=lO h;rcases tP p l with⟨h2,h3⟩|⟨j,h2,h3,h4⟩
 ·exact h3
 ·omega
def Ui{α : Type}[Inhabited α]{p : α->Bool}{l:List α}{i:Nat}(hi:i<l.length)(hp:p (l.getD i default)=true): l.any p=true:=by
 rw[List.any_eq_true];exact⟨_,bJ hi,hp⟩
def PW{α : Type}[Inhabited α]{p : α->Bool}{l:List α}(h:∀ k,k<l.length->p (l.getD k default)=false): l.any p=false:=by
 rw[fZ];intro x hx;obtain⟨k,hk,rfl⟩:=bC hx;have:=h k hk;rw[aj,aL hk,bu]at this;simp[this]
def bI{q:Nat->Prop}{i:Nat}(h:∀ k,k<i->q k)(hi:q i): ∀ k,k<i+1->q k:=fun k hk=>by
 by_cases h2:k<i
 ·exact h k h2
 ·have:k=i:=by omega
  subst this;exact hi
def Cb{s:aI}{p:UInt8->Bool}{i:Nat}(hi:i<s.length)(hp:p (s.getD i 0)=false): s.all p=false:=by
 rw[List.all_eq_false];refine⟨s.getD i 0,?_,ne_true_of_eq_false hp⟩;rw[aj,aL hi];exact cQ hi
def PX{s:aI}{p:UInt8->Bool}(h:∀ k,k<s.length->p (s.getD k 0)=true): s.all p=true:=by
 rw[aW];intro x hx;obtain⟨k,hk,rfl⟩:=bC hx;have:=h k hk;rwa[aj,aL hk]at this
def vQ(c:UInt8): jG c=true↔32<=c.toNat/\c.toNat<=126:=by simp[jG]
def qF(c:UInt8): jG c=false↔c.toNat<32\/126<c.toNat:=by
 rw[<-Bool.not_eq_true,vQ];omega
def OC(s:aI): aP aK 129 [.str s] (.bool (gk s)):=by
 refine aR H7 ?_;intro Q aF aG aH;repeat' first|refine aE ?_|refine aD ?_ ?_<;>intro hw<;>try omega|fail
 ·refine aU ?_ rfl;simp only[gk];rw[decide_eq_false (by omega),gE]
 with_reducible refine bZ [2,4,10,11,12,13,14,15,16,17,18] (fun i:Nat=>[]) (fun i=>[.iR s i]) (fun i=>i<=s.length/\ ∀ k,k<i->jG (s.getD k 0)=true) (fun i=>s.length-i) 0 ?_ ?_ ?_ ?_
 ·simp
 ·rfl
 ·exact at_
 rintro i r ⟨h1,h2⟩;by_cases hi:i<s.length
 ·by_cases ha:(s.getD i 0).toNat<128
  ·repeat' first|refine aE ?_|refine aD ?_ ?_<;>intro hw<;>try omega|fail
   ·refine aU ?_ rfl;simp only[gk];rw[Cb (p:=jG) hi ((qF _).2 (.inr (by omega))),fT]
   ·refine⟨i+1,?_,?_,by first|rfl|(simp[go_sem];done),dH,at_⟩<;>(try dsimp only)
    ·exact⟨by omega,bI h2 ((vQ _).2 ⟨by omega,by omega⟩)⟩
    ·omega
   ·refine aU ?_ rfl;simp only[gk];rw[Cb (p:=jG) hi ((qF _).2 (.inl (by omega))),fT]
  ·have hw2:=Oo hi (by omega);repeat' first|refine aE ?_|refine aD ?_ ?_<;>intro hw<;>try omega|fail
   all_goals refine aU ?_ rfl
   all_goals (simp only[gk];rw[Cb (p:=jG) hi ((qF _).2 (.inr (by omega))),fT])
 ·have:i=s.length:=by omega
  repeat' first|refine aE ?_|refine aD ?_ ?_<;>intro hw<;>try omega|fail
  refine aU ?_ rfl;simp only[gk];rw[decide_eq_true (by omega),PX (fun k hk=>h2 k (by omega))];rfl
def OD(s:aI)(hs:s.length<=2 ^ 62): aP aK 141 [.str s] (.bool (gk s)):=by
 refine aR H8 ?_;intro Q aF aG aH;repeat' first|refine aE ?_|refine aD ?_ ?_<;>intro hw<;>try omega|fail
 with_reducible refine bZ [2,3,4,5,6,7,8,9,10,11,12,13,14,15,16,17,18,19] (fun i:Nat=>[(3,I i)]) (fun i=>[]) (fun i=>i<=s.length/\ ∀ k,k<i->jG (s.getD k 0)=true) (fun i=>s.length-i) (0) ?_ ?_ ?_ ?_
 ·simp
 ·rfl
 ·exact at_
 rintro i r ⟨h1,h2⟩;by_cases hi:i<s.length
 ·repeat' first|refine aE ?_|refine aD ?_ ?_<;>intro hw<;>try omega|fail
  ·refine aU ?_ rfl;simp only[gk];rw[Cb (p:=jG) hi ((qF _).2 (.inr (by omega))),fT]
  ·refine⟨i+1,?_,?_,by first|rfl|(simp[go_sem];done),dH,at_⟩<;>(try dsimp only)
   ·exact⟨by omega,bI h2 ((vQ _).2 ⟨by omega,by omega⟩)⟩
   ·omega
  ·refine aU ?_ rfl;simp only[gk];rw[Cb (p:=jG) hi ((qF _).2 (.inl (by omega))),fT]
 ·repeat' first|refine aE ?_|refine aD ?_ ?_<;>intro hw<;>try omega|fail
  refine aU ?_ rfl;simp only[gk];rw[PX (fun k hk=>h2 k (by omega)),fP];refine congrArg AV.bool ?_;rw[a_,decide_eq_true_eq,decide_eq_true_eq];omega
def E6(n:Int)(s:aI): bT ⟨0,n,s⟩=(decide (n=0) && decide (s=[])):=rfl
def E7(n:Int)(s:aI): bT ⟨1,n,s⟩=decide (s=[]):=rfl
def E8(n:Int)(s:aI): bT ⟨2,n,s⟩=(decide (n=0) && gk s):=rfl
def E9(n:Int)(s:aI): bT ⟨3,n,s⟩=(decide (s=[]) && (decide (n=0) || decide (n=1))):=rfl
def Mw(k n:Int)(s:aI)(h0:k≠0)(h1:k≠1)(h2:k≠2)(h3:k≠3): bT ⟨k,n,s⟩=false:=by
 simp[bT,h0,h1,h2,h3]
def mZ(b:Bool): Int:=if b then 0 else 2
def RE(x:BitVec 64): x &&& ~~~ 1#64=0#64↔x=0#64\/x=1#64:=by
 constructor
 ·intro h
  have hb:∀ i,1<=i->i<64->x.getLsbD i=false:=fun i h1 h2=>by
   have:=congrArg (fun y=>BitVec.getLsbD y i) h
   have h3:(1#64).getLsbD i=false:=by
    rw[BitVec.getLsbD_one];simp;omega
   simp only[BitVec.getLsbD_and,BitVec.getLsbD_not,h3,h2,decide_true,fS,fP,BitVec.getLsbD_zero]at this;exact this
  cases h0:x.getLsbD 0 with
  | false =>
    left;apply BitVec.eq_of_getLsbD_eq;intro i hi;by_cases hz:i=0
    ·subst hz;rw[h0];rfl
    ·rw[hb i (by omega) hi];simp
  | true =>
    right;apply BitVec.eq_of_getLsbD_eq;intro i hi;by_cases hz:i=0
    ·subst hz;rw[h0];rfl
    ·rw[hb i (by omega) hi,BitVec.getLsbD_one];simp[hz]
 ·rintro(rfl|rfl)<;>decide
def OE(m:Nat)(h:m<18446744073709551616): IntKind.wrap .i64 m=0↔m=0:=by
 simp only[IntKind.wrap,IntKind.bits,IntKind.signed];simp;omega
def afc(n:Int)(h : -9223372036854775808<=n)(h':n<=9223372036854775807): jN .andNot .i64 n 1=0↔n=0\/n=1:=by
 rw[lY];show IntKind.wrap .i64 ((BitVec.ofInt 64 n &&& ~~~ BitVec.ofInt 64 1).toNat:Int)=0↔_;rw[OE _ (BitVec.isLt _)]
 have h1:(BitVec.ofInt 64 n &&& ~~~ BitVec.ofInt 64 1).toNat=0↔BitVec.ofInt 64 n &&& ~~~ 1#64=0#64:=by
  rw[<-BitVec.toNat_inj];rfl
 rw[h1,RE,<-BitVec.toNat_inj,<-BitVec.toNat_inj];simp only[BitVec.toNat_ofInt,BitVec.toNat_ofNat];omega
def qG(k n:Int)(s:aI)(h : -9223372036854775808<=n)(h':n<=9223372036854775807): aP aK 85 [.agg [I k,I n,.str s]] (I (mZ (bT ⟨k,n,s⟩))):=by
 refine aR HY ?_;intro Q aF aG aH;repeat' first|refine aE ?_|refine fm (OC _) ?_|refine aD ?_ ?_<;>intro hw<;>try omega|fail
 all_goals refine aU ?_ rfl
 all_goals (refine congrArg I ?_;unfold mZ;try rw[afc n h h']at hw)
 all_goals (try subst k)
 all_goals first
  |(rw[if_neg (by rw[E6];simp_all)];done)
  |(rw[if_pos (by rw[E6];simp_all)];done)
  |(rw[if_neg (by rw[E7];simp_all)];done)
  |(rw[if_pos (by rw[E7];simp_all)];done)
  |(rw[if_neg (by rw[E8];simp_all)];done)
  |(rw[if_pos (by rw[E8];simp_all)];done)
  |(rw[if_neg (by rw[E9];simp_all)];done)
  |(rw[if_pos (by rw[E9];simp_all)];done)
  |(rw[if_neg (by rw[Mw _ _ _ (by assumption) (by assumption) (by assumption) (by assumption)];simp)])
def DY(k n:Int)(s:aI)(hs:s.length<=2 ^ 62): aP aK 97 [.agg [I k,I n,.str s]] (.bool (bT ⟨k,n,s⟩)):=by
 refine aR H6 ?_;intro Q aF aG aH;repeat' first|refine aE ?_|refine fm (OD _ hs) ?_|refine aD ?_ ?_<;>intro hw<;>try omega|fail
 all_goals refine aU ?_ rfl
 all_goals (refine congrArg AV.bool ?_;try subst k)
 all_goals first
  |(rw[E6];rw[a_];simp_all;done)
  |(rw[E7];rw[a_];simp_all;done)
  |(rw[E8];rw[a_];simp_all;done)
  |(rw[E9];rw[a_];simp_all;done)
  |(rw[Mw _ _ _ (by assumption) (by assumption) (by assumption) (by assumption)])
structure AY where
 op:Int
 sign:aI
 level:Int
deriving Inhabited,DecidableEq
def Mx(b:AY): AV:= .agg [I b.op,.str b.sign,I b.level]
attribute [go_sem] Mx
def jq: List AY:=[⟨4,[43],4⟩,⟨5,[45],4⟩,⟨6,[42],5⟩,⟨7,[47],5⟩,⟨8,[61],3⟩,⟨9,[33,61],3⟩,⟨10,[60],3⟩,⟨11,[60,61],3⟩,⟨12,[62],3⟩,⟨13,[62,61],3⟩,⟨14,[97,110,100],2⟩,⟨15,[111,114],1⟩]
def dF(op:Int): AY:=(jq.find? fun b=>b.op==op).getD ⟨0,[],0⟩
def jH(op:Int): Int:=if op=1\/op=2 then 0 else if op=3 then 1 else if op=16 then 3 else if 0<(dF op).level then 2 else -1
def ek(op:Int): Int:=if op=16 then 0 else if op=3 then 6 else if op=1\/op=2 then 7 else(dF op).level
def RF(op:Int)(h:op<4\/15<op): dF op=⟨0,[],0⟩:=by
 have:jq.find? (fun b=>b.op==op)=none:=by
  rw[dm];intro b hb;simp only[jq,List.mem_cons,List.not_mem_nil,or_false]at hb;rcases hb with rfl|rfl|rfl|rfl|rfl|rfl|rfl|rfl|rfl|rfl|rfl|rfl<;>(simp only[beq_iff_eq];omega)
 simp[dF,this]
def RG(op:Int)(h1:4<=op)(h2:op<=15): (dF op).sign≠[]/\0<(dF op).level:=by
 have:op=4\/op=5\/op=6\/op=7\/op=8\/op=9\/op=10\/op=11\/op=12\/op=13\/op=14\/op=15:=by omega
 rcases this with rfl|rfl|rfl|rfl|rfl|rfl|rfl|rfl|rfl|rfl|rfl|rfl<;>decide
def xN: aP aK 241 [] (.aO false ⟨true,3⟩ (jq.map Mx)):=by
 refine aR BZ ?_;intro Q aF aG aH;repeat' first|refine aE ?_|refine aD ?_ ?_<;>intro hw<;>try omega|fail
 all_goals exact iw (View.weak _ _ _ (by simp))
def yo(op:Int): aP aK 199 [I op] (Mx (dF op)):=by
 refine aR Ib ?_;intro Q aF aG aH;have hl:jq.length=12:=rfl;repeat' first|refine aE ?_|refine fm xN ?_|refine aD ?_ ?_<;>intro hw<;>try omega|fail
 with_reducible refine bZ [4,7,8,9,10,11,12,13,14,15,16] (fun p:Nat × List aY=>[(7,I p.1)]) (fun p=> .cells [I 0,.str [],I 0]::p.2) (fun p=>p.1<=12/\ ∀ k,k<p.1->((jq.getD k default).op==op)=false) (fun p=>12-p.1) (0,[]) ?_ ?_ ?_ ?_
 ·simp
 ·rfl
 ·exact at_
 rintro⟨i,τ⟩ r ⟨h1,h2⟩;dsimp only at h1 h2;by_cases hi:i<12
 ·repeat' first|refine aE ?_|refine aD ?_ ?_<;>intro hw<;>try omega|fail
  ·refine aU ?_ rfl
   have:dF op=jq.getD i default:=by
    unfold dF;rw[wg (p:=fun b:AY=>b.op==op) hi h2 (by simpa using hw)];rfl
   rw[this];try rfl
  ·refine⟨(i+1,τ++[.cells [I (jq.getD i default).op,.str (jq.getD i default).sign,I (jq.getD i default).level]]),?_,?_,by first|rfl|(simp[go_sem];done),dH,at_⟩<;>(try dsimp only)
   ·exact⟨by omega,bI h2 (by simpa using hw)⟩
   ·omega
 ·repeat' first|refine aE ?_|refine aD ?_ ?_<;>intro hw<;>try omega|fail
  refine aU ?_ rfl
  have:dF op=⟨0,[],0⟩:=by
   unfold dF;rw[wO (p:=fun b:AY=>b.op==op) (fun k hk=>h2 k (by omega))];rfl
  rw[this];try rfl
def My(op:Int): aP aK 195 [I op] (I (jH op)):=by
 refine aR Gp ?_;intro Q aF aG aH;repeat' first|refine aE ?_|refine fm (yo _) ?_|refine aD ?_ ?_<;>intro hw<;>try omega|fail
 all_goals refine aU ?_ rfl
 all_goals (refine congrArg I ?_;unfold jH)
 all_goals first|(simp_all;done)
mutual
def kW: Expr->Nat
 | .mk _ _ _ l=>lF l+1
def lF: List Expr->Nat
 | []=>0
 | x::r=>Nat.max (kW x) (lF r)
end
mutual
def fN: Expr->Nat
 | .mk _ _ _ l=>lZ l+1
def lZ: List Expr->Nat
 | []=>0
 | x::r=>fN x+lZ r
end
def yX(l:List Expr): l.length<=lZ l:=by
 induction l with
 | nil=>simp[lZ]
 | cons x r ih=>cases x;simp only[lZ,fN,List.length_cons];omega
def yY{l:List Expr}{x:Expr}(h:x ∈ l): fN x<=lZ l:=by
 induction l with
 | nil=>cases h
 | cons y r ih =>
   simp only[lZ];rcases List.mem_cons.1 h with rfl|h
   ·omega
   ·have:=ih h;omega
def ZA: ∀ x,kW x<=fN x:=by
 intro x
 induction x using Expr.ind with
 | h op v s l ih =>
   simp only[kW,fN]
   have:lF l<=lZ l:=by
    clear op v s
    induction l with
    | nil=>simp[lF]
    | cons y r Tj =>
      simp only[lF,lZ];have h1:=ih y (by simp);have h2:=Tj (fun z hz=>ih z (bF _ hz));exact Nat.max_le.2 ⟨by omega,by omega⟩
   omega
def RH(l:List Expr)(x:Expr): lF (l++[x])=Nat.max (lF l) (kW x):=by
 induction l with
 | nil=>simp only[cP,lF];exact Nat.max_comm _ _
 | cons y r ih=>simp only[bD,lF,ih];exact(Nat.max_assoc _ _ _).symm
def take_succ{α : Type}[Inhabited α]{l:List α}{k:Nat}(h:k<l.length): l.take (k+1)=l.take k++[l.getD k default]:=by
 rw[List.take_succ_eq_append_getElem h,aj,aL h];rfl
def RI{l:List Expr}{k:Nat}(h:k<l.length): lF (l.take (k+1))=Nat.max (lF (l.take k)) (kW (l.getD k default)):=by
 rw[take_succ h,RH]
def Mz(l:List Expr)(k:Nat): lF (l.take k)<=lZ l:=by
 have:∀ l:List Expr,lF l<=lZ l:=fun l=>by
  have:=ZA (.mk 0 default [] l);simp only[kW,fN]at this;omega
 refine cB (this _) ?_
 induction l generalizing k with
 | nil=>simp[lZ]
 | cons x r ih => cases k with
   | zero=>simp[lZ]
   | succ k=>simp only[List.take_succ_cons,lZ];have:=ih k;omega
def yp(x:Expr)(hx:fN x<=2 ^ 60): aP aK 157 [bf x] (I (kW x)):=by
 induction x using Expr.ind with
 | h op v s l ih =>
   simp only[fN]at hx;have hlen:=yX l
   have hih:∀ k,k<l.length->aP aK 157 [bf (l.getD k default)] (I (kW (l.getD k default))):=fun k hk =>
    ih _ (bJ hk) (by have:=yY (bJ hk);omega)
   refine aR H9 ?_;intro Q aF aG aH;repeat' first|refine aE ?_|refine aD ?_ ?_<;>intro hw<;>try omega|fail
   with_reducible refine bZ [3,5,9,10,11,12,13,14,15,16,17] (fun p:Nat × List aY=>[(9,I p.1),(3,I (lF (l.take p.1)))]) (fun p=> .cells [I op,I v.kind,I v.n,.str v.s,.str s,.aO false EX (l.map bf)]::p.2) (fun p=>p.1<=l.length) (fun p=>l.length-p.1) (0,[]) ?_ ?_ ?_ ?_
   ·simp
   ·rfl
   ·exact at_
   rintro⟨i,τ⟩ r h1;dsimp only at h1;by_cases hi:i<l.length
   ·have hy:=hih i hi
    have hmax:(if((lF (l.take i):Nat):Int)<((kW (l.getD i default):Nat):Int)then ((kW (l.getD i default):Nat):Int)else ((lF (l.take i):Nat):Int))=((lF (l.take (i+1)):Nat):Int):=by
     rw[RI hi];show _=((max (lF (l.take i)) (kW (l.getD i default)):Nat):Int);by_cases hm:lF (l.take i)<=kW (l.getD i default)
     ·rw[Nat.max_eq_right hm];split<;>omega
     ·rw[Nat.max_eq_left (by omega)];split<;>omega
    rw[bB]at hy;repeat' first|simp (disch:=omega) only[go_sem,aF,aG,aH,hmax]|refine aE ?_|refine aD ?_ ?_<;>intro hw<;>try omega|fail
    refine⟨(i+1,τ++[.cells [I (l.getD i default).op,I (l.getD i default).v.kind,I (l.getD i default).v.n,.str (l.getD i default).v.s,.str (l.getD i default).s,.aO false EX ((l.getD i default).l.map bf)]]),?_,?_,by first|rfl|(simp[go_sem];done),dH,at_⟩<;>(try dsimp only)
    ·omega
    ·omega
   ·have h3:=Mz l l.length;rw[List.take_length]at h3;have h2:l.take i=l:=bw (by omega);have h4:=Mz l i;rw[h2]at h4;repeat' first|simp (disch:=omega) only[go_sem,aF,aG,aH,h2]|refine aE ?_|refine aD ?_ ?_<;>intro hw<;>try omega|fail
    refine aU ?_ rfl;refine congrArg I ?_;simp only[kW];omega
def gy{α β : Type}(p : α-> β->Bool): List α->List β->Bool
 | [],[]=>true
 | x::r,y::t=>p x y && gy p r t
 | _,_=>false
def nH{α β : Type}{p : α-> β->Bool}: ∀ {l:List α} {m:List β},l.length≠m.length->gy p l m=false
 | [],[],h=>absurd rfl h
 | [],_::_,_=>rfl
 | _::_,[],_=>rfl
 | x::r,y::t,h=>by simp only[gy];rw[nH (by simpa using h),fT]
def pn{α β : Type}[Inhabited α][Inhabited β]{p : α-> β->Bool}: ∀ {l:List α} {m:List β} {i:Nat},i<l.length->p (l.getD i default) (m.getD i default)=false->i<m.length->gy p l m=false
 | x::r,y::t,0,_,h,_=>by simp only[aT]at h;simp only[gy,h,gE]
 | x :: r, y :: t, i + 1, h1, h, h2 => by
   simp only[cq]at h;simp only[gy];rw[pn (i:=i) (by simpa using h1) h (by simpa using h2),fT]
def nI{α β : Type}[Inhabited α][Inhabited β]{p : α-> β->Bool}: ∀ {l:List α} {m:List β},l.length=m.length->(∀ k,k<l.length->p (l.getD k default) (m.getD k default)=true)->gy p l m=true
 | [],[],_,_=>rfl
 | x :: r, y :: t, h, hp => by
   have h0:=hp 0 (by simp);simp only[aT]at h0;simp only[gy,h0,dZ];exact nI (by simpa using h) (fun k hk=>by have:=hp (k+1) (by simpa using hk);simpa only[cq]using this)
@[go_sem] def ago {α : Type} (τ : List α) (c d : α):(τ++[c]++[d])[τ.length+1]? = some d:=by simp
@[go_sem] def agp {α : Type} (τ : List α) (c d : α):(τ++[c]++[d])[τ.length]? = some c:=by simp
@[go_sem] def agr {α : Type} (τ : List α) (c d e : α):(τ++[c]++[d]).set (τ.length+1) e = τ++[c]++[e]:=by simp
def yZ (fn : FuncId) (cap : List AV) (hcap : AV.cA cap = true) (p : Expr -> Expr -> Bool) (l m : List Expr)
    (h:∀ k,k<l.length->k<m.length->aP aK fn (bf (l.getD k default)::bf (m.getD k default)::cap) (.bool (p (l.getD k default) (m.getD k default)))) (hl:l.length<=2 ^ 62) (hm:m.length<=2 ^ 62) :
    aP aK 271 [dA l,dA m,.fn (.func fn) [] cap] (.bool (gy p l m)):=by
 refine aR wM ?_ (by simp[AV.dz,AV.cA,hcap,pS]);intro Q aF aG aH;repeat' first|refine aE ?_|refine aD ?_ ?_<;>intro hw<;>try omega|fail
 ·refine aU ?_ rfl;rw[nH (by omega)]
 have oq:l.length=m.length:=by omega
 with_reducible refine bZ [6,7,8,9,17,18,19,20,21,22,23,24,25,26,27,28,29,30,31] (fun p:Nat × List aY=>[(17,I p.1)]) (fun p=>p.2) (fun q=>q.1<=l.length/\ ∀ k,k<q.1->p (l.getD k default) (m.getD k default)=true) (fun p=>l.length-p.1) (0,[]) ?_ ?_ ?_ ?_
 ·simp
 ·rfl
 ·exact at_
 rintro⟨i,τ⟩ r ⟨h1,h2⟩;dsimp only at h1 h2;by_cases hi:i<l.length
 ·have hy:=h i hi (by omega);rw[bB,bB]at hy;repeat' first|refine aE ?_|refine aD ?_ ?_<;>intro hw<;>try omega|fail
  ·refine aU ?_ rfl;rw[pn hi hw (by omega)]
  ·refine⟨(i+1,τ++[.cells [I (l.getD i default).op,I (l.getD i default).v.kind,I (l.getD i default).v.n,.str (l.getD i default).v.s,.str (l.getD i default).s,.aO false EX ((l.getD i default).l.map bf)]]++[.cells [I (m.getD i default).op,I (m.getD i default).v.kind,I (m.getD i default).v.n,.str (m.getD i default).v.s,.str (m.getD i default).s,.aO false EX ((m.getD i default).l.map bf)]]),?_,?_,by first|rfl|(simp[go_sem];done),dH,at_⟩<;>(try dsimp only)
   ·exact⟨by omega,bI h2 hw⟩
   ·omega
 ·repeat' first|refine aE ?_|refine aD ?_ ?_<;>intro hw<;>try omega|fail
  refine aU ?_ rfl;rw[nI oq (fun k hk=>h2 k (by omega))]
mutual
def uk: Expr->Expr->Bool
 | .mk o v s l,y=>decide (o=y.op) && decide (v=y.v) && decide (s=y.s) && zW l y.l
def zW: List Expr->List Expr->Bool
 | [],[]=>true
 | x::r,y::t=>uk x y && zW r t
 | _,_=>false
end
def MA: ∀(l m:List Expr),zW l m=gy uk l m
 | [],[]=>rfl
 | [],_::_=>rfl
 | _::_,[]=>rfl
 | x::r,y::t=>by simp only[zW,gy,MA r t]
mutual
def MB: Expr->Prop
 | .mk _ _ _ l=>l.length<=2 ^ 60/\Uj l
def Uj: List Expr->Prop
 | []=>True
 | x::r=>MB x/\Uj r
end
def PY{l:List Expr}{x:Expr}(h:Uj l)(hx:x ∈ l): MB x:=by
 induction l with
 | nil=>cases hx
 | cons y r ih =>
   simp only[Uj]at h;rcases List.mem_cons.1 hx with rfl|hx
   ·exact h.1
   ·exact ih h.2 hx
def abw{l:List Expr}(h:∀ x ∈ l,MB x): Uj l:=by
 induction l with
 | nil=>trivial
 | cons y r ih=>exact⟨h y (by simp),ih (fun x hx=>h x (bF _ hx))⟩
def Uk(x:Expr): fN x<=2 ^ 60->MB x:=by
 induction x using Expr.ind with
 | h op v s l ih =>
   intro h;simp only[fN]at h;have hl:=yX l;exact⟨by omega,abw (fun y hy=>ih y hy (by have:=yY hy;omega))⟩
def OF(x:Expr): ∀ y:Expr,MB x->MB y->aP aK 238 [bf x,bf y] (.bool (uk x y)):=by
 induction x using Expr.ind with
 | h op v s l ih =>
   rintro⟨op',v',s',m⟩ hx hy;simp only[MB]at hx hy;obtain⟨hl,MC⟩:=hx;obtain⟨hm,Tl⟩:=hy;have hc:=yZ 238 [] rfl uk l m (fun k h1 h2=>ih _ (bJ h1) _ (PY MC (bJ h1)) (PY Tl (bJ h2))) (by omega) (by omega);rw[<-MA]at hc;simp only[dA]at hc;obtain⟨vk,vn,vs⟩:=v;obtain⟨vk',vn',vs'⟩:=v';refine aR Ie ?_;intro Q aF aG aH;repeat' first|refine aE ?_|refine aD ?_ ?_<;>intro hw<;>try omega|fail
   all_goals refine aU ?_ rfl
   all_goals (refine congrArg AV.bool ?_;simp only[uk,Expr.op,Expr.v,Expr.s,Expr.l])
   all_goals (rw[a_];simp_all)
def y2 (fn : FuncId) (cap : List AV) (hcap : AV.cA cap = true) (p : Expr -> Bool) (l : List Expr) (h : ∀ k, k < l.length -> aP aK fn (bf (l.getD k default) :: cap) (.bool (p (l.getD k default)))) (hl : l.length <= 2 ^ 62) :
    aP aK 240 [dA l,.fn (.func fn) [] cap] (I (fy p l)):=by
 refine aR wL ?_ (by simp[AV.dz,AV.cA,hcap,pS]);intro Q aF aG aH;repeat' first|refine aE ?_|refine aD ?_ ?_<;>intro hw<;>try omega|fail
 with_reducible refine bZ [4,5,8,9,10,11,12,13,14,15,16,17,18] (fun i:Nat=>[(8,I i)]) (fun _=>[]) (fun i=>i<=l.length/\ ∀ k,k<i->p (l.getD k default)=false) (fun i=>l.length-i) (0) ?_ ?_ ?_ ?_
 ·simp
 ·rfl
 ·exact at_
 ·rintro i r ⟨hi,hp⟩;by_cases hin:i<l.length
  ·have hx:=h i hin;rw[bB]at hx;repeat' first|refine aE ?_|refine aD ?_ ?_<;>intro hw<;>try omega|fail
   ·refine aU ?_ rfl;refine congrArg I ?_;exact(lU hin hp hw).symm
   ·refine⟨i+1,?_,?_,by first|rfl|(simp[go_sem];done),dH,at_⟩<;>(try dsimp only)
    ·exact⟨by omega,bI hp hw⟩
    ·omega
  ·repeat' first|refine aE ?_|refine aD ?_ ?_<;>intro hw<;>try omega|fail
   refine aU ?_ rfl;refine congrArg I ?_;exact(lO fun k hk=>hp k (by omega)).symm
def zX{α : Type}[Inhabited α](p : α->Bool)(l:List α): decide (0<=fy p l)=l.any p:=by
 rcases tP p l with⟨h1,h2⟩|⟨i,h1,h2,h3⟩
 ·rw[h1,show decide ((0:Int)<= -1)=false from(by decide)];symm;rw[fZ];exact dm.1 h2
 ·rw[h2,decide_eq_true (by omega)];symm;rw[List.any_eq_true];exact⟨_,bJ h1,dN h3⟩
def wP (fn : FuncId) (cap : List AV) (hcap : AV.cA cap = true) (p : Expr -> Bool) (l : List Expr) (h : ∀ k, k < l.length -> aP aK fn (bf (l.getD k default) :: cap) (.bool (p (l.getD k default)))) (hl : l.length <= 2 ^ 62) :
    aP aK 196 [dA l,.fn (.func fn) [] cap] (.bool (l.any p)):=by
 refine aR uG ?_ (by simp[AV.dz,AV.cA,hcap,pS]);intro Q aF aG aH;have hc:=y2 fn cap hcap p l h hl;simp only[dA]at hc;repeat' first|refine aE ?_|refine aD ?_ ?_<;>intro hw<;>try omega|fail
 all_goals refine aU ?_ rfl
 all_goals rw[<-zX]
def v0: eu:=⟨0,0,[]⟩
mutual
def c8: Expr->Bool
 | .mk op v s l => decide ((l.length : Int) = jH op) &&
    (if op=1 then decide (s=[]) && bT v && (decide (v.kind≠1) || decide (0<=v.n))
     else if op=2 then decide (v=v0) && eV s
     else decide (v=v0) && decide (s=[]) && qH l)
def qH: List Expr->Bool
 | []=>true
 | x::r=>c8 x && qH r
end
def zY(l:List Expr): qH l = !(l.any fun x=> !(c8 x)):=by
 induction l with
 | nil=>rfl
 | cons x r ih=>simp[qH,ih]
mutual
def jl: Expr->Prop
 | .mk _ v s l=>s.length<=2 ^ 62/\v.s.length<=2 ^ 62/\ -9223372036854775808<=v.n/\v.n<=9223372036854775807/\DZ l
def DZ: List Expr->Prop
 | []=>True
 | x::r=>jl x/\DZ r
end
def Ij{l:List Expr}{x:Expr}(h:DZ l)(hx:x ∈ l): jl x:=by
 induction l with
 | nil=>cases hx
 | cons y r ih =>
   simp only[DZ]at h;rcases List.mem_cons.1 hx with rfl|hx
   ·exact h.1
   ·exact ih h.2 hx
def Ik(x:Expr)(h:aP aK 156 [bf x] (.bool (c8 x))): aP aK 197 [bf x] (.bool (!(c8 x))):=by
 refine aR DI ?_;intro Q aF aG aH;rw[bB]at h ⊢;repeat' first|refine aE ?_|refine aD ?_ ?_<;>intro hw<;>try omega|fail
 all_goals refine aU ?_ rfl
 all_goals simp_all
def Cc(x:Expr): jl x->fN x<=2 ^ 60->aP aK 156 [bf x] (.bool (c8 x)):=by
 induction x using Expr.ind with
 | h op v s l ih =>
   intro hx hz;simp only[fN]at hz;simp only[jl]at hx;obtain⟨o1,o2,o3,o4,o5⟩:=hx;have hl:=yX l;have hc:=wP 197 [] rfl (fun x=> !(c8 x)) l (fun k h1=>Ik _ (ih _ (bJ h1) (Ij o5 (bJ h1)) (by have:=yY (bJ h1);omega))) (by omega);simp only[dA]at hc;obtain⟨vk,vn,vs⟩:=v;refine aR Gm ?_;intro Q aF aG aH;repeat' first|refine aE ?_|refine fm (My _) ?_|refine fm (qG _ _ _ o3 o4) ?_|refine fm (tQ _ o1) ?_|refine aD ?_ ?_<;>intro hw<;>try omega|fail
   all_goals refine aU ?_ rfl
   all_goals (refine congrArg AV.bool ?_;simp only[c8,zY])
   all_goals (rw[a_];simp_all[v0,mZ])
def Cd(x:Expr)(hx:jl x)(hz:fN x<=2 ^ 60): aP aK 269 [bf x] (I (mZ (c8 x))):=by
 refine aR Gs ?_;intro Q aF aG aH;have h:=Cc x hx hz;rw[bB]at h ⊢;repeat' first|refine aE ?_|refine aD ?_ ?_<;>intro hw<;>try omega|fail
 all_goals refine aU ?_ rfl
 all_goals simp_all[mZ]
def fH {v r : AV} {qu ds : List AV} {τ : ae} (hv : View (.dead :: τ) v r) (hd : bL (.dead :: τ) qu ds) :
    ∃ r0 Ub Me,Out.ret (oneOf [v])=Out.ret r0/\aY.cells qu:: τ = aY.cells Ub::Me/\View (.dead::Me) r0 r/\bL (.dead::Me) Ub ds:=⟨_,_,_,rfl,rfl,hv,hd⟩
def x0: Expr:= .mk 0 v0 [] []
def Ce(T:List Tok)(p:Nat)(b:Bool): Tok:=if b then default else T.getD p default
def ni(T:List Tok)(p:Nat)(k:Int)(s:aI): Bool:=decide (p<T.length) && (decide ((T.getD p default).kind=k) && decide ((T.getD p default).s=s))
def gD(T:List Tok)(p:Nat)(b:Bool)(k:Int)(s:aI): Bool:= !b && ni T p k s
def qU(x:AY): Int:=if x.level<3 then 1 else 4
def wQ(T:List Tok)(p:Nat)(b:Bool)(lvl:Int): Option AY:=jq.find? fun x=>x.level==lvl && gD T p b (qU x) x.sign
def JN(T:List Tok)(p:Nat)(b:Bool)(lvl:Int): Nat:=if(wQ T p b lvl).isSome then p+1 else p
def MD(o:Option AY): Int:=match o with
 | some x=>x.op
 | none=>0
def bL.eqv{σ : ae}{a b:List AV}(h:a=b)(hp:AV.cA b=true): bL σ a b:=by subst h;exact bL.refl hp
def xO(s:aI): Option eu:=if s=[110,117,108,108]then some v0 else if s=[102,97,108,115,101]then some ⟨3,0,[]⟩else if s=[116,114,117,101]then some ⟨3,1,[]⟩else none
structure RS where
 x:Expr
 p:Nat
 bad:Bool
deriving Inhabited
def dI(T:List Tok)(p:Nat)(b:Bool): List AV:=[.aO false ET (T.map oH),I p,.bool b]
attribute [go_sem] dI
def bP(T:List Tok)(p:Nat)(b:Bool): AV.cA (dI T p b)=true:=by simp[dI,AV.dz,AV.cA,Mp]
def n5{α : Type}[Inhabited α]{l:List α}{i:Nat}(h:l.length<=i): l.getD i default=default:=by
 rw[aj,List.getElem?_eq_none h];rfl
def RJ: (default:Tok)=⟨0,[],0,0⟩:=rfl
def ZB(T:List Tok)(p:Nat)(b:Bool)(k:Int)(s:aI)(hk:k≠0): gD T p b k s=(decide ((Ce T p b).kind=k) && decide ((Ce T p b).s=s)):=by
 unfold gD Ce ni;cases b with
 | true=>simp[RJ];intro h;exact absurd h.symm hk
 | false =>
   by_cases hp:p<T.length
   ·simp[hp]
   ·rw[n5 (by omega)];simp[hp,RJ];intro h;exact absurd h.symm hk
def Gw(T:List Tok)(p:Nat)(b:Bool): cY aK 319 0 [] (dI T p b) (dI T p b) (oH (Ce T p b)):=by
 refine cY.fU (zR.go ?_) rfl (bP _ _ _);unfold eP;intro Q aF aG aH;cases b with
 | true =>
   repeat' first|refine aE ?_|refine aD ?_ ?_<;>intro hw<;>try omega|fail
   exact fH (View.eqv rfl rfl) (bL.refl (bP T p true))
 | false =>
   by_cases hp:p<T.length
   ·repeat' first|refine aE ?_|refine aD ?_ ?_<;>intro hw<;>try omega|fail
    refine fH (View.eqv ?_ rfl) (bL.refl (bP T p false));simp only[Ce];rfl
   ·repeat' first|refine aE ?_|refine aD ?_ ?_<;>intro hw<;>try omega|fail
    refine fH (View.eqv ?_ rfl) (bL.refl (bP T p false));simp only[Ce];rw[n5 (by omega)];rfl
def sM(T:List Tok)(p:Nat)(b:Bool)(k:Int)(s:aI): Nat:=if gD T p b k s then p+1 else p
def Cf(T:List Tok)(p:Nat)(b:Bool)(k:Int)(s:aI)(hk:k≠0)(hp:p<=2 ^ 61): cY aK 310 0 [I k,.str s] (dI T p b) (dI T (sM T p b k s) b) (.bool (gD T p b k s)):=by
 have hn:=Gw T p b;unfold sM;rw[ZB T p b k s hk];generalize Ce T p b=t at hn ⊢;obtain⟨tk,ts,tn,tp⟩:=t;simp only[dI,oH]at hn;refine cY.fU (Bi.go ?_) rfl (bP _ _ _);unfold eP;intro Q aF aG aH;repeat' first|refine aE ?_|refine cW hn ?_|refine aD ?_ ?_<;>intro hw<;>try omega|fail
 all_goals first
  |(refine fH (View.eqv ?_ rfl) (bL.eqv ?_ (bP _ _ _))<;>simp_all[dI];done)
def yq(T:List Tok)(p:Nat)(b:Bool)(k:Int)(s:aI)(hk:k≠0)(hp:p<=2 ^ 61): cY aK 320 0 [I k,.str s] (dI T p b) (dI T (sM T p b k s) (b || !(gD T p b k s))) (.bO []):=by
 have hn:=Cf T p b k s hk hp;generalize gD T p b k s=o at hn ⊢;simp only[dI]at hn;refine cY.fU (yW.go ?_) rfl (bP _ _ _);unfold eP;intro Q aF aG aH;cases o
 ·repeat' first|refine aE ?_|refine cW hn ?_|refine aD ?_ ?_<;>intro hw<;>try omega|fail
  refine Gd rfl (bL.eqv ?_ (bP _ _ _));simp[dI]
 ·repeat' first|refine aE ?_|refine cW hn ?_|refine aD ?_ ?_<;>intro hw<;>try omega|fail
  refine Gd rfl (bL.eqv ?_ (bP _ _ _));simp[dI]
def ME(s:aI): aP aK 321 [.str s] (.bO [fF ((xO s).getD v0),.bool (xO s).isSome]):=by
 refine aR Ih ?_;intro Q aF aG aH;repeat' first|refine aE ?_|refine aD ?_ ?_<;>intro hw<;>try omega|fail
 all_goals refine b_ ?_ rfl
 all_goals simp_all[xO,fF,v0]
def AZ(T:List Tok)(p:Nat)(b:Bool)(lvl:Int)(hp:p<=2 ^ 61): cY aK 313 0 [I lvl] (dI T p b) (dI T (JN T p b lvl) b) (I (MD (wQ T p b lvl))):=by
 refine cY.fU (xg.go ?_) rfl (bP _ _ _);unfold eP;intro Q aF aG aH;have hl:jq.length=12:=rfl;have ho:=fun k s (hk:k≠0)=>Cf T p b k s hk hp;simp only[dI]at ho;repeat' first|refine aE ?_|refine fm xN ?_|refine aD ?_ ?_<;>intro hw<;>try omega|fail
 with_reducible refine bZ [4,6,7,10,11,12,13,14,15,16,17,18,19,20,21,22,23,24,25,26,27,28,29,30] (fun q:Nat × List aY=>[(10,I q.1)]) (fun q=> .cells [.aO false ET (T.map oH),I p,.bool b]::q.2) (fun q=>q.1<=12/\ ∀ k,k<q.1->((jq.getD k default).level==lvl && gD T p b (qU (jq.getD k default)) (jq.getD k default).sign)=false) (fun q=>12-q.1) (0,[]) ?_ ?_ ?_ ?_
 ·simp
 ·rfl
 ·exact at_
 rintro⟨i,τ⟩ r ⟨h1,h2⟩;dsimp only at h1 h2;by_cases hi:i<12
 ·obtain⟨x,hx⟩:∃ x,jq.getD i default=x:=⟨_,rfl⟩
  have hyes:(x.level==lvl && gD T p b (qU x) x.sign)=true->wQ T p b lvl=some x:=fun h=>by
   unfold wQ;rw[wg (p:=fun y:AY=>y.level==lvl && gD T p b (qU y) y.sign) hi h2 (by rw[hx];exact h),hx]
  have W6:(x.level==lvl && gD T p b (qU x) x.sign)=false-> ∀ k,k<i+1->((jq.getD k default).level==lvl && gD T p b (qU (jq.getD k default)) (jq.getD k default).sign)=false:=fun h=>bI h2 (by rw[hx];exact h);have kR:(x.level<3/\qU x=1)\/(¬ x.level<3/\qU x=4):=by unfold qU;split<;>simp_all
  clear h2;rcases kR with⟨hlv,hkb⟩|⟨hlv,hkb⟩;all_goals rw[hkb]at hyes W6
  all_goals (
   repeat' first|simp (disch:=omega) only[go_sem,aF,aG,aH,hx]|refine aE ?_|with_reducible refine HN (ho 1 _ (by decide)) rfl ?_|with_reducible refine HO (ho 1 _ (by decide)) rfl ?_|with_reducible refine HP (ho 1 _ (by decide)) rfl ?_|with_reducible refine HN (ho 4 _ (by decide)) rfl ?_|with_reducible refine HO (ho 4 _ (by decide)) rfl ?_|with_reducible refine HP (ho 4 _ (by decide)) rfl ?_|refine aD ?_ ?_<;>intro hw<;>try omega|fail
   ·rename_i _ hlq;have hy:=hyes (by rw[hlq,hw];simp);refine fH (View.eqv ?_ rfl) (bL.eqv ?_ (bP _ _ _))
    ·rw[hy];rfl
    ·simp[dI,JN,hy,sM,hw]
   ·rename_i hlq;refine⟨(i+1,τ++[.cells [I x.op,.str x.sign,I x.level]]),?_,?_,?_,dH,at_⟩<;>(try dsimp only)
    ·exact⟨by omega,W6 (by rw[hw];simp)⟩
    ·omega
    ·simp[sM,hw]
   ·refine⟨(i+1,τ++[.cells [I x.op,.str x.sign,I x.level]]),?_,?_,?_,dH,at_⟩<;>(try dsimp only)
    ·exact⟨by omega,W6 (by rw[beq_eq_false_iff_ne.2 hw];rfl)⟩
    ·omega)
 ·have hno : wQ T p b lvl = none := by
   unfold wQ;rw[wO (p:=fun y:AY=>y.level==lvl && gD T p b (qU y) y.sign) (fun k hk=>h2 k (by omega))]
  repeat' first|refine aE ?_|refine aD ?_ ?_<;>intro hw<;>try omega|fail
  refine fH (View.eqv ?_ rfl) (bL.eqv ?_ (bP _ _ _))<;>simp_all[dI,MD,JN]
