/- Part. -/
import Derived.Test.YtcjcnfcedihckaaGreatDoorW19
set_option linter.all false
namespace Go.Proofs.YtcjcnfcedihckaaGreatDoor
open Go.AM
set_option maxRecDepth 4000
def NJ(p:List Tok × Int × Int): AV:= .bU [tj p.1,I p.2.1,I p.2.2]
attribute [go_sem] NJ
def Yc(f pos:Nat)(acc:List Tok): pP f [] pos acc=(acc,0,0):=by cases f<;>rfl
def sx (f pos : Nat) (acc : List Tok) (c : UInt8) (r : aI) : pP (f + 1) (c :: r) pos acc =
    if c.toNat=32 then pP f r (pos+1) acc
    else if(iy (c::r)).e=0 then pP f ((c::r).drop (iy (c::r)).len) (pos+(iy (c::r)).len) (acc++[⟨(iy (c::r)).kind,(iy (c::r)).s,(iy (c::r)).n,pos⟩])
    else([],pos,(iy (c::r)).e):=rfl
def Jt(s:aI)(hs:s.length<=2 ^ 30): aM aK 222 [.str s] (NJ (bN s)):=by
 unfold bN;by_cases hbig:200<s.length
 ·rw[if_pos hbig];refine aR Hh ?_;intro Q aC aD aE;repeat' first|refine aG ?_|refine aF ?_ ?_<;>intro hw<;>try omega|fail
  refine cK ?_;exact gM
 rw[if_neg hbig];generalize hT:pP (s.length+1) s 0 []=T;refine aR Hh ?_;intro Q aC aD aE;repeat' first|refine aG ?_|refine aF ?_ ?_<;>intro hw<;>try omega|fail
 with_reducible refine bX [2,3,4,5,6,7,8,12,13,14,15,16,17,18,19,20,21,22,23,24,25,26,27,28,29,30,31,32,33,34,35,36,37,38,39,40,41,42,43,44,45,46,47,48,49,50] (fun p:Nat × List Tok × List aZ=>[(6,I p.1),(5,.own ET 0 p.2.1.length 0 p.2.1.length)]) (fun p=> .vec ET (p.2.1.map o8)::p.2.2) (fun p=>p.1<=s.length/\p.2.1.length<=p.1/\ ∃ f,s.length-p.1<f/\T=pP f (s.drop p.1) p.1 p.2.1) (fun p=>s.length-p.1) (0,[],[]) ?_ ?_ ?_ ?_
 ·exact⟨by simp,by simp,s.length+1,by omega,hT.symm⟩
 ·rfl
 ·exact at_
 rintro⟨pos,acc,τ⟩ r ⟨h1,h2,f,h3,h4⟩;dsimp only at h1 h2 h3 h4;repeat' first|refine aG ?_|refine aF ?_ ?_<;>intro hw<;>try omega|fail
 with_reducible refine bX [6,12,13,14,15,16,17,18,19,20,21,22,23] (fun p:Nat=>[(6,I p)]) (fun _=> .vec ET (acc.map o8):: τ) (fun p=>pos<=p/\p<=s.length/\ ∃ f,s.length-p<f/\T=pP f (s.drop p) p acc) (fun p=>s.length-p) pos ?_ ?_ ?_ ?_
 ·exact⟨Nat.le_refl _,h1,f,h3,h4⟩
 ·rfl
 ·exact at_
 clear h3 h4;clear f;rintro p r2 ⟨k0,k1,f,k2,k3⟩;obtain⟨f,rfl⟩:∃ g,f=g+1:=⟨f-1,by omega⟩;by_cases hp:p<s.length
 ·rw[pQ hp,sx]at k3;have hne:s.drop p≠[]:=by rw[pQ hp];simp
  have hlen:(s.drop p).length<=2 ^ 30:=by rw[List.length_drop];omega
  rw[<-pQ hp]at k3;have hnx:=Yb (s.drop p) hne hlen;have ZQ:=ND hne;rw[List.length_drop]at ZQ;generalize iy (s.drop p)=q at *;obtain⟨qk,qs,qn,ql,qe⟩:=q;dsimp only at k3 ZQ;repeat' first|refine aG ?_|refine aF ?_ ?_<;>intro hw<;>try omega|fail
  ·rw[if_pos (by omega)]at k3;refine⟨p+1,?_,?_,by first|rfl|(simp[go_sem];done),da,at_⟩<;>(try dsimp only)
   ·exact⟨by omega,by omega,f,by omega,k3⟩
   ·omega
  ·rw[if_neg (by omega),if_neg hw]at k3;refine cK ?_;rw[k3];exact bS.cons (View.au _) (bS.refl rfl)
  ·rw[if_neg (by omega),if_pos hw,List.drop_drop]at k3;refine⟨(p+ql,acc++[⟨qk,qs,qn,p⟩],τ++[.cells [I qk,.str qs,I qn,I p,I ql]]),?_,?_,by first|rfl|(simp[go_sem];done),da,at_⟩<;>(try dsimp only)
   ·exact⟨by omega,by simp;omega,f,by omega,k3⟩
   ·omega
 ·rw[iZ (by omega),Yc]at k3;repeat' first|refine aG ?_|refine aF ?_ ?_<;>intro hw<;>try omega|fail
  refine cK ?_;rw[k3];exact bS.cons (View.vec rfl (by simp) (by simp) (NB _)) (bS.refl rfl)
def uz{p:UInt8->Bool}: ∀ {s:aI} {i:Nat},i<=(s.takeWhile p).length->i<s.length->p (s.getD i 0)=true->i<(s.takeWhile p).length
 | [],i,_,h,_=>by simp at h
 | c::r,0,_,_,hp=>by simp only[aV]at hp;simp[ek,hp]
 | c :: r, i + 1, h1, h2, hp => by
   simp only[cq]at hp;simp only[ek]at h1 ⊢;split at h1
   ·simp only[List.length_cons]at h1 h2 ⊢;have:=uz (p:=p) (s:=r) (i:=i) (by omega) (by omega) hp;split<;>simp_all
   ·simp at h1
def Aw(s:aI)(i:Nat)(v:Int)(over:Bool): Prop:=i<=(s.takeWhile ep).length/\(over=false->nY (s.takeWhile ep) 0=nY ((s.takeWhile ep).drop i) v)/\(over=true->nY (s.takeWhile ep) 0=none)
def Aw.step {s : aI} {i : Nat} {v : Int} (h : Aw s i v false) (hi : i < s.length) (hd : ep (s.getD i 0) = true) :
    (v>(9223372036854775807-(((s.getD i 0).toNat:Int)-48)) / 10->Aw s (i+1) v true) /\
    (¬ v>(9223372036854775807-(((s.getD i 0).toNat:Int)-48)) / 10->Aw s (i+1) (v*10+(((s.getD i 0).toNat:Int)-48)) false):=by
 obtain⟨h1,h2,_⟩:=h;have hlt:i<(s.takeWhile ep).length:=uz h1 hi hd;have h3:=uw hlt;have h4:(s.takeWhile ep).drop i=s.getD i 0::(s.takeWhile ep).drop (i+1):=by rw[pQ hlt,<-h3.1]
 rw[h4]at h2;simp only[nY]at h2;refine⟨fun hv=>⟨by omega,fun h=>by simp at h,fun _=>?_⟩,fun hv=>⟨by omega,fun _=>?_,fun h=>by simp at h⟩⟩
 ·rw[h2 trivial,if_pos hv]
 ·rw[h2 trivial,if_neg hv]
def Aw.over{s:aI}{i:Nat}{v:Int}(h:Aw s i v true)(hi:i<s.length)(hd:ep (s.getD i 0)=true): Aw s (i+1) v true :=
 ⟨uz h.1 hi hd,fun h=>by simp at h,h.2.2⟩
def Aw.fin{s:aI}{i:Nat}{v:Int}{o:Bool}(h:Aw s i v o)(hi:i<s.length->ep (s.getD i 0)=false)(hl:i<=s.length): (s.takeWhile ep).length=i/\nY (s.takeWhile ep) 0=if o then none else some v:=by
 have hlen:(s.takeWhile ep).length=i:=by
  have h1:=h.1;apply Nat.le_antisymm _ h1;apply Nat.le_of_not_lt;intro hlt;have h3:=(uw hlt).2;have:i<s.length:=dL hlt (tB s);rw[hi this]at h3;cases h3
 refine⟨hlen,?_⟩;cases o with
 | false=>rw[h.2.1 rfl,iZ (by omega)];rfl
 | true=>rw[h.2.2 rfl];rfl
def wO{α : Type}[Inhabited α]{p : α->Bool}{l:List α}{i:Nat}(hi:i<l.length)(h:∀ k,k<i->p (l.getD k default)=false)(hp:p (l.getD i default)=true): l.find? p=some (l.getD i default):=by
 have h1:=mo hi h hp;rcases ux p l with⟨h2,h3⟩|⟨j,h2,h3,h4⟩
 ·omega
 ·have:j=i:=by omega
  subst this;exact h4
def xm{α : Type}[Inhabited α]{p : α->Bool}{l:List α}(h:∀ k,k<l.length->p (l.getD k default)=false): l.find? p=none:=by
 have h1:=lZ h;rcases ux p l with⟨h2,h3⟩|⟨j,h2,h3,h4⟩
 ·exact h3
 ·omega
def Vs{α : Type}[Inhabited α]{p : α->Bool}{l:List α}{i:Nat}(hi:i<l.length)(hp:p (l.getD i default)=true): l.any p=true:=by
 rw[List.any_eq_true];exact⟨_,bH hi,hp⟩
def Re{α : Type}[Inhabited α]{p : α->Bool}{l:List α}(h:∀ k,k<l.length->p (l.getD k default)=false): l.any p=false:=by
 rw[gE];intro x hx;obtain⟨k,hk,rfl⟩:=bz hx;have:=h k hk;rw[aj,aN hk,bA]at this;simp[this]
def bP{q:Nat->Prop}{i:Nat}(h:∀ k,k<i->q k)(hi:q i): ∀ k,k<i+1->q k:=fun k hk=>by
 by_cases h2:k<i
 ·exact h k h2
 ·have:k=i:=by omega
  subst this;exact hi
def CL{s:aI}{p:UInt8->Bool}{i:Nat}(hi:i<s.length)(hp:p (s.getD i 0)=false): s.all p=false:=by
 rw[List.all_eq_false];refine⟨s.getD i 0,?_,ne_true_of_eq_false hp⟩;rw[aj,aN hi];exact cU hi
def Rf{s:aI}{p:UInt8->Bool}(h:∀ k,k<s.length->p (s.getD k 0)=true): s.all p=true:=by
 rw[aX];intro x hx;obtain⟨k,hk,rfl⟩:=bz hx;have:=h k hk;rwa[aj,aN hk]at this
def wB(c:UInt8): jY c=true↔32<=c.toNat/\c.toNat<=126:=by simp[jY]
def q9(c:UInt8): jY c=false↔c.toNat<32\/126<c.toNat:=by
 rw[<-Bool.not_eq_true,wB];omega
def PV(s:aI): aM aK 129 [.str s] (.bool (gK s)):=by
 refine aR Jj ?_;intro Q aC aD aE;repeat' first|refine aG ?_|refine aF ?_ ?_<;>intro hw<;>try omega|fail
 ·refine aS ?_ rfl;simp only[gK];rw[decide_eq_false (by omega),gY]
 with_reducible refine bX [2,4,10,11,12,13,14,15,16,17,18] (fun i:Nat=>[]) (fun i=>[.jc s i]) (fun i=>i<=s.length/\ ∀ k,k<i->jY (s.getD k 0)=true) (fun i=>s.length-i) 0 ?_ ?_ ?_ ?_
 ·simp
 ·rfl
 ·exact at_
 rintro i r ⟨h1,h2⟩;by_cases hi:i<s.length
 ·by_cases ha:(s.getD i 0).toNat<128
  ·repeat' first|refine aG ?_|refine aF ?_ ?_<;>intro hw<;>try omega|fail
   ·refine aS ?_ rfl;simp only[gK];rw[CL (p:=jY) hi ((q9 _).2 (.inr (by omega))),f_]
   ·refine⟨i+1,?_,?_,by first|rfl|(simp[go_sem];done),da,at_⟩<;>(try dsimp only)
    ·exact⟨by omega,bP h2 ((wB _).2 ⟨by omega,by omega⟩)⟩
    ·omega
   ·refine aS ?_ rfl;simp only[gK];rw[CL (p:=jY) hi ((q9 _).2 (.inl (by omega))),f_]
  ·have hw2:=PC hi (by omega);repeat' first|refine aG ?_|refine aF ?_ ?_<;>intro hw<;>try omega|fail
   all_goals refine aS ?_ rfl
   all_goals (simp only[gK];rw[CL (p:=jY) hi ((q9 _).2 (.inr (by omega))),f_])
 ·have:i=s.length:=by omega
  repeat' first|refine aG ?_|refine aF ?_ ?_<;>intro hw<;>try omega|fail
  refine aS ?_ rfl;simp only[gK];rw[decide_eq_true (by omega),Rf (fun k hk=>h2 k (by omega))];rfl
def PW(s:aI)(hs:s.length<=2 ^ 62): aM aK 141 [.str s] (.bool (gK s)):=by
 refine aR Jk ?_;intro Q aC aD aE;repeat' first|refine aG ?_|refine aF ?_ ?_<;>intro hw<;>try omega|fail
 with_reducible refine bX [2,3,4,5,6,7,8,9,10,11,12,13,14,15,16,17,18,19] (fun i:Nat=>[(3,I i)]) (fun i=>[]) (fun i=>i<=s.length/\ ∀ k,k<i->jY (s.getD k 0)=true) (fun i=>s.length-i) (0) ?_ ?_ ?_ ?_
 ·simp
 ·rfl
 ·exact at_
 rintro i r ⟨h1,h2⟩;by_cases hi:i<s.length
 ·repeat' first|refine aG ?_|refine aF ?_ ?_<;>intro hw<;>try omega|fail
  ·refine aS ?_ rfl;simp only[gK];rw[CL (p:=jY) hi ((q9 _).2 (.inr (by omega))),f_]
  ·refine⟨i+1,?_,?_,by first|rfl|(simp[go_sem];done),da,at_⟩<;>(try dsimp only)
   ·exact⟨by omega,bP h2 ((wB _).2 ⟨by omega,by omega⟩)⟩
   ·omega
  ·refine aS ?_ rfl;simp only[gK];rw[CL (p:=jY) hi ((q9 _).2 (.inl (by omega))),f_]
 ·repeat' first|refine aG ?_|refine aF ?_ ?_<;>intro hw<;>try omega|fail
  refine aS ?_ rfl;simp only[gK];rw[Rf (fun k hk=>h2 k (by omega)),fW];refine congrArg AV.bool ?_;rw[a_,decide_eq_true_eq,decide_eq_true_eq];omega
def FP(n:Int)(s:aI): bZ ⟨0,n,s⟩=(decide (n=0) && decide (s=[])):=rfl
def FQ(n:Int)(s:aI): bZ ⟨1,n,s⟩=decide (s=[]):=rfl
def FR(n:Int)(s:aI): bZ ⟨2,n,s⟩=(decide (n=0) && gK s):=rfl
def FT(n:Int)(s:aI): bZ ⟨3,n,s⟩=(decide (s=[]) && (decide (n=0) || decide (n=1))):=rfl
def NL(k n:Int)(s:aI)(h0:k≠0)(h1:k≠1)(h2:k≠2)(h3:k≠3): bZ ⟨k,n,s⟩=false:=by
 simp[bZ,h0,h1,h2,h3]
def nF(b:Bool): Int:=if b then 0 else 2
def SV(x:BitVec 64): x &&& ~~~ 1#64=0#64↔x=0#64\/x=1#64:=by
 constructor
 ·intro h
  have hb:∀ i,1<=i->i<64->x.getLsbD i=false:=fun i h1 h2=>by
   have:=congrArg (fun y=>BitVec.getLsbD y i) h
   have h3:(1#64).getLsbD i=false:=by
    rw[BitVec.getLsbD_one];simp;omega
   simp only[BitVec.getLsbD_and,BitVec.getLsbD_not,h3,h2,decide_true,fZ,fW,BitVec.getLsbD_zero]at this;exact this
  cases h0:x.getLsbD 0 with
  | false =>
    left;apply BitVec.eq_of_getLsbD_eq;intro i hi;by_cases hz:i=0
    ·subst hz;rw[h0];rfl
    ·rw[hb i (by omega) hi];simp
  | true =>
    right;apply BitVec.eq_of_getLsbD_eq;intro i hi;by_cases hz:i=0
    ·subst hz;rw[h0];rfl
    ·rw[hb i (by omega) hi,BitVec.getLsbD_one];simp[hz]
 ·rintro(rfl|rfl)<;>decide
def PX(m:Nat)(h:m<18446744073709551616): IntKind.wrap .i64 m=0↔m=0:=by
 simp only[IntKind.wrap,IntKind.bits,IntKind.signed];simp;omega
def agr(n:Int)(h : -9223372036854775808<=n)(h':n<=9223372036854775807): j5 .andNot .i64 n 1=0↔n=0\/n=1:=by
 rw[mz];show IntKind.wrap .i64 ((BitVec.ofInt 64 n &&& ~~~ BitVec.ofInt 64 1).toNat:Int)=0↔_;rw[PX _ (BitVec.isLt _)]
 have h1:(BitVec.ofInt 64 n &&& ~~~ BitVec.ofInt 64 1).toNat=0↔BitVec.ofInt 64 n &&& ~~~ 1#64=0#64:=by
  rw[<-BitVec.toNat_inj];rfl
 rw[h1,SV,<-BitVec.toNat_inj,<-BitVec.toNat_inj];simp only[BitVec.toNat_ofInt,BitVec.toNat_ofNat];omega
def q_(k n:Int)(s:aI)(h : -9223372036854775808<=n)(h':n<=9223372036854775807): aM aK 85 [.agg [I k,I n,.str s]] (I (nF (bZ ⟨k,n,s⟩))):=by
 refine aR Jf ?_;intro Q aC aD aE;repeat' first|refine aG ?_|refine eU (PV _) ?_|refine aF ?_ ?_<;>intro hw<;>try omega|fail
 all_goals refine aS ?_ rfl
 all_goals (refine congrArg I ?_;unfold nF;try rw[agr n h h']at hw)
 all_goals (try subst k)
 all_goals first
  |(rw[if_neg (by rw[FP];simp_all)];done)
  |(rw[if_pos (by rw[FP];simp_all)];done)
  |(rw[if_neg (by rw[FQ];simp_all)];done)
  |(rw[if_pos (by rw[FQ];simp_all)];done)
  |(rw[if_neg (by rw[FR];simp_all)];done)
  |(rw[if_pos (by rw[FR];simp_all)];done)
  |(rw[if_neg (by rw[FT];simp_all)];done)
  |(rw[if_pos (by rw[FT];simp_all)];done)
  |(rw[if_neg (by rw[NL _ _ _ (by assumption) (by assumption) (by assumption) (by assumption)];simp)])
def EE(k n:Int)(s:aI)(hs:s.length<=2 ^ 62): aM aK 97 [.agg [I k,I n,.str s]] (.bool (bZ ⟨k,n,s⟩)):=by
 refine aR Jh ?_;intro Q aC aD aE;repeat' first|refine aG ?_|refine eU (PW _ hs) ?_|refine aF ?_ ?_<;>intro hw<;>try omega|fail
 all_goals refine aS ?_ rfl
 all_goals (refine congrArg AV.bool ?_;try subst k)
 all_goals first
  |(rw[FP];rw[a_];simp_all;done)
  |(rw[FQ];rw[a_];simp_all;done)
  |(rw[FR];rw[a_];simp_all;done)
  |(rw[FT];rw[a_];simp_all;done)
  |(rw[NL _ _ _ (by assumption) (by assumption) (by assumption) (by assumption)])
structure Bq where
 op:Int
 sign:aI
 level:Int
deriving Inhabited,DecidableEq
def NM(b:Bq): AV:= .agg [I b.op,.str b.sign,I b.level]
attribute [go_sem] NM
def jM: List Bq:=[⟨4,[43],4⟩,⟨5,[45],4⟩,⟨6,[42],5⟩,⟨7,[47],5⟩,⟨8,[61],3⟩,⟨9,[33,61],3⟩,⟨10,[60],3⟩,⟨11,[60,61],3⟩,⟨12,[62],3⟩,⟨13,[62,61],3⟩,⟨14,[97,110,100],2⟩,⟨15,[111,114],1⟩]
def dJ(op:Int): Bq:=(jM.find? fun b=>b.op==op).getD ⟨0,[],0⟩
def jZ(op:Int): Int:=if op=1\/op=2 then 0 else if op=3 then 1 else if op=16 then 3 else if 0<(dJ op).level then 2 else -1
def eC(op:Int): Int:=if op=16 then 0 else if op=3 then 6 else if op=1\/op=2 then 7 else(dJ op).level
def SW(op:Int)(h:op<4\/15<op): dJ op=⟨0,[],0⟩:=by
 have:jM.find? (fun b=>b.op==op)=none:=by
  rw[dA];intro b hb;simp only[jM,List.mem_cons,List.not_mem_nil,or_false]at hb;rcases hb with rfl|rfl|rfl|rfl|rfl|rfl|rfl|rfl|rfl|rfl|rfl|rfl<;>(simp only[beq_iff_eq];omega)
 simp[dJ,this]
def SX(op:Int)(h1:4<=op)(h2:op<=15): (dJ op).sign≠[]/\0<(dJ op).level:=by
 have:op=4\/op=5\/op=6\/op=7\/op=8\/op=9\/op=10\/op=11\/op=12\/op=13\/op=14\/op=15:=by omega
 rcases this with rfl|rfl|rfl|rfl|rfl|rfl|rfl|rfl|rfl|rfl|rfl|rfl<;>decide
def yh: aM aK 241 [] (.aO false ⟨true,3⟩ (jM.map NM)):=by
 refine aR Cw ?_;intro Q aC aD aE;repeat' first|refine aG ?_|refine aF ?_ ?_<;>intro hw<;>try omega|fail
 all_goals exact fg (View.weak _ _ _ (by simp))
def yS(op:Int): aM aK 199 [I op] (NM (dJ op)):=by
 refine aR Jo ?_;intro Q aC aD aE;have hl:jM.length=12:=rfl;repeat' first|refine aG ?_|refine eU yh ?_|refine aF ?_ ?_<;>intro hw<;>try omega|fail
 with_reducible refine bX [4,7,8,9,10,11,12,13,14,15,16] (fun p:Nat × List aZ=>[(7,I p.1)]) (fun p=> .cells [I 0,.str [],I 0]::p.2) (fun p=>p.1<=12/\ ∀ k,k<p.1->((jM.getD k default).op==op)=false) (fun p=>12-p.1) (0,[]) ?_ ?_ ?_ ?_
 ·simp
 ·rfl
 ·exact at_
 rintro⟨i,τ⟩ r ⟨h1,h2⟩;dsimp only at h1 h2;by_cases hi:i<12
 ·repeat' first|refine aG ?_|refine aF ?_ ?_<;>intro hw<;>try omega|fail
  ·refine aS ?_ rfl
   have:dJ op=jM.getD i default:=by
    unfold dJ;rw[wO (p:=fun b:Bq=>b.op==op) hi h2 (by simpa using hw)];rfl
   rw[this];try rfl
  ·refine⟨(i+1,τ++[.cells [I (jM.getD i default).op,.str (jM.getD i default).sign,I (jM.getD i default).level]]),?_,?_,by first|rfl|(simp[go_sem];done),da,at_⟩<;>(try dsimp only)
   ·exact⟨by omega,bP h2 (by simpa using hw)⟩
   ·omega
 ·repeat' first|refine aG ?_|refine aF ?_ ?_<;>intro hw<;>try omega|fail
  refine aS ?_ rfl
  have:dJ op=⟨0,[],0⟩:=by
   unfold dJ;rw[xm (p:=fun b:Bq=>b.op==op) (fun k hk=>h2 k (by omega))];rfl
  rw[this];try rfl
def NN(op:Int): aM aK 195 [I op] (I (jZ op)):=by
 refine aR Hf ?_;intro Q aC aD aE;repeat' first|refine aG ?_|refine eU (yS _) ?_|refine aF ?_ ?_<;>intro hw<;>try omega|fail
 all_goals refine aS ?_ rfl
 all_goals (refine congrArg I ?_;unfold jZ)
 all_goals first|(simp_all;done)
mutual
def lC: Expr->Nat
 | .mk _ _ _ l=>lR l+1
def lR: List Expr->Nat
 | []=>0
 | x::r=>Nat.max (lC x) (lR r)
end
mutual
def fT: Expr->Nat
 | .mk _ _ _ l=>mA l+1
def mA: List Expr->Nat
 | []=>0
 | x::r=>fT x+mA r
end
def zu(l:List Expr): l.length<=mA l:=by
 induction l with
 | nil=>simp[mA]
 | cons x r ih=>cases x;simp only[mA,fT,List.length_cons];omega
def zw{l:List Expr}{x:Expr}(h:x ∈ l): fT x<=mA l:=by
 induction l with
 | nil=>cases h
 | cons y r ih =>
   simp only[mA];rcases List.mem_cons.1 h with rfl|h
   ·omega
   ·have:=ih h;omega
def aaN: ∀ x,lC x<=fT x:=by
 intro x
 induction x using Expr.ind with
 | h op v s l ih =>
   simp only[lC,fT]
   have:lR l<=mA l:=by
    clear op v s
    induction l with
    | nil=>simp[lR]
    | cons y r UA =>
      simp only[lR,mA];have h1:=ih y (by simp);have h2:=UA (fun z hz=>ih z (bI _ hz));exact Nat.max_le.2 ⟨by omega,by omega⟩
   omega
def SY(l:List Expr)(x:Expr): lR (l++[x])=Nat.max (lR l) (lC x):=by
 induction l with
 | nil=>simp only[cS,lR];exact Nat.max_comm _ _
 | cons y r ih=>simp only[bD,lR,ih];exact(Nat.max_assoc _ _ _).symm
def take_succ{α : Type}[Inhabited α]{l:List α}{k:Nat}(h:k<l.length): l.take (k+1)=l.take k++[l.getD k default]:=by
 rw[List.take_succ_eq_append_getElem h,aj,aN h];rfl
def SZ{l:List Expr}{k:Nat}(h:k<l.length): lR (l.take (k+1))=Nat.max (lR (l.take k)) (lC (l.getD k default)):=by
 rw[take_succ h,SY]
def NO(l:List Expr)(k:Nat): lR (l.take k)<=mA l:=by
 have:∀ l:List Expr,lR l<=mA l:=fun l=>by
  have:=aaN (.mk 0 default [] l);simp only[lC,fT]at this;omega
 refine cE (this _) ?_
 induction l generalizing k with
 | nil=>simp[mA]
 | cons x r ih => cases k with
   | zero=>simp[mA]
   | succ k=>simp only[List.take_succ_cons,mA];have:=ih k;omega
def yT(x:Expr)(hx:fT x<=2 ^ 60): aM aK 157 [bg x] (I (lC x)):=by
 induction x using Expr.ind with
 | h op v s l ih =>
   simp only[fT]at hx;have hlen:=zu l
   have hih:∀ k,k<l.length->aM aK 157 [bg (l.getD k default)] (I (lC (l.getD k default))):=fun k hk =>
    ih _ (bH hk) (by have:=zw (bH hk);omega)
   refine aR Jl ?_;intro Q aC aD aE;repeat' first|refine aG ?_|refine aF ?_ ?_<;>intro hw<;>try omega|fail
   with_reducible refine bX [3,5,9,10,11,12,13,14,15,16,17] (fun p:Nat × List aZ=>[(9,I p.1),(3,I (lR (l.take p.1)))]) (fun p=> .cells [I op,I v.kind,I v.n,.str v.s,.str s,.aO false EX (l.map bg)]::p.2) (fun p=>p.1<=l.length) (fun p=>l.length-p.1) (0,[]) ?_ ?_ ?_ ?_
   ·simp
   ·rfl
   ·exact at_
   rintro⟨i,τ⟩ r h1;dsimp only at h1;by_cases hi:i<l.length
   ·have hy:=hih i hi
    have hmax:(if((lR (l.take i):Nat):Int)<((lC (l.getD i default):Nat):Int)then ((lC (l.getD i default):Nat):Int)else ((lR (l.take i):Nat):Int))=((lR (l.take (i+1)):Nat):Int):=by
     rw[SZ hi];show _=((max (lR (l.take i)) (lC (l.getD i default)):Nat):Int);by_cases hm:lR (l.take i)<=lC (l.getD i default)
     ·rw[Nat.max_eq_right hm];split<;>omega
     ·rw[Nat.max_eq_left (by omega)];split<;>omega
    rw[bG]at hy;repeat' first|simp (disch:=omega) only[go_sem,aC,aD,aE,hmax]|refine aG ?_|refine aF ?_ ?_<;>intro hw<;>try omega|fail
    refine⟨(i+1,τ++[.cells [I (l.getD i default).op,I (l.getD i default).v.kind,I (l.getD i default).v.n,.str (l.getD i default).v.s,.str (l.getD i default).s,.aO false EX ((l.getD i default).l.map bg)]]),?_,?_,by first|rfl|(simp[go_sem];done),da,at_⟩<;>(try dsimp only)
    ·omega
    ·omega
   ·have h3:=NO l l.length;rw[List.take_length]at h3;have h2:l.take i=l:=bp (by omega);have h4:=NO l i;rw[h2]at h4;repeat' first|simp (disch:=omega) only[go_sem,aC,aD,aE,h2]|refine aG ?_|refine aF ?_ ?_<;>intro hw<;>try omega|fail
    refine aS ?_ rfl;refine congrArg I ?_;simp only[lC];omega
def gV{α β : Type}(p : α-> β->Bool): List α->List β->Bool
 | [],[]=>true
 | x::r,y::t=>p x y && gV p r t
 | _,_=>false
def nZ{α β : Type}{p : α-> β->Bool}: ∀ {l:List α} {m:List β},l.length≠m.length->gV p l m=false
 | [],[],h=>absurd rfl h
 | [],_::_,_=>rfl
 | _::_,[],_=>rfl
 | x::r,y::t,h=>by simp only[gV];rw[nZ (by simpa using h),f_]
def pR{α β : Type}[Inhabited α][Inhabited β]{p : α-> β->Bool}: ∀ {l:List α} {m:List β} {i:Nat},i<l.length->p (l.getD i default) (m.getD i default)=false->i<m.length->gV p l m=false
 | x::r,y::t,0,_,h,_=>by simp only[aV]at h;simp only[gV,h,gY]
 | x :: r, y :: t, i + 1, h1, h, h2 => by
   simp only[cq]at h;simp only[gV];rw[pR (i:=i) (by simpa using h1) h (by simpa using h2),f_]
def n5{α β : Type}[Inhabited α][Inhabited β]{p : α-> β->Bool}: ∀ {l:List α} {m:List β},l.length=m.length->(∀ k,k<l.length->p (l.getD k default) (m.getD k default)=true)->gV p l m=true
 | [],[],_,_=>rfl
 | x :: r, y :: t, h, hp => by
   have h0:=hp 0 (by simp);simp only[aV]at h0;simp only[gV,h0,ew];exact n5 (by simpa using h) (fun k hk=>by have:=hp (k+1) (by simpa using hk);simpa only[cq]using this)
@[go_sem] def ahE {α : Type} (τ : List α) (c d : α):(τ++[c]++[d])[τ.length+1]? = some d:=by simp
@[go_sem] def ahF {α : Type} (τ : List α) (c d : α):(τ++[c]++[d])[τ.length]? = some c:=by simp
@[go_sem] def ahH {α : Type} (τ : List α) (c d e : α):(τ++[c]++[d]).set (τ.length+1) e = τ++[c]++[e]:=by simp
def zx (fn : FuncId) (cap : List AV) (hcap : AV.cB cap = true) (p : Expr -> Expr -> Bool) (l m : List Expr)
    (h:∀ k,k<l.length->k<m.length->aM aK fn (bg (l.getD k default)::bg (m.getD k default)::cap) (.bool (p (l.getD k default) (m.getD k default)))) (hl:l.length<=2 ^ 62) (hm:m.length<=2 ^ 62) :
    aM aK 271 [dG l,dG m,.fn (.func fn) [] cap] (.bool (gV p l m)):=by
 refine aR xh ?_ (by simp[AV.dF,AV.cB,hcap,qt]);intro Q aC aD aE;repeat' first|refine aG ?_|refine aF ?_ ?_<;>intro hw<;>try omega|fail
 ·refine aS ?_ rfl;rw[nZ (by omega)]
 have n6:l.length=m.length:=by omega
 with_reducible refine bX [6,7,8,9,17,18,19,20,21,22,23,24,25,26,27,28,29,30,31] (fun p:Nat × List aZ=>[(17,I p.1)]) (fun p=>p.2) (fun q=>q.1<=l.length/\ ∀ k,k<q.1->p (l.getD k default) (m.getD k default)=true) (fun p=>l.length-p.1) (0,[]) ?_ ?_ ?_ ?_
 ·simp
 ·rfl
 ·exact at_
 rintro⟨i,τ⟩ r ⟨h1,h2⟩;dsimp only at h1 h2;by_cases hi:i<l.length
 ·have hy:=h i hi (by omega);rw[bG,bG]at hy;repeat' first|refine aG ?_|refine aF ?_ ?_<;>intro hw<;>try omega|fail
  ·refine aS ?_ rfl;rw[pR hi hw (by omega)]
  ·refine⟨(i+1,τ++[.cells [I (l.getD i default).op,I (l.getD i default).v.kind,I (l.getD i default).v.n,.str (l.getD i default).v.s,.str (l.getD i default).s,.aO false EX ((l.getD i default).l.map bg)]]++[.cells [I (m.getD i default).op,I (m.getD i default).v.kind,I (m.getD i default).v.n,.str (m.getD i default).v.s,.str (m.getD i default).s,.aO false EX ((m.getD i default).l.map bg)]]),?_,?_,by first|rfl|(simp[go_sem];done),da,at_⟩<;>(try dsimp only)
   ·exact⟨by omega,bP h2 hw⟩
   ·omega
 ·repeat' first|refine aG ?_|refine aF ?_ ?_<;>intro hw<;>try omega|fail
  refine aS ?_ rfl;rw[n5 n6 (fun k hk=>h2 k (by omega))]
mutual
def uR: Expr->Expr->Bool
 | .mk o v s l,y=>decide (o=y.op) && decide (v=y.v) && decide (s=y.s) && Ax l y.l
def Ax: List Expr->List Expr->Bool
 | [],[]=>true
 | x::r,y::t=>uR x y && Ax r t
 | _,_=>false
end
def NP: ∀(l m:List Expr),Ax l m=gV uR l m
 | [],[]=>rfl
 | [],_::_=>rfl
 | _::_,[]=>rfl
 | x::r,y::t=>by simp only[Ax,gV,NP r t]
mutual
def NQ: Expr->Prop
 | .mk _ _ _ l=>l.length<=2 ^ 60/\Vt l
def Vt: List Expr->Prop
 | []=>True
 | x::r=>NQ x/\Vt r
end
def Rg{l:List Expr}{x:Expr}(h:Vt l)(hx:x ∈ l): NQ x:=by
 induction l with
 | nil=>cases hx
 | cons y r ih =>
   simp only[Vt]at h;rcases List.mem_cons.1 hx with rfl|hx
   ·exact h.1
   ·exact ih h.2 hx
def acL{l:List Expr}(h:∀ x ∈ l,NQ x): Vt l:=by
 induction l with
 | nil=>trivial
 | cons y r ih=>exact⟨h y (by simp),ih (fun x hx=>h x (bI _ hx))⟩
def Vu(x:Expr): fT x<=2 ^ 60->NQ x:=by
 induction x using Expr.ind with
 | h op v s l ih =>
   intro h;simp only[fT]at h;have hl:=zu l;exact⟨by omega,acL (fun y hy=>ih y hy (by have:=zw hy;omega))⟩
def PY(x:Expr): ∀ y:Expr,NQ x->NQ y->aM aK 238 [bg x,bg y] (.bool (uR x y)):=by
 induction x using Expr.ind with
 | h op v s l ih =>
   rintro⟨op',v',s',m⟩ hx hy;simp only[NQ]at hx hy;obtain⟨hl,NR⟩:=hx;obtain⟨hm,UC⟩:=hy;have hc:=zx 238 [] rfl uR l m (fun k h1 h2=>ih _ (bH h1) _ (Rg NR (bH h1)) (Rg UC (bH h2))) (by omega) (by omega);rw[<-NP]at hc;simp only[dG]at hc;obtain⟨vk,vn,vs⟩:=v;obtain⟨vk',vn',vs'⟩:=v';refine aR Jq ?_;intro Q aC aD aE;repeat' first|refine aG ?_|refine aF ?_ ?_<;>intro hw<;>try omega|fail
   all_goals refine aS ?_ rfl
   all_goals (refine congrArg AV.bool ?_;simp only[uR,Expr.op,Expr.v,Expr.s,Expr.l])
   all_goals (rw[a_];simp_all)
def zy (fn : FuncId) (cap : List AV) (hcap : AV.cB cap = true) (p : Expr -> Bool) (l : List Expr) (h : ∀ k, k < l.length -> aM aK fn (bg (l.getD k default) :: cap) (.bool (p (l.getD k default)))) (hl : l.length <= 2 ^ 62) :
    aM aK 240 [dG l,.fn (.func fn) [] cap] (I (fI p l)):=by
 refine aR xg ?_ (by simp[AV.dF,AV.cB,hcap,qt]);intro Q aC aD aE;repeat' first|refine aG ?_|refine aF ?_ ?_<;>intro hw<;>try omega|fail
 with_reducible refine bX [4,5,8,9,10,11,12,13,14,15,16,17,18] (fun i:Nat=>[(8,I i)]) (fun _=>[]) (fun i=>i<=l.length/\ ∀ k,k<i->p (l.getD k default)=false) (fun i=>l.length-i) (0) ?_ ?_ ?_ ?_
 ·simp
 ·rfl
 ·exact at_
 ·rintro i r ⟨hi,hp⟩;by_cases hin:i<l.length
  ·have hx:=h i hin;rw[bG]at hx;repeat' first|refine aG ?_|refine aF ?_ ?_<;>intro hw<;>try omega|fail
   ·refine aS ?_ rfl;refine congrArg I ?_;exact(mo hin hp hw).symm
   ·refine⟨i+1,?_,?_,by first|rfl|(simp[go_sem];done),da,at_⟩<;>(try dsimp only)
    ·exact⟨by omega,bP hp hw⟩
    ·omega
  ·repeat' first|refine aG ?_|refine aF ?_ ?_<;>intro hw<;>try omega|fail
   refine aS ?_ rfl;refine congrArg I ?_;exact(lZ fun k hk=>hp k (by omega)).symm
def Ay{α : Type}[Inhabited α](p : α->Bool)(l:List α): decide (0<=fI p l)=l.any p:=by
 rcases ux p l with⟨h1,h2⟩|⟨i,h1,h2,h3⟩
 ·rw[h1,show decide ((0:Int)<= -1)=false from(by decide)];symm;rw[gE];exact dA.1 h2
 ·rw[h2,decide_eq_true (by omega)];symm;rw[List.any_eq_true];exact⟨_,bH h1,dW h3⟩
def xn (fn : FuncId) (cap : List AV) (hcap : AV.cB cap = true) (p : Expr -> Bool) (l : List Expr) (h : ∀ k, k < l.length -> aM aK fn (bg (l.getD k default) :: cap) (.bool (p (l.getD k default)))) (hl : l.length <= 2 ^ 62) :
    aM aK 196 [dG l,.fn (.func fn) [] cap] (.bool (l.any p)):=by
 refine aR vg ?_ (by simp[AV.dF,AV.cB,hcap,qt]);intro Q aC aD aE;have hc:=zy fn cap hcap p l h hl;simp only[dG]at hc;repeat' first|refine aG ?_|refine aF ?_ ?_<;>intro hw<;>try omega|fail
 all_goals refine aS ?_ rfl
 all_goals rw[<-Ay]
def v0: ez:=⟨0,0,[]⟩
mutual
def di: Expr->Bool
 | .mk op v s l => decide ((l.length : Int) = jZ op) &&
    (if op=1 then decide (s=[]) && bZ v && (decide (v.kind≠1) || decide (0<=v.n))
     else if op=2 then decide (v=v0) && fh s
     else decide (v=v0) && decide (s=[]) && rf l)
def rf: List Expr->Bool
 | []=>true
 | x::r=>di x && rf r
end
def Az(l:List Expr): rf l = !(l.any fun x=> !(di x)):=by
 induction l with
 | nil=>rfl
 | cons x r ih=>simp[rf,ih]
mutual
def jD: Expr->Prop
 | .mk _ v s l=>s.length<=2 ^ 62/\v.s.length<=2 ^ 62/\ -9223372036854775808<=v.n/\v.n<=9223372036854775807/\EF l
def EF: List Expr->Prop
 | []=>True
 | x::r=>jD x/\EF r
end
def Ju{l:List Expr}{x:Expr}(h:EF l)(hx:x ∈ l): jD x:=by
 induction l with
 | nil=>cases hx
 | cons y r ih =>
   simp only[EF]at h;rcases List.mem_cons.1 hx with rfl|hx
   ·exact h.1
   ·exact ih h.2 hx
def Jv(x:Expr)(h:aM aK 156 [bg x] (.bool (di x))): aM aK 197 [bg x] (.bool (!(di x))):=by
 refine aR En ?_;intro Q aC aD aE;rw[bG]at h ⊢;repeat' first|refine aG ?_|refine aF ?_ ?_<;>intro hw<;>try omega|fail
 all_goals refine aS ?_ rfl
 all_goals simp_all
def CM(x:Expr): jD x->fT x<=2 ^ 60->aM aK 156 [bg x] (.bool (di x)):=by
 induction x using Expr.ind with
 | h op v s l ih =>
   intro hx hz;simp only[fT]at hz;simp only[jD]at hx;obtain⟨o1,o2,o3,o4,o5⟩:=hx;have hl:=zu l;have hc:=xn 197 [] rfl (fun x=> !(di x)) l (fun k h1=>Jv _ (ih _ (bH h1) (Ju o5 (bH h1)) (by have:=zw (bH h1);omega))) (by omega);simp only[dG]at hc;obtain⟨vk,vn,vs⟩:=v;refine aR G_ ?_;intro Q aC aD aE;repeat' first|refine aG ?_|refine eU (NN _) ?_|refine eU (q_ _ _ _ o3 o4) ?_|refine eU (uy _ o1) ?_|refine aF ?_ ?_<;>intro hw<;>try omega|fail
   all_goals refine aS ?_ rfl
   all_goals (refine congrArg AV.bool ?_;simp only[di,Az])
   all_goals (rw[a_];simp_all[v0,nF])
def CN(x:Expr)(hx:jD x)(hz:fT x<=2 ^ 60): aM aK 269 [bg x] (I (nF (di x))):=by
 refine aR Hi ?_;intro Q aC aD aE;have h:=CM x hx hz;rw[bG]at h ⊢;repeat' first|refine aG ?_|refine aF ?_ ?_<;>intro hw<;>try omega|fail
 all_goals refine aS ?_ rfl
 all_goals simp_all[nF]
def fQ {v r : AV} {qB ds : List AV} {τ : ae} (hv : View (.dead :: τ) v r) (hd : bS (.dead :: τ) qB ds) :
    ∃ r0 QI Nr,Out.ret (oneOf [v])=Out.ret r0/\aZ.cells qB:: τ = aZ.cells QI::Nr/\View (.dead::Nr) r0 r/\bS (.dead::Nr) QI ds:=⟨_,_,_,rfl,rfl,hv,hd⟩
def x0: Expr:= .mk 0 v0 [] []
def CO(T:List Tok)(p:Nat)(b:Bool): Tok:=if b then default else T.getD p default
def nI(T:List Tok)(p:Nat)(k:Int)(s:aI): Bool:=decide (p<T.length) && (decide ((T.getD p default).kind=k) && decide ((T.getD p default).s=s))
def gX(T:List Tok)(p:Nat)(b:Bool)(k:Int)(s:aI): Bool:= !b && nI T p k s
def rG(x:Bq): Int:=if x.level<3 then 1 else 4
def xo(T:List Tok)(p:Nat)(b:Bool)(lvl:Int): Option Bq:=jM.find? fun x=>x.level==lvl && gX T p b (rG x) x.sign
def KV(T:List Tok)(p:Nat)(b:Bool)(lvl:Int): Nat:=if(xo T p b lvl).isSome then p+1 else p
def NS(o:Option Bq): Int:=match o with
 | some x=>x.op
 | none=>0
def bS.eqv{σ : ae}{a b:List AV}(h:a=b)(hp:AV.cB b=true): bS σ a b:=by subst h;exact bS.refl hp
def yj(s:aI): Option ez:=if s=[110,117,108,108]then some v0 else if s=[102,97,108,115,101]then some ⟨3,0,[]⟩else if s=[116,114,117,101]then some ⟨3,1,[]⟩else none
structure RS where
 x:Expr
 p:Nat
 bad:Bool
deriving Inhabited
def dM(T:List Tok)(p:Nat)(b:Bool): List AV:=[.aO false ET (T.map o8),I p,.bool b]
attribute [go_sem] dM
def bW(T:List Tok)(p:Nat)(b:Bool): AV.cB (dM T p b)=true:=by simp[dM,AV.dF,AV.cB,NB]
def oA{α : Type}[Inhabited α]{l:List α}{i:Nat}(h:l.length<=i): l.getD i default=default:=by
 rw[aj,List.getElem?_eq_none h];rfl
def S0: (default:Tok)=⟨0,[],0,0⟩:=rfl
def aaO(T:List Tok)(p:Nat)(b:Bool)(k:Int)(s:aI)(hk:k≠0): gX T p b k s=(decide ((CO T p b).kind=k) && decide ((CO T p b).s=s)):=by
 unfold gX CO nI;cases b with
 | true=>simp[S0];intro h;exact absurd h.symm hk
 | false =>
   by_cases hp:p<T.length
   ·simp[hp]
   ·rw[oA (by omega)];simp[hp,S0];intro h;exact absurd h.symm hk
def Hp(T:List Tok)(p:Nat)(b:Bool): c_ aK 319 0 [] (dM T p b) (dM T p b) (o8 (CO T p b)):=by
 refine c_.gj (Ar.go ?_) rfl (bW _ _ _);unfold eY;intro Q aC aD aE;cases b with
 | true =>
   repeat' first|refine aG ?_|refine aF ?_ ?_<;>intro hw<;>try omega|fail
   exact fQ (View.eqv rfl rfl) (bS.refl (bW T p true))
 | false =>
   by_cases hp:p<T.length
   ·repeat' first|refine aG ?_|refine aF ?_ ?_<;>intro hw<;>try omega|fail
    refine fQ (View.eqv ?_ rfl) (bS.refl (bW T p false));simp only[CO];rfl
   ·repeat' first|refine aG ?_|refine aF ?_ ?_<;>intro hw<;>try omega|fail
    refine fQ (View.eqv ?_ rfl) (bS.refl (bW T p false));simp only[CO];rw[oA (by omega)];rfl
def tC(T:List Tok)(p:Nat)(b:Bool)(k:Int)(s:aI): Nat:=if gX T p b k s then p+1 else p
def CP(T:List Tok)(p:Nat)(b:Bool)(k:Int)(s:aI)(hk:k≠0)(hp:p<=2 ^ 61): c_ aK 310 0 [I k,.str s] (dM T p b) (dM T (tC T p b k s) b) (.bool (gX T p b k s)):=by
 have hn:=Hp T p b;unfold tC;rw[aaO T p b k s hk];generalize CO T p b=t at hn ⊢;obtain⟨tk,ts,tn,tp⟩:=t;simp only[dM,o8]at hn;refine c_.gj (BP.go ?_) rfl (bW _ _ _);unfold eY;intro Q aC aD aE;repeat' first|refine aG ?_|refine c8 hn ?_|refine aF ?_ ?_<;>intro hw<;>try omega|fail
 all_goals first
  |(refine fQ (View.eqv ?_ rfl) (bS.eqv ?_ (bW _ _ _))<;>simp_all[dM];done)
def yU(T:List Tok)(p:Nat)(b:Bool)(k:Int)(s:aI)(hk:k≠0)(hp:p<=2 ^ 61): c_ aK 320 0 [I k,.str s] (dM T p b) (dM T (tC T p b k s) (b || !(gX T p b k s))) (.bU []):=by
 have hn:=CP T p b k s hk hp;generalize gX T p b k s=o at hn ⊢;simp only[dM]at hn;refine c_.gj (zq.go ?_) rfl (bW _ _ _);unfold eY;intro Q aC aD aE;cases o
 ·repeat' first|refine aG ?_|refine c8 hn ?_|refine aF ?_ ?_<;>intro hw<;>try omega|fail
  refine G0 rfl (bS.eqv ?_ (bW _ _ _));simp[dM]
 ·repeat' first|refine aG ?_|refine c8 hn ?_|refine aF ?_ ?_<;>intro hw<;>try omega|fail
  refine G0 rfl (bS.eqv ?_ (bW _ _ _));simp[dM]
def NU(s:aI): aM aK 321 [.str s] (.bU [fD ((yj s).getD v0),.bool (yj s).isSome]):=by
 refine aR Js ?_;intro Q aC aD aE;repeat' first|refine aG ?_|refine aF ?_ ?_<;>intro hw<;>try omega|fail
 all_goals refine cj ?_ rfl
 all_goals simp_all[yj,fD,v0]
def Br(T:List Tok)(p:Nat)(b:Bool)(lvl:Int)(hp:p<=2 ^ 61): c_ aK 313 0 [I lvl] (dM T p b) (dM T (KV T p b lvl) b) (I (NS (xo T p b lvl))):=by
 refine c_.gj (xO.go ?_) rfl (bW _ _ _);unfold eY;intro Q aC aD aE;have hl:jM.length=12:=rfl;have ho:=fun k s (hk:k≠0)=>CP T p b k s hk hp;simp only[dM]at ho;repeat' first|refine aG ?_|refine eU yh ?_|refine aF ?_ ?_<;>intro hw<;>try omega|fail
 with_reducible refine bX [4,6,7,10,11,12,13,14,15,16,17,18,19,20,21,22,23,24,25,26,27,28,29,30] (fun q:Nat × List aZ=>[(10,I q.1)]) (fun q=> .cells [.aO false ET (T.map o8),I p,.bool b]::q.2) (fun q=>q.1<=12/\ ∀ k,k<q.1->((jM.getD k default).level==lvl && gX T p b (rG (jM.getD k default)) (jM.getD k default).sign)=false) (fun q=>12-q.1) (0,[]) ?_ ?_ ?_ ?_
 ·simp
 ·rfl
 ·exact at_
 rintro⟨i,τ⟩ r ⟨h1,h2⟩;dsimp only at h1 h2;by_cases hi:i<12
 ·obtain⟨x,hx⟩:∃ x,jM.getD i default=x:=⟨_,rfl⟩
  have hyes:(x.level==lvl && gX T p b (rG x) x.sign)=true->xo T p b lvl=some x:=fun h=>by
   unfold xo;rw[wO (p:=fun y:Bq=>y.level==lvl && gX T p b (rG y) y.sign) hi h2 (by rw[hx];exact h),hx]
  have Yd:(x.level==lvl && gX T p b (rG x) x.sign)=false-> ∀ k,k<i+1->((jM.getD k default).level==lvl && gX T p b (rG (jM.getD k default)) (jM.getD k default).sign)=false:=fun h=>bP h2 (by rw[hx];exact h);have lj:(x.level<3/\rG x=1)\/(¬ x.level<3/\rG x=4):=by unfold rG;split<;>simp_all
  clear h2;rcases lj with⟨hlv,hkb⟩|⟨hlv,hkb⟩;all_goals rw[hkb]at hyes Yd
  all_goals (
   repeat' first|simp (disch:=omega) only[go_sem,aC,aD,aE,hx]|refine aG ?_|with_reducible refine I5 (ho 1 _ (by decide)) rfl ?_|with_reducible refine I6 (ho 1 _ (by decide)) rfl ?_|with_reducible refine I7 (ho 1 _ (by decide)) rfl ?_|with_reducible refine I5 (ho 4 _ (by decide)) rfl ?_|with_reducible refine I6 (ho 4 _ (by decide)) rfl ?_|with_reducible refine I7 (ho 4 _ (by decide)) rfl ?_|refine aF ?_ ?_<;>intro hw<;>try omega|fail
   ·rename_i _ hlq;have hy:=hyes (by rw[hlq,hw];simp);refine fQ (View.eqv ?_ rfl) (bS.eqv ?_ (bW _ _ _))
    ·rw[hy];rfl
    ·simp[dM,KV,hy,tC,hw]
   ·rename_i hlq;refine⟨(i+1,τ++[.cells [I x.op,.str x.sign,I x.level]]),?_,?_,?_,da,at_⟩<;>(try dsimp only)
    ·exact⟨by omega,Yd (by rw[hw];simp)⟩
    ·omega
    ·simp[tC,hw]
   ·refine⟨(i+1,τ++[.cells [I x.op,.str x.sign,I x.level]]),?_,?_,?_,da,at_⟩<;>(try dsimp only)
    ·exact⟨by omega,Yd (by rw[beq_eq_false_iff_ne.2 hw];rfl)⟩
    ·omega)
 ·have hno : xo T p b lvl = none := by
   unfold xo;rw[xm (p:=fun y:Bq=>y.level==lvl && gX T p b (rG y) y.sign) (fun k hk=>h2 k (by omega))]
  repeat' first|refine aG ?_|refine aF ?_ ?_<;>intro hw<;>try omega|fail
  refine fQ (View.eqv ?_ rfl) (bS.eqv ?_ (bW _ _ _))<;>simp_all[dM,NS,KV]
