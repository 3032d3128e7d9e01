/- Part. -/
import Derived.Test.YthakfmmgnjpmdaaGreatDoorW18
set_option linter.all false
set_option maxHeartbeats 4000000
namespace Go.Proofs.YthakfmmgnjpmdaaGreatDoor
open Go.AM
set_option maxRecDepth 4000
def DZ(s p:aO): aM aH 232 [.str s,.str p] (.bool (p.isPrefixOf s)):=by
 refine aR rT ?_;intro Q aB aC aD;repeat' first|refine au ?_|refine aq ?_ ?_<;>intro hw<;>try omega|fail
 all_goals refine aU ?_ rfl
 all_goals refine congrArg AV.bool ?_
 ·rw[cG,beq_iff_eq,List.isPrefixOf_iff_prefix,List.prefix_iff_eq_take];exact eq_comm
 ·symm;rw[Bool.eq_false_iff];intro h
  have:=(List.isPrefixOf_iff_prefix.1 h).length_le;omega
def strings_HasPrefix(s p:aO): aM aH 219 [.str s,.str p] (.bool (p.isPrefixOf s)):=by
 refine aR BJ ?_;intro Q aB aC aD;repeat' first|refine au ?_|refine eZ (DZ _ _) ?_|refine aq ?_ ?_<;>intro hw<;>try omega|fail
 all_goals exact aU rfl rfl
def L7: aM aH 216 [] (lC tX):=by
 refine aR Pa ?_;intro Q aB aC aD;repeat' first|refine au ?_|refine aq ?_ ?_<;>intro hw<;>try omega|fail
 all_goals exact y_ (View.weak _ _ _ (by simp[AV.dz,AV.cg]))
def kr{α : Type}(p : α->Bool)(l:List α): Int:=match l.findIdx? p with
 | some i=>i
 | none=> -1
def mH{α : Type}[Inhabited α]{p : α->Bool}{l:List α}(h:∀ k,k<l.length->p (l.getD k default)=false): kr p l = -1:=by
 have:l.findIdx? p=none:=by
  rw[List.findIdx?_eq_none_iff];intro x hx;obtain⟨k,hk,rfl⟩:=bP hx;have:=h k hk;rwa[ai,aF hk]at this
 simp[kr,this]
def pO{α : Type}[Inhabited α]{p : α->Bool}{l:List α}{i:Nat}(hi:i<l.length)(h:∀ k,k<i->p (l.getD k default)=false)(hp:p (l.getD i default)=true): kr p l=i:=by
 have:l.findIdx? p=some i:=by
  rw[List.findIdx?_eq_some_iff_getElem];refine⟨hi,?_,fun j hj=>?_⟩
  ·rwa[ai,aF hi]at hp
  ·have:=h j hj;rw[ai,aF (by omega)]at this;simpa using this
 simp[kr,this]
def yS (fn : FuncId) (cap : List AV) (hcap : AV.cg cap = true) (p : aO -> Bool) (l : List aO) (h : ∀ x ∈ l, aM aH fn (.str x :: cap) (.bool (p x))) (hl : l.length <= 2 ^ 62) :
    aM aH 217 [lC l,.fn (.func fn) [] cap] (I (kr p l)):=by
 refine aR wI ?_ (by simp[AV.dz,AV.cg,hcap,DU]);intro Q aB aC aD;repeat' first|refine au ?_|refine aq ?_ ?_<;>intro hw<;>try omega|fail
 with_reducible refine bE [4,5,8,9,10,11,12,13,14,15,16,17,18] (fun i:Nat=>[(8,I i)]) (fun _=>[]) (fun i=>i<=l.length/\ ∀ k,k<i->p (l.getD k default)=false) (fun i=>l.length-i) (0) ?_ ?_ ?_ ?_
 ·simp
 ·rfl
 ·exact at_
 ·rintro i r ⟨hi,hp⟩;by_cases hin:i<l.length
  ·have hx:=h _ (bn hin);repeat' first|refine au ?_|refine aq ?_ ?_<;>intro hw<;>try omega|fail
   ·refine aU ?_ rfl;refine congrArg I ?_;exact(pO hin hp hw).symm
   ·refine⟨i+1,?_,?_,by first|rfl|(simp[go_sem];done),cZ,at_⟩<;>(try dsimp only)
    ·refine⟨by omega,fun k hk=>?_⟩;by_cases kR:k<i
     ·exact hp k kR
     ·have:k=i:=by omega
      subst this;exact hw
    ·omega
  ·repeat' first|refine au ?_|refine aq ?_ ?_<;>intro hw<;>try omega|fail
   refine aU ?_ rfl;refine congrArg I ?_;exact(mH fun k hk=>hp k (by omega)).symm
def vi{α : Type}[Inhabited α](p : α->Bool): ∀ l:List α,(kr p l = -1/\l.find? p=none)\/ ∃ i:Nat,i<l.length/\kr p l=i/\l.find? p=some (l.getD i default)
 | []=> .inl ⟨rfl,rfl⟩
 | x :: l => by
   by_cases hp:p x=true
   ·exact .inr ⟨0,by simp,by simp[kr,List.findIdx?_cons,hp],by simp[hp]⟩
   ·rcases vi p l with⟨h1,h2⟩|⟨i,h1,h2,h3⟩
    ·left;simp only[kr]at h1;refine⟨?_,by simp[hp,h2]⟩;cases h:l.findIdx? p with
     | none=>simp[kr,List.findIdx?_cons,hp,h]
     | some k=>rw[h]at h1;simp at h1
    ·right;refine⟨i+1,by simp;omega,?_,by simp[hp,h3]⟩;simp only[kr]at h2;cases h:l.findIdx? p with
     | none=>rw[h]at h2;simp at h2
     | some k=>rw[h]at h2;simp at h2;simp[kr,List.findIdx?_cons,hp,h];omega
def UU(m s:aO): aM aH 218 [.str m,.eK E1 (.str s) 0] (.bool (m.isPrefixOf s)):=by
 refine aR NC ?_;intro Q aB aC aD;repeat' first|refine au ?_|refine eZ (strings_HasPrefix _ _) ?_|refine aq ?_ ?_<;>intro hw<;>try omega|fail
 all_goals exact aU rfl rfl
def aak(s:aO): aM aH 197 [.str s] (SV (tY s)):=by
 have hc:=yS 218 [.eK E1 (.str s) 0] rfl (fun m=>m.isPrefixOf s) tX (fun m _=>UU m s) (by decide);unfold tY;rcases vi (fun m:aO=>m.isPrefixOf s) tX with⟨h1,h2⟩|⟨i,hi,h1,h2⟩
 ·rw[h1]at hc;rw[h2];refine aR F8 ?_;intro Q aB aC aD;repeat' first|refine au ?_|refine eZ L7 ?_|refine F9 hc ?_|refine aq ?_ ?_<;>intro hw<;>try omega|fail
  all_goals (refine bx ?_ rfl;rfl)
 ·rw[h1]at hc;rw[h2];have Dh:i<16:=hi;have hl:(tX.map gW).length=16:=rfl;refine aR F8 ?_;intro Q aB aC aD;repeat' first|refine au ?_|refine eZ L7 ?_|refine F9 hc ?_|refine aq ?_ ?_<;>intro hw<;>try omega|fail
  all_goals (refine bx ?_ rfl;rfl)
def aal(s:aO)(h0:s≠[])(hs:s.length<=2 ^ 30): aM aH 175 [.str s] (SV (jg s)):=by
 refine aR Rw ?_;intro Q aB aC aD;have hl:1<=s.length:=by cases s with|nil=>exact absurd rfl h0|cons=>simp
 repeat' first|refine au ?_|refine eZ (BP _) ?_|refine eZ (DX _) ?_|with_reducible refine Al (Ph _ (by omega)) ?_|with_reducible refine Fp (Ph _ (by omega)) ?_|with_reducible refine Al (I2 _ (by omega)) ?_|with_reducible refine Fp (I2 _ (by omega)) ?_|refine eZ (aaj _ h0 hs) ?_|refine eZ (aak _) ?_|refine aq ?_ ?_<;>intro hw<;>try omega|fail
 all_goals refine bx ?_ rfl
 all_goals (unfold jg;dsimp only;first
  |(rw[if_pos (by assumption)]<;>rfl)
  |(rw[if_neg (ne_true_of_eq_false (by assumption)),if_pos (by assumption)]<;>rfl)
  |(rw[if_neg (ne_true_of_eq_false (by assumption)),if_neg (ne_true_of_eq_false (by assumption)),if_pos (by omega)]<;>rfl)
  |(rw[if_neg (ne_true_of_eq_false (by assumption)),if_neg (ne_true_of_eq_false (by assumption)),if_neg (by omega)]<;>rfl))
def Pj(s:aO): aM aH 80 [.str s] (.bool (zf s)):=by
 refine aR IK ?_;intro Q aB aC aD;repeat' first|refine au ?_|refine aq ?_ ?_<;>intro hw<;>try omega|fail
 all_goals refine aU ?_ rfl
 all_goals (refine congrArg AV.bool ?_;simp_all[zf,DW])
def yj(s:aO)(hs:s.length<=2 ^ 62): aM aH 47 [.str s] (.bool (jU s)):=by
 refine aR Rs ?_;intro Q aB aC aD;repeat' first|refine au ?_|refine eZ (Pg _ hs) ?_|refine eZ (Pj _) ?_|refine aq ?_ ?_<;>intro hw<;>try omega|fail
 all_goals refine aU ?_ rfl
 all_goals (refine congrArg AV.bool ?_;simp[jU];try simp_all;try omega)
def UW(p:List Tok × Int × Int): AV:= .bH [vH p.1,I p.2.1,I p.2.2]
attribute [go_sem] UW
def aam(f pos:Nat)(acc:List Tok): rI f [] pos acc=(acc,0,0):=by cases f<;>rfl
def v7 (f pos : Nat) (acc : List Tok) (c : UInt8) (r : aO) : rI (f + 1) (c :: r) pos acc =
    if c.toNat=32 then rI f r (pos+1) acc
    else if(jg (c::r)).e=0 then rI f ((c::r).drop (jg (c::r)).len) (pos+(jg (c::r)).len) (acc++[⟨(jg (c::r)).kind,(jg (c::r)).s,(jg (c::r)).n,pos⟩])
    else([],pos,(jg (c::r)).e):=rfl
def SZ(s:aO)(hs:s.length<=2 ^ 30): aM aH 143 [.str s] (UW (de s)):=by
 unfold de;by_cases hbig:200<s.length
 ·rw[if_pos hbig];refine aR IX ?_;intro Q aB aC aD;repeat' first|refine au ?_|refine aq ?_ ?_<;>intro hw<;>try omega|fail
  refine fD ?_;exact DR
 rw[if_neg hbig];generalize hT:rI (s.length+1) s 0 []=T;refine aR IX ?_;intro Q aB aC aD;repeat' first|refine au ?_|refine aq ?_ ?_<;>intro hw<;>try omega|fail
 with_reducible refine bE [2,3,4,5,6,7,8,12,13,14,15,16,17,18,19,20,21,22,23,24,25,26,27,28,29,30,31,32,33,34,35,36,37,38,39,40,41,42,43,44,45,46,47,48,49,50] (fun p:Nat × List Tok × List bj=>[(6,I p.1),(5,.own ET 0 p.2.1.length 0 p.2.1.length)]) (fun p=> .vec ET (p.2.1.map sJ)::p.2.2) (fun p=>p.1<=s.length/\p.2.1.length<=p.1/\ ∃ f,s.length-p.1<f/\T=rI f (s.drop p.1) p.1 p.2.1) (fun p=>s.length-p.1) (0,[],[]) ?_ ?_ ?_ ?_
 ·exact⟨by simp,by simp,s.length+1,by omega,hT.symm⟩
 ·rfl
 ·exact at_
 rintro⟨pos,acc,τ⟩ r ⟨h1,h2,f,h3,h4⟩;dsimp only at h1 h2 h3 h4;repeat' first|refine au ?_|refine aq ?_ ?_<;>intro hw<;>try omega|fail
 with_reducible refine bE [6,12,13,14,15,16,17,18,19,20,21,22,23] (fun p:Nat=>[(6,I p)]) (fun _=> .vec ET (acc.map sJ):: τ) (fun p=>pos<=p/\p<=s.length/\ ∃ f,s.length-p<f/\T=rI f (s.drop p) p acc) (fun p=>s.length-p) pos ?_ ?_ ?_ ?_
 ·exact⟨Nat.le_refl _,h1,f,h3,h4⟩
 ·rfl
 ·exact at_
 clear h3 h4;clear f;rintro p r2 ⟨k0,k1,f,k2,k3⟩;obtain⟨f,rfl⟩:∃ g,f=g+1:=⟨f-1,by omega⟩;by_cases hp:p<s.length
 ·rw[oO hp,v7]at k3;have hne:s.drop p≠[]:=by rw[oO hp];simp
  have hlen:(s.drop p).length<=2 ^ 30:=by rw[List.length_drop];omega
  rw[<-oO hp]at k3;have hnx:=aal (s.drop p) hne hlen;have D3:=Pf hne;rw[List.length_drop]at D3;generalize jg (s.drop p)=q at *;obtain⟨qk,qs,qn,ql,qe⟩:=q;dsimp only at k3 D3;repeat' first|refine au ?_|refine aq ?_ ?_<;>intro hw<;>try omega|fail
  ·rw[if_pos (by omega)]at k3;refine⟨p+1,?_,?_,by first|rfl|(simp[go_sem];done),cZ,at_⟩<;>(try dsimp only)
   ·exact⟨by omega,by omega,f,by omega,k3⟩
   ·omega
  ·rw[if_neg (by omega),if_neg hw]at k3;refine fD ?_;rw[k3];exact bN.cons (View.aA _) (bN.refl rfl)
  ·rw[if_neg (by omega),if_pos hw,List.drop_drop]at k3;refine⟨(p+ql,acc++[⟨qk,qs,qn,p⟩],τ++[.cells [I qk,.str qs,I qn,I p,I ql]]),?_,?_,by first|rfl|(simp[go_sem];done),cZ,at_⟩<;>(try dsimp only)
   ·exact⟨by omega,by simp;omega,f,by omega,k3⟩
   ·omega
 ·rw[bK (by omega),aam]at k3;repeat' first|refine au ?_|refine aq ?_ ?_<;>intro hw<;>try omega|fail
  refine fD ?_;rw[k3];exact bN.cons (View.vec rfl (by simp) (by simp) (Pc _)) (bN.refl rfl)
def vo{p:UInt8->Bool}: ∀ {s:aO} {i:Nat},i<=(s.takeWhile p).length->i<s.length->p (s.getD i 0)=true->i<(s.takeWhile p).length
 | [],i,_,h,_=>by simp at h
 | c::r,0,_,_,hp=>by simp only[bD]at hp;simp[eJ,hp]
 | c :: r, i + 1, h1, h2, hp => by
   simp only[fZ]at hp;simp only[eJ]at h1 ⊢;split at h1
   ·simp only[List.length_cons]at h1 h2 ⊢;have:=vo (p:=p) (s:=r) (i:=i) (by omega) (by omega) hp;split<;>simp_all
   ·simp at h1
def BQ(s:aO)(i:Nat)(v:Int)(over:Bool): Prop:=i<=(s.takeWhile e8).length/\(over=false->oh (s.takeWhile e8) 0=oh ((s.takeWhile e8).drop i) v)/\(over=true->oh (s.takeWhile e8) 0=none)
def BQ.step {s : aO} {i : Nat} {v : Int} (h : BQ s i v false) (hi : i < s.length) (hd : e8 (s.getD i 0) = true) :
    (v>(9223372036854775807-(((s.getD i 0).toNat:Int)-48)) / 10->BQ s (i+1) v true) /\
    (¬ v>(9223372036854775807-(((s.getD i 0).toNat:Int)-48)) / 10->BQ s (i+1) (v*10+(((s.getD i 0).toNat:Int)-48)) false):=by
 obtain⟨h1,h2,_⟩:=h;have hlt:i<(s.takeWhile e8).length:=vo h1 hi hd;have h3:=vg hlt;have h4:(s.takeWhile e8).drop i=s.getD i 0::(s.takeWhile e8).drop (i+1):=by rw[oO hlt,<-h3.1]
 rw[h4]at h2;simp only[oh]at h2;refine⟨fun hv=>⟨by omega,fun h=>by simp at h,fun _=>?_⟩,fun hv=>⟨by omega,fun _=>?_,fun h=>by simp at h⟩⟩
 ·rw[h2 trivial,if_pos hv]
 ·rw[h2 trivial,if_neg hv]
def BQ.over{s:aO}{i:Nat}{v:Int}(h:BQ s i v true)(hi:i<s.length)(hd:e8 (s.getD i 0)=true): BQ s (i+1) v true :=
 ⟨vo h.1 hi hd,fun h=>by simp at h,h.2.2⟩
def BQ.fin{s:aO}{i:Nat}{v:Int}{o:Bool}(h:BQ s i v o)(hi:i<s.length->e8 (s.getD i 0)=false)(hl:i<=s.length): (s.takeWhile e8).length=i/\oh (s.takeWhile e8) 0=if o then none else some v:=by
 have hlen:(s.takeWhile e8).length=i:=by
  have h1:=h.1;apply Nat.le_antisymm _ h1;apply fF;intro hlt;have h3:=(vg hlt).2;have:i<s.length:=dK hlt (tZ s);rw[hi this]at h3;cases h3
 refine⟨hlen,?_⟩;cases o with
 | false=>rw[h.2.1 rfl,bK (by omega)];rfl
 | true=>rw[h.2.2 rfl];rfl
def xH{α : Type}[Inhabited α]{p : α->Bool}{l:List α}{i:Nat}(hi:i<l.length)(h:∀ k,k<i->p (l.getD k default)=false)(hp:p (l.getD i default)=true): l.find? p=some (l.getD i default):=by
 have h1:=pO hi h hp;rcases vi p l with⟨h2,h3⟩|⟨j,h2,h3,h4⟩
 ·omega
 ·have:j=i:=by omega
  subst this;exact h4
def vp{α : Type}[Inhabited α]{p : α->Bool}{l:List α}(h:∀ k,k<l.length->p (l.getD k default)=false): l.find? p=none:=by
 have h1:=mH h;rcases vi p l with⟨h2,h3⟩|⟨j,h2,h3,h4⟩
 ·exact h3
 ·omega
def XB{α : Type}[Inhabited α]{p : α->Bool}{l:List α}{i:Nat}(hi:i<l.length)(hp:p (l.getD i default)=true): l.any p=true:=by
 rw[List.any_eq_true];exact⟨_,bn hi,hp⟩
def S0{α : Type}[Inhabited α]{p : α->Bool}{l:List α}(h:∀ k,k<l.length->p (l.getD k default)=false): l.any p=false:=by
 rw[iQ];intro x hx;obtain⟨k,hk,rfl⟩:=bP hx;have:=h k hk;rw[ai,aF hk,bw]at this;simp[this]
def bQ{q:Nat->Prop}{i:Nat}(h:∀ k,k<i->q k)(hi:q i): ∀ k,k<i+1->q k:=fun k hk=>by
 by_cases h2:k<i
 ·exact h k h2
 ·have:k=i:=by omega
  subst this;exact hi
def Pk{s:aO}{p:UInt8->Bool}{i:Nat}(hi:i<s.length)(hp:p (s.getD i 0)=false): s.all p=false:=by
 rw[List.all_eq_false];refine⟨s.getD i 0,?_,ne_true_of_eq_false hp⟩;rw[ai,aF hi];exact dD hi
def ac4{s:aO}{p:UInt8->Bool}(h:∀ k,k<s.length->p (s.getD k 0)=true): s.all p=true:=by
 rw[aV];intro x hx;obtain⟨k,hk,rfl⟩:=bP hx;have:=h k hk;rwa[ai,aF hk]at this
def BR(c:UInt8): nE c=true↔32<=c.toNat/\c.toNat<=126:=by simp[nE]
def zN(c:UInt8): nE c=false↔c.toNat<32\/126<c.toNat:=by
 rw[<-Bool.not_eq_true,BR];omega
def RE(s:aO): aM aH 128 [.str s] (.bool (kO s)):=by
 refine aR Kv ?_;intro Q aB aC aD;repeat' first|refine au ?_|refine aq ?_ ?_<;>intro hw<;>try omega|fail
 ·refine aU ?_ rfl;simp only[kO];rw[decide_eq_false (by omega),gM]
 with_reducible refine bE [2,4,10,11,12,13,14,15,16,17,18] (fun i:Nat=>[]) (fun i=>[.jo s i]) (fun i=>i<=s.length/\ ∀ k,k<i->nE (s.getD k 0)=true) (fun i=>s.length-i) 0 ?_ ?_ ?_ ?_
 ·simp
 ·rfl
 ·exact at_
 rintro i r ⟨h1,h2⟩;by_cases hi:i<s.length
 ·by_cases ha:(s.getD i 0).toNat<128
  ·repeat' first|refine au ?_|refine aq ?_ ?_<;>intro hw<;>try omega|fail
   ·refine aU ?_ rfl;simp only[kO];rw[Pk (p:=nE) hi ((zN _).2 (.inr (by omega))),Bool.and_false]
   ·refine⟨i+1,?_,?_,by first|rfl|(simp[go_sem];done),cZ,at_⟩<;>(try dsimp only)
    ·exact⟨by omega,bQ h2 ((BR _).2 ⟨by omega,by omega⟩)⟩
    ·omega
   ·refine aU ?_ rfl;simp only[kO];rw[Pk (p:=nE) hi ((zN _).2 (.inl (by omega))),Bool.and_false]
  ·have hw2:=Rp hi (by omega);repeat' first|refine au ?_|refine aq ?_ ?_<;>intro hw<;>try omega|fail
   all_goals refine aU ?_ rfl
   all_goals (simp only[kO];rw[Pk (p:=nE) hi ((zN _).2 (.inr (by omega))),Bool.and_false])
 ·have:i=s.length:=by omega
  repeat' first|refine au ?_|refine aq ?_ ?_<;>intro hw<;>try omega|fail
  refine aU ?_ rfl;simp only[kO];rw[decide_eq_true (by omega),ac4 (fun k hk=>h2 k (by omega))];rfl
def BS(n:Int)(s:aO): br ⟨0,n,s⟩=(decide (n=0) && decide (s=[])):=rfl
def Ho(n:Int)(s:aO): br ⟨1,n,s⟩=decide (s=[]):=rfl
def Pm(n:Int)(s:aO): br ⟨2,n,s⟩=(decide (n=0) && kO s):=rfl
def Hp(n:Int)(s:aO): br ⟨3,n,s⟩=(decide (s=[]) && (decide (n=0) || decide (n=1))):=rfl
def Pn(k n:Int)(s:aO)(h0:k≠0)(h1:k≠1)(h2:k≠2)(h3:k≠3): br ⟨k,n,s⟩=false:=by
 simp[br,h0,h1,h2,h3]
def ie(b:Bool): Int:=if b then 0 else 2
def UX(x:BitVec 64): x &&& ~~~ 1#64=0#64↔x=0#64\/x=1#64:=by
 constructor
 ·intro h
  have hb:∀ i,1<=i->i<64->x.getLsbD i=false:=fun i h1 h2=>by
   have:=congrArg (fun y=>BitVec.getLsbD y i) h
   have h3:(1#64).getLsbD i=false:=by
    rw[BitVec.getLsbD_one];simp;omega
   simp only[BitVec.getLsbD_and,BitVec.getLsbD_not,h3,h2,decide_true,fX,Bool.and_true,BitVec.getLsbD_zero]at this;exact this
  cases h0:x.getLsbD 0 with
  | false =>
    left;apply BitVec.eq_of_getLsbD_eq;intro i hi;by_cases hz:i=0
    ·subst hz;rw[h0];rfl
    ·rw[hb i (by omega) hi];simp
  | true =>
    right;apply BitVec.eq_of_getLsbD_eq;intro i hi;by_cases hz:i=0
    ·subst hz;rw[h0];rfl
    ·rw[hb i (by omega) hi,BitVec.getLsbD_one];simp[hz]
 ·rintro(rfl|rfl)<;>decide
def RF(m:Nat)(h:m<18446744073709551616): IntKind.wrap .i64 m=0↔m=0:=by
 simp only[IntKind.wrap,IntKind.bits,IntKind.signed];simp;omega
def aiD(n:Int)(h : -9223372036854775808<=n)(h':n<=9223372036854775807): qg .andNot .i64 n 1=0↔n=0\/n=1:=by
 rw[mS];show IntKind.wrap .i64 ((BitVec.ofInt 64 n &&& ~~~ BitVec.ofInt 64 1).toNat:Int)=0↔_;rw[RF _ (BitVec.isLt _)]
 have h1:(BitVec.ofInt 64 n &&& ~~~ BitVec.ofInt 64 1).toNat=0↔BitVec.ofInt 64 n &&& ~~~ 1#64=0#64:=by
  rw[<-BitVec.toNat_inj];rfl
 rw[h1,UX,<-BitVec.toNat_inj,<-BitVec.toNat_inj];simp only[BitVec.toNat_ofInt,BitVec.toNat_ofNat];omega
def jM(k n:Int)(s:aO)(h : -9223372036854775808<=n)(h':n<=9223372036854775807): aM aH 83 [.agg [I k,I n,.str s]] (I (ie (br ⟨k,n,s⟩))):=by
 refine aR Ks ?_;intro Q aB aC aD;repeat' first|refine au ?_|refine eZ (RE _) ?_|refine aq ?_ ?_<;>intro hw<;>try omega|fail
 all_goals refine aU ?_ rfl
 all_goals (refine congrArg I ?_;unfold ie;try rw[aiD n h h']at hw)
 all_goals (try subst k)
 all_goals first
  |(rw[if_neg (by rw[BS];simp_all)];done)
  |(rw[if_pos (by rw[BS];simp_all)];done)
  |(rw[if_neg (by rw[Ho];simp_all)];done)
  |(rw[if_pos (by rw[Ho];simp_all)];done)
  |(rw[if_neg (by rw[Pm];simp_all)];done)
  |(rw[if_pos (by rw[Pm];simp_all)];done)
  |(rw[if_neg (by rw[Hp];simp_all)];done)
  |(rw[if_pos (by rw[Hp];simp_all)];done)
  |(rw[if_neg (by rw[Pn _ _ _ (by assumption) (by assumption) (by assumption) (by assumption)];simp)])
structure zg where
 op:Int
 sign:aO
 level:Int
deriving Inhabited,DecidableEq
def Po(b:zg): AV:= .agg [I b.op,.str b.sign,I b.level]
attribute [go_sem] Po
def jh: List zg:=[⟨4,[43],4⟩,⟨5,[45],4⟩,⟨6,[42],5⟩,⟨7,[47],5⟩,⟨8,[61],3⟩,⟨9,[33,61],3⟩,⟨10,[60],3⟩,⟨11,[60,61],3⟩,⟨12,[62],3⟩,⟨13,[62,61],3⟩,⟨14,[97,110,100],2⟩,⟨15,[111,114],1⟩]
def cn(op:Int): zg:=(jh.find? fun b=>b.op==op).getD ⟨0,[],0⟩
def jG(op:Int): Int:=if op=1\/op=2 then 0 else if op=3 then 1 else if op=16 then 3 else if 0<(cn op).level then 2 else -1
def ef(op:Int): Int:=if op=16 then 0 else if op=3 then 6 else if op=1\/op=2 then 7 else(cn op).level
def UY(op:Int)(h:op<4\/15<op): cn op=⟨0,[],0⟩:=by
 have:jh.find? (fun b=>b.op==op)=none:=by
  rw[d_];intro b hb;simp only[jh,List.mem_cons,List.not_mem_nil,or_false]at hb;rcases hb with rfl|rfl|rfl|rfl|rfl|rfl|rfl|rfl|rfl|rfl|rfl|rfl<;>(simp only[beq_iff_eq];omega)
 simp[cn,this]
def UZ(op:Int)(h1:4<=op)(h2:op<=15): (cn op).sign≠[]/\0<(cn op).level:=by
 have:op=4\/op=5\/op=6\/op=7\/op=8\/op=9\/op=10\/op=11\/op=12\/op=13\/op=14\/op=15:=by omega
 rcases this with rfl|rfl|rfl|rfl|rfl|rfl|rfl|rfl|rfl|rfl|rfl|rfl<;>decide
def zh: aM aH 139 [] (.aN false ⟨true,3⟩ (jh.map Po)):=by
 refine aR DM ?_;intro Q aB aC aD;repeat' first|refine au ?_|refine aq ?_ ?_<;>intro hw<;>try omega|fail
 all_goals exact y_ (View.weak _ _ _ (by simp))
def zO(op:Int): aM aH 98 [I op] (Po (cn op)):=by
 refine aR Kt ?_;intro Q aB aC aD;have hl:jh.length=12:=rfl;repeat' first|refine au ?_|refine eZ zh ?_|refine aq ?_ ?_<;>intro hw<;>try omega|fail
 with_reducible refine bE [4,7,8,9,10,11,12,13,14,15,16] (fun p:Nat × List bj=>[(7,I p.1)]) (fun p=> .cells [I 0,.str [],I 0]::p.2) (fun p=>p.1<=12/\ ∀ k,k<p.1->((jh.getD k default).op==op)=false) (fun p=>12-p.1) (0,[]) ?_ ?_ ?_ ?_
 ·simp
 ·rfl
 ·exact at_
 rintro⟨i,τ⟩ r ⟨h1,h2⟩;dsimp only at h1 h2;by_cases hi:i<12
 ·repeat' first|refine au ?_|refine aq ?_ ?_<;>intro hw<;>try omega|fail
  ·refine aU ?_ rfl
   have:cn op=jh.getD i default:=by
    unfold cn;rw[xH (p:=fun b:zg=>b.op==op) hi h2 (by simpa using hw)];rfl
   rw[this];try rfl
  ·refine⟨(i+1,τ++[.cells [I (jh.getD i default).op,.str (jh.getD i default).sign,I (jh.getD i default).level]]),?_,?_,by first|rfl|(simp[go_sem];done),cZ,at_⟩<;>(try dsimp only)
   ·exact⟨by omega,bQ h2 (by simpa using hw)⟩
   ·omega
 ·repeat' first|refine au ?_|refine aq ?_ ?_<;>intro hw<;>try omega|fail
  refine aU ?_ rfl
  have:cn op=⟨0,[],0⟩:=by
   unfold cn;rw[vp (p:=fun b:zg=>b.op==op) (fun k hk=>h2 k (by omega))];rfl
  rw[this];try rfl
def Pp(op:Int): aM aH 92 [I op] (I (jG op)):=by
 refine aR IP ?_;intro Q aB aC aD;repeat' first|refine au ?_|refine eZ (zO _) ?_|refine aq ?_ ?_<;>intro hw<;>try omega|fail
 all_goals refine aU ?_ rfl
 all_goals (refine congrArg I ?_;unfold jG)
 all_goals first|(simp_all;done)
mutual
def kV: Expr->Nat
 | .mk _ _ _ l=>mq l+1
def mq: List Expr->Nat
 | []=>0
 | x::r=>Nat.max (kV x) (mq r)
end
mutual
def fW: Expr->Nat
 | .mk _ _ _ l=>mT l+1
def mT: List Expr->Nat
 | []=>0
 | x::r=>fW x+mT r
end
def Fq(l:List Expr): l.length<=mT l:=by
 induction l with
 | nil=>simp[mT]
 | cons x r ih=>cases x;simp only[mT,fW,List.length_cons];omega
def AE{l:List Expr}{x:Expr}(h:x ∈ l): fW x<=mT l:=by
 induction l with
 | nil=>cases h
 | cons y r ih =>
   simp only[mT];rcases List.mem_cons.1 h with rfl|h
   ·omega
   ·have:=ih h;omega
def ac5: ∀ x,kV x<=fW x:=by
 intro x
 induction x using Expr.ind with
 | h op v s l ih =>
   simp only[kV,fW]
   have:mq l<=mT l:=by
    clear op v s
    induction l with
    | nil=>simp[mq]
    | cons y r WO =>
      simp only[mq,mT];have h1:=ih y (by simp);have h2:=WO (fun z hz=>ih z (bJ _ hz));exact Nat.max_le.2 ⟨by omega,by omega⟩
   omega
def U0(l:List Expr)(x:Expr): mq (l++[x])=Nat.max (mq l) (kV x):=by
 induction l with
 | nil=>simp only[cz,mq];exact Nat.max_comm _ _
 | cons y r ih=>simp only[bt,mq,ih];exact(Nat.max_assoc _ _ _).symm
def take_succ{α : Type}[Inhabited α]{l:List α}{k:Nat}(h:k<l.length): l.take (k+1)=l.take k++[l.getD k default]:=by
 rw[List.take_succ_eq_append_getElem h,ai,aF h];rfl
def U1{l:List Expr}{k:Nat}(h:k<l.length): mq (l.take (k+1))=Nat.max (mq (l.take k)) (kV (l.getD k default)):=by
 rw[take_succ h,U0]
def Pq(l:List Expr)(k:Nat): mq (l.take k)<=mT l:=by
 have:∀ l:List Expr,mq l<=mT l:=fun l=>by
  have:=ac5 (.mk 0 default [] l);simp only[kV,fW]at this;omega
 refine bW (this _) ?_
 induction l generalizing k with
 | nil=>simp[mT]
 | cons x r ih => cases k with
   | zero=>simp[mT]
   | succ k=>simp only[List.take_succ_cons,mT];have:=ih k;omega
def zP(x:Expr)(hx:fW x<=2 ^ 60): aM aH 56 [aT x] (I (kV x)):=by
 induction x using Expr.ind with
 | h op v s l ih =>
   simp only[fW]at hx;have hlen:=Fq l
   have hih:∀ k,k<l.length->aM aH 56 [aT (l.getD k default)] (I (kV (l.getD k default))):=fun k hk =>
    ih _ (bn hk) (by have:=AE (bn hk);omega)
   refine aR Kq ?_;intro Q aB aC aD;repeat' first|refine au ?_|refine aq ?_ ?_<;>intro hw<;>try omega|fail
   with_reducible refine bE [3,5,9,10,11,12,13,14,15,16,17] (fun p:Nat × List bj=>[(9,I p.1),(3,I (mq (l.take p.1)))]) (fun p=> .cells [I op,I v.kind,I v.n,.str v.s,.str s,.aN false EX (l.map aT)]::p.2) (fun p=>p.1<=l.length) (fun p=>l.length-p.1) (0,[]) ?_ ?_ ?_ ?_
   ·simp
   ·rfl
   ·exact at_
   rintro⟨i,τ⟩ r h1;dsimp only at h1;by_cases hi:i<l.length
   ·have hy:=hih i hi
    have aiE:(if((mq (l.take i):Nat):Int)<((kV (l.getD i default):Nat):Int)then ((kV (l.getD i default):Nat):Int)else ((mq (l.take i):Nat):Int))=((mq (l.take (i+1)):Nat):Int):=by
     rw[U1 hi];show _=((max (mq (l.take i)) (kV (l.getD i default)):Nat):Int);by_cases hm:mq (l.take i)<=kV (l.getD i default)
     ·rw[Nat.max_eq_right hm];split<;>omega
     ·rw[Nat.max_eq_left (by omega)];split<;>omega
    rw[bq]at hy;repeat' first|simp (disch:=omega) only[go_sem,aB,aC,aD,aiE]|refine au ?_|refine aq ?_ ?_<;>intro hw<;>try omega|fail
    refine⟨(i+1,τ++[.cells [I (l.getD i default).op,I (l.getD i default).v.kind,I (l.getD i default).v.n,.str (l.getD i default).v.s,.str (l.getD i default).s,.aN false EX ((l.getD i default).l.map aT)]]),?_,?_,by first|rfl|(simp[go_sem];done),cZ,at_⟩<;>(try dsimp only)
    ·omega
    ·omega
   ·have h3:=Pq l l.length;rw[List.take_length]at h3;have h2:l.take i=l:=b_ (by omega);have h4:=Pq l i;rw[h2]at h4;repeat' first|simp (disch:=omega) only[go_sem,aB,aC,aD,h2]|refine au ?_|refine aq ?_ ?_<;>intro hw<;>try omega|fail
    refine aU ?_ rfl;refine congrArg I ?_;simp only[kV];omega
def fO{α β : Type}(p : α-> β->Bool): List α->List β->Bool
 | [],[]=>true
 | x::r,y::t=>p x y && fO p r t
 | _,_=>false
def s_{α β : Type}{p : α-> β->Bool}: ∀ {l:List α} {m:List β},l.length≠m.length->fO p l m=false
 | [],[],h=>absurd rfl h
 | [],_::_,_=>rfl
 | _::_,[],_=>rfl
 | x::r,y::t,h=>by simp only[fO];rw[s_ (by simpa using h),Bool.and_false]
def v8{α β : Type}[Inhabited α][Inhabited β]{p : α-> β->Bool}: ∀ {l:List α} {m:List β} {i:Nat},i<l.length->p (l.getD i default) (m.getD i default)=false->i<m.length->fO p l m=false
 | x::r,y::t,0,_,h,_=>by simp only[bD]at h;simp only[fO,h,gM]
 | x :: r, y :: t, i + 1, h1, h, h2 => by
   simp only[fZ]at h;simp only[fO];rw[v8 (i:=i) (by simpa using h1) h (by simpa using h2),Bool.and_false]
def td{α β : Type}[Inhabited α][Inhabited β]{p : α-> β->Bool}: ∀ {l:List α} {m:List β},l.length=m.length->(∀ k,k<l.length->p (l.getD k default) (m.getD k default)=true)->fO p l m=true
 | [],[],_,_=>rfl
 | x :: r, y :: t, h, hp => by
   have h0:=hp 0 (by simp);simp only[bD]at h0;simp only[fO,h0,fH];exact td (by simpa using h) (fun k hk=>by have:=hp (k+1) (by simpa using hk);simpa only[fZ]using this)
@[go_sem] def aj0 {α : Type} (τ : List α) (c d : α):(τ++[c]++[d])[τ.length+1]? = some d:=by simp
@[go_sem] def aj1 {α : Type} (τ : List α) (c d : α):(τ++[c]++[d])[τ.length]? = some c:=by simp
@[go_sem] def aj4 {α : Type} (τ : List α) (c d e : α):(τ++[c]++[d]).set (τ.length+1) e = τ++[c]++[e]:=by simp
def AG (fn : FuncId) (cap : List AV) (hcap : AV.cg cap = true) (p : Expr -> Expr -> Bool) (l m : List Expr)
    (h:∀ k,k<l.length->k<m.length->aM aH fn (aT (l.getD k default)::aT (m.getD k default)::cap) (.bool (p (l.getD k default) (m.getD k default)))) (hl:l.length<=2 ^ 62) (hm:m.length<=2 ^ 62) :
    aM aH 168 [dQ l,dQ m,.fn (.func fn) [] cap] (.bool (fO p l m)):=by
 refine aR yg ?_ (by simp[AV.dz,AV.cg,hcap,rh]);intro Q aB aC aD;repeat' first|refine au ?_|refine aq ?_ ?_<;>intro hw<;>try omega|fail
 ·refine aU ?_ rfl;rw[s_ (by omega)]
 have wc:l.length=m.length:=by omega
 with_reducible refine bE [6,7,8,9,17,18,19,20,21,22,23,24,25,26,27,28,29,30,31] (fun p:Nat × List bj=>[(17,I p.1)]) (fun p=>p.2) (fun q=>q.1<=l.length/\ ∀ k,k<q.1->p (l.getD k default) (m.getD k default)=true) (fun p=>l.length-p.1) (0,[]) ?_ ?_ ?_ ?_
 ·simp
 ·rfl
 ·exact at_
 rintro⟨i,τ⟩ r ⟨h1,h2⟩;dsimp only at h1 h2;by_cases hi:i<l.length
 ·have hy:=h i hi (by omega);rw[bq,bq]at hy;repeat' first|refine au ?_|refine aq ?_ ?_<;>intro hw<;>try omega|fail
  ·refine aU ?_ rfl;rw[v8 hi hw (by omega)]
  ·refine⟨(i+1,τ++[.cells [I (l.getD i default).op,I (l.getD i default).v.kind,I (l.getD i default).v.n,.str (l.getD i default).v.s,.str (l.getD i default).s,.aN false EX ((l.getD i default).l.map aT)]]++[.cells [I (m.getD i default).op,I (m.getD i default).v.kind,I (m.getD i default).v.n,.str (m.getD i default).v.s,.str (m.getD i default).s,.aN false EX ((m.getD i default).l.map aT)]]),?_,?_,by first|rfl|(simp[go_sem];done),cZ,at_⟩<;>(try dsimp only)
   ·exact⟨by omega,bQ h2 hw⟩
   ·omega
 ·repeat' first|refine au ?_|refine aq ?_ ?_<;>intro hw<;>try omega|fail
  refine aU ?_ rfl;rw[td wc (fun k hk=>h2 k (by omega))]
mutual
def vI: Expr->Expr->Bool
 | .mk o v s l,y=>decide (o=y.op) && decide (v=y.v) && decide (s=y.s) && BU l y.l
def BU: List Expr->List Expr->Bool
 | [],[]=>true
 | x::r,y::t=>vI x y && BU r t
 | _,_=>false
end
def Pr: ∀(l m:List Expr),BU l m=fO vI l m
 | [],[]=>rfl
 | [],_::_=>rfl
 | _::_,[]=>rfl
 | x::r,y::t=>by simp only[BU,fO,Pr r t]
mutual
def Ps: Expr->Prop
 | .mk _ _ _ l=>l.length<=2 ^ 60/\XC l
def XC: List Expr->Prop
 | []=>True
 | x::r=>Ps x/\XC r
end
def S3{l:List Expr}{x:Expr}(h:XC l)(hx:x ∈ l): Ps x:=by
 induction l with
 | nil=>cases hx
 | cons y r ih =>
   simp only[XC]at h;rcases List.mem_cons.1 hx with rfl|hx
   ·exact h.1
   ·exact ih h.2 hx
def ae2{l:List Expr}(h:∀ x ∈ l,Ps x): XC l:=by
 induction l with
 | nil=>trivial
 | cons y r ih=>exact⟨h y (by simp),ih (fun x hx=>h x (bJ _ hx))⟩
def XD(x:Expr): fW x<=2 ^ 60->Ps x:=by
 induction x using Expr.ind with
 | h op v s l ih =>
   intro h;simp only[fW]at h;have hl:=Fq l;exact⟨by omega,ae2 (fun y hy=>ih y hy (by have:=AE hy;omega))⟩
def RG(x:Expr): ∀ y:Expr,Ps x->Ps y->aM aH 131 [aT x,aT y] (.bool (vI x y)):=by
 induction x using Expr.ind with
 | h op v s l ih =>
   rintro⟨op',v',s',m⟩ hx hy;simp only[Ps]at hx hy;obtain⟨hl,I3⟩:=hx;obtain⟨hm,WR⟩:=hy;have hc:=AG 131 [] rfl vI l m (fun k h1 h2=>ih _ (bn h1) _ (S3 I3 (bn h1)) (S3 WR (bn h2))) (by omega) (by omega);rw[<-Pr]at hc;simp only[dQ]at hc;obtain⟨vk,vn,vs⟩:=v;obtain⟨vk',vn',vs'⟩:=v';refine aR Kw ?_;intro Q aB aC aD;repeat' first|refine au ?_|refine aq ?_ ?_<;>intro hw<;>try omega|fail
   all_goals refine aU ?_ rfl
   all_goals (refine congrArg AV.bool ?_;simp only[vI,Expr.op,Expr.v,Expr.s,Expr.l])
   all_goals (rw[cG];simp_all)
def AH (fn : FuncId) (cap : List AV) (hcap : AV.cg cap = true) (p : Expr -> Bool) (l : List Expr) (h : ∀ k, k < l.length -> aM aH fn (aT (l.getD k default) :: cap) (.bool (p (l.getD k default)))) (hl : l.length <= 2 ^ 62) :
    aM aH 135 [dQ l,.fn (.func fn) [] cap] (I (kr p l)):=by
 refine aR yf ?_ (by simp[AV.dz,AV.cg,hcap,rh]);intro Q aB aC aD;repeat' first|refine au ?_|refine aq ?_ ?_<;>intro hw<;>try omega|fail
 with_reducible refine bE [4,5,8,9,10,11,12,13,14,15,16,17,18] (fun i:Nat=>[(8,I i)]) (fun _=>[]) (fun i=>i<=l.length/\ ∀ k,k<i->p (l.getD k default)=false) (fun i=>l.length-i) (0) ?_ ?_ ?_ ?_
 ·simp
 ·rfl
 ·exact at_
 ·rintro i r ⟨hi,hp⟩;by_cases hin:i<l.length
  ·have hx:=h i hin;rw[bq]at hx;repeat' first|refine au ?_|refine aq ?_ ?_<;>intro hw<;>try omega|fail
   ·refine aU ?_ rfl;refine congrArg I ?_;exact(pO hin hp hw).symm
   ·refine⟨i+1,?_,?_,by first|rfl|(simp[go_sem];done),cZ,at_⟩<;>(try dsimp only)
    ·exact⟨by omega,bQ hp hw⟩
    ·omega
  ·repeat' first|refine au ?_|refine aq ?_ ?_<;>intro hw<;>try omega|fail
   refine aU ?_ rfl;refine congrArg I ?_;exact(mH fun k hk=>hp k (by omega)).symm
def vq{α : Type}[Inhabited α](p : α->Bool)(l:List α): decide (0<=kr p l)=l.any p:=by
 rcases vi p l with⟨h1,h2⟩|⟨i,h1,h2,h3⟩
 ·rw[h1,show decide ((0:Int)<= -1)=false from(by decide)];symm;rw[iQ];exact d_.1 h2
 ·rw[h2,decide_eq_true (by omega)];symm;rw[List.any_eq_true];exact⟨_,bn h1,eG h3⟩
def yl (fn : FuncId) (cap : List AV) (hcap : AV.cg cap = true) (p : Expr -> Bool) (l : List Expr) (h : ∀ k, k < l.length -> aM aH fn (aT (l.getD k default) :: cap) (.bool (p (l.getD k default)))) (hl : l.length <= 2 ^ 62) :
    aM aH 93 [dQ l,.fn (.func fn) [] cap] (.bool (l.any p)):=by
 refine aR vX ?_ (by simp[AV.dz,AV.cg,hcap,rh]);intro Q aB aC aD;have hc:=AH fn cap hcap p l h hl;simp only[dQ]at hc;repeat' first|refine au ?_|refine aq ?_ ?_<;>intro hw<;>try omega|fail
 all_goals refine aU ?_ rfl
 all_goals rw[<-vq]
def v0: aL:=⟨0,0,[]⟩
mutual
def cq: Expr->Bool
 | .mk op v s l => decide ((l.length : Int) = jG op) &&
    (if op=1 then decide (s=[]) && br v && (decide (v.kind≠1) || decide (0<=v.n))
     else if op=2 then decide (v=v0) && jU s
     else decide (v=v0) && decide (s=[]) && rV l)
def rV: List Expr->Bool
 | []=>true
 | x::r=>cq x && rV r
end
def I4(l:List Expr): rV l = !(l.any fun x=> !(cq x)):=by
 induction l with
 | nil=>rfl
 | cons x r ih=>simp[rV,ih]
mutual
def ig: Expr->Prop
 | .mk _ v s l=>s.length<=2 ^ 62/\v.s.length<=2 ^ 62/\ -9223372036854775808<=v.n/\v.n<=9223372036854775807/\Ga l
def Ga: List Expr->Prop
 | []=>True
 | x::r=>ig x/\Ga r
end
def xI{l:List Expr}{x:Expr}(h:Ga l)(hx:x ∈ l): ig x:=by
 induction l with
 | nil=>cases hx
 | cons y r ih =>
   simp only[Ga]at h;rcases List.mem_cons.1 hx with rfl|hx
   ·exact h.1
   ·exact ih h.2 hx
def KA(x:Expr)(h:aM aH 55 [aT x] (.bool (cq x))): aM aH 94 [aT x] (.bool (!(cq x))):=by
 refine aR FQ ?_;intro Q aB aC aD;rw[bq]at h ⊢;repeat' first|refine au ?_|refine aq ?_ ?_<;>intro hw<;>try omega|fail
 all_goals refine aU ?_ rfl
 all_goals simp_all
def D4(x:Expr): ig x->fW x<=2 ^ 60->aM aH 55 [aT x] (.bool (cq x)):=by
 induction x using Expr.ind with
 | h op v s l ih =>
   intro hx hz;simp only[fW]at hz;simp only[ig]at hx;obtain⟨o1,o2,o3,o4,o5⟩:=hx;have hl:=Fq l;have hc:=yl 94 [] rfl (fun x=> !(cq x)) l (fun k h1=>KA _ (ih _ (bn h1) (xI o5 (bn h1)) (by have:=AE (bn h1);omega))) (by omega);simp only[dQ]at hc;obtain⟨vk,vn,vs⟩:=v;refine aR IJ ?_;intro Q aB aC aD;repeat' first|refine au ?_|refine eZ (Pp _) ?_|refine eZ (jM _ _ _ o3 o4) ?_|refine eZ (yj _ o1) ?_|refine aq ?_ ?_<;>intro hw<;>try omega|fail
   all_goals refine aU ?_ rfl
   all_goals (refine congrArg AV.bool ?_;simp only[cq,I4])
   all_goals (rw[cG];simp_all[v0,ie])
def ym(x:Expr)(hx:ig x)(hz:fW x<=2 ^ 60): aM aH 112 [aT x] (I (ie (cq x))):=by
 refine aR IV ?_;intro Q aB aC aD;have h:=D4 x hx hz;rw[bq]at h ⊢;repeat' first|refine au ?_|refine aq ?_ ?_<;>intro hw<;>try omega|fail
 all_goals refine aU ?_ rfl
 all_goals simp_all[ie]
