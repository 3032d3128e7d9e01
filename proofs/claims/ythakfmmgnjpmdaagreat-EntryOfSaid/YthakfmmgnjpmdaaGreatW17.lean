/- Part. -/
import Derived.Test.YthakfmmgnjpmdaaGreatW16
set_option linter.all false
namespace Go.Proofs.YthakfmmgnjpmdaaGreat
open Go.AM
set_option maxRecDepth 4000
def acZ(c:UInt8): pQ .or .u8 (c.toNat:Int) 32=((c.toNat ||| 32:Nat):Int):=by
 rw[mL];have h:∀ n:Fin 256,nA .or .u8 (n.val:Int) 32=((n.val ||| 32:Nat):Int):=by decide +kernel
 exact h ⟨c.toNat,c.toNat_lt⟩
def RH(c:UInt8): (decide (97<=c.toNat ||| 32) && decide (c.toNat ||| 32<=122) || decide (c.toNat=95))=nq c:=by
 have h:∀ n:Fin 256,(decide (97<=n.val ||| 32) && decide (n.val ||| 32<=122) || decide (n.val=95))=((decide (97<=n.val) && decide (n.val<=122)) ||(decide (65<=n.val) && decide (n.val<=90)) || decide (n.val=95)):=by decide +kernel
 exact h ⟨c.toNat,c.toNat_lt⟩
def Bq(c:UInt8): aF aD 150 [.int .u8 c.toNat] (.bool (nq c)):=by
 rw[<-RH];refine aK NG ?_;intro Q aq au aA;repeat' first|refine ak ?_|refine aj ?_ ?_<;>intro hw<;>try omega|fail
 all_goals refine aN ?_ rfl
 all_goals (rw[acZ]at *;(refine congrArg AV.bool ?_;rw[aW];simp only[acZ,aC,bO,decide_eq_true_eq,beq_iff_eq,cy,decide_eq_false_iff_not,beq_eq_false_iff_ne,ne_eq,true_iff,false_iff,iff_true,iff_false,aI,ik,not_and,not_or]at *;omega))
def DX(c:UInt8): aF aD 153 [.int .u8 c.toNat] (.bool (dZ c)):=by
 refine aK Po ?_;intro Q aq au aA;repeat' first|refine ak ?_|refine aj ?_ ?_<;>intro hw<;>try omega|fail
 all_goals refine aN ?_ rfl
 all_goals (refine congrArg AV.bool ?_;rw[aW];simp only[dZ,aC,bO,decide_eq_true_eq,beq_iff_eq,cy,decide_eq_false_iff_not,beq_eq_false_iff_ne,ne_eq,true_iff,false_iff,iff_true,iff_false,aI,ik,not_and,not_or]at *;omega)
def xE{p:UInt8->Bool}{s:aS}{i:Nat}(hi:i<s.length): ((s.drop i).takeWhile p).length=if p (s.getD i 0)then 1+((s.drop (i+1)).takeWhile p).length else 0:=by
 rw[dm hi,fg,aB,aE hi];simp only[bC];split<;>simp;omega
def S_ (fn : FuncId) (cap : List AV) (hcap : AV.bG cap = true) (p : UInt8 -> Bool) (h : ∀ c : UInt8, aF aD fn (.int .u8 c.toNat :: cap) (.bool (p c))) (s : aS) (hs : s.length <= 2 ^ 62) :
    aF aD 151 [.str s,.fn (.func fn) [] cap] (I (s.takeWhile p).length):=by
 refine aK UC ?_ (by simp[AV.cQ,AV.bG,hcap]);intro Q aq au aA;repeat' first|refine ak ?_|refine aj ?_ ?_<;>intro hw<;>try omega|fail
 with_reducible refine aX [4,5,8,9,10,11,12,13,14,15,16,17,18] (fun i:Nat=>[(8,I i)]) (fun _=>[]) (fun i=>i<=s.length/\(s.takeWhile p).length=i+((s.drop i).takeWhile p).length) (fun i=>s.length-i) (0) ?_ ?_ ?_ ?_
 ·simp
 ·rfl
 ·exact at_
 ·rintro i r ⟨hi,hp⟩;repeat' first|refine ak ?_|refine cW (h _) ?_|refine aj ?_ ?_<;>intro hw<;>try omega|fail
  ·rw[xE (by omega)]at hp;rw[hw]at hp;exact aN (by simp at hp;simp[hp]) rfl
  ·rw[xE (by omega)]at hp;rw[hw]at hp;refine⟨i+1,?_,?_,by first|rfl|(simp[go_sem];done),bK,at_⟩<;>(try dsimp only)
   ·simp at hp;exact⟨by omega,by omega⟩
   ·omega
  ·have:i=s.length:=by omega
   subst this;exact aN (by simp at hp;simp[hp]) rfl
def UE(c:UInt8): aF aD 152 [.int .u8 c.toNat] (.bool (qP c)):=by
 refine aK NH ?_;intro Q aq au aA;repeat' first|refine ak ?_|refine cW (Bq _) ?_|refine cW (DX _) ?_|refine aj ?_ ?_<;>intro hw<;>try omega|fail
 all_goals refine aN ?_ rfl
 all_goals simp_all[qP]
def Pv(s:aS)(hs:s.length<=2 ^ 62): aF aD 104 [.str s] (I (mh s)):=by
 refine aK Rv ?_;intro Q aq au aA;cases s with
 | nil =>
   repeat' first|refine ak ?_|refine aj ?_ ?_<;>intro hw<;>try omega|fail
   all_goals (refine aN ?_ ?_<;>rfl)
 | cons c r =>
   repeat' first|refine ak ?_|refine cW (Bq _) ?_|refine cW (S_ _ _ rfl qP UE _ hs) ?_|refine aj ?_ ?_<;>intro hw<;>try omega|fail
   all_goals refine aN ?_ rfl
   all_goals simp_all[mh]
def Pw(s:aS)(hs:s.length<=2 ^ 62): aF aD 244 [.str s] (S9 (yI s)):=by
 refine aK RE ?_;intro Q aq au aA;have:=Hq s;repeat' first|refine ak ?_|refine cW (Pv _ hs) ?_|refine aj ?_ ?_<;>intro hw<;>try omega|fail
 all_goals refine bt ?_ rfl
 all_goals (unfold yI;split<;>first|omega|rfl)
def uC{p:UInt8->Bool}{s:aS}{i:Nat}(hi:i<(s.takeWhile p).length): s.getD i 0=(s.takeWhile p).getD i 0/\p (s.getD i 0)=true:=by
 induction s generalizing i with
 | nil=>simp at hi
 | cons c r ih =>
   simp only[fg]at hi ⊢;split at hi
   ·rename_i hc;simp only[hc,if_true];cases i with
    | zero=>simp[hc]
    | succ i=>simpa using ih (by simpa using hi)
   ·simp at hi
def Jb(s:aS)(hs:s.length<=2 ^ 62): aF aD 245 [.str s] (S9 (nr s)):=by
 refine aK NW ?_;intro Q aq au aA;have hle:=tC (p:=dZ) s;obtain⟨n,hn⟩:∃ n,(s.takeWhile dZ).length=n:=⟨_,rfl⟩;have hrun:aF aD 151 [.str s,.fn (.func 153) [] []] (I n):=hn ▸ S_ _ [] rfl dZ DX _ hs
 have hd:∀ i,i<n->48<=(s.getD i 0).toNat/\(s.getD i 0).toNat<=57/\(s.takeWhile dZ).drop i=s.getD i 0::(s.takeWhile dZ).drop (i+1):=fun i hi=>by
  obtain⟨h1,h2⟩:=uC (s:=s) (p:=dZ) (i:=i) (by omega);simp only[dZ,aC,decide_eq_true_eq]at h2;refine⟨h2.1,h2.2,?_⟩;rw[dm (by omega:i<(s.takeWhile dZ).length),h1,aB,aE (by omega:i<(s.takeWhile dZ).length)];rfl
 repeat' first|refine ak ?_|refine aj ?_ ?_<;>intro hw<;>try omega|fail
 ·refine bt ?_ rfl;unfold nr;rw[hn];simp only;rw[if_pos (by constructor<;>omega)];rfl
 all_goals (
  have hno:¬ (1<n/\(s.getD 0 0).toNat=48):=by omega
  with_reducible refine aX [3,5,6,7,19,20,21,22,23,24,25,26,27,28,29,30,31,32,33,34,35,36,37] (fun p:Nat × Int=>[(19,I p.1),(5,I p.2)]) (fun _=>[.cells [I 0,.str [],I 0,I 0,I 0]]) (fun p=>p.1<=n/\0<=p.2/\p.2<=9223372036854775807/\tB (s.takeWhile dZ) 0=tB ((s.takeWhile dZ).drop p.1) p.2) (fun p=>n-p.1) (0,0) ?_ ?_ ?_ ?_
  ·simp
  ·rfl
  ·exact at_
  ·rintro⟨i,v⟩ r ⟨hi,hv,VU,hf⟩;simp only at hi hv VU hf;by_cases hin:i<n
   ·obtain⟨d1,d2,d3⟩:=hd i hin;rw[d3]at hf;simp only[tB]at hf;repeat' first|refine ak ?_|refine aj ?_ ?_<;>intro hw<;>try omega|fail
    ·rw[if_pos hw]at hf;refine bt ?_ rfl;unfold nr;rw[hn];simp only;rw[if_neg hno,hf];rfl
    ·rw[if_neg (by omega)]at hf;refine⟨(i+1,v*10+(((s.getD i 0).toNat:Int)-48)),?_,?_,by first|rfl|(simp[go_sem];done),bK,at_⟩<;>(try dsimp only)
     ·exact⟨by omega,by omega,by omega,hf⟩
     ·omega
   ·have:i=n:=by omega
    subst this;rw[a_ (by omega)]at hf;repeat' first|refine ak ?_|refine aj ?_ ?_<;>intro hw<;>try omega|fail
    ·refine bt ?_ rfl;unfold nr;rw[hn];simp only;rw[if_neg hno,hf];rfl)
def fZ{α : Type}[Inhabited α]{l:List α}{i:Nat}(h:i<l.length): l.drop i=l.getD i default::l.drop (i+1):=by
 rw[dm h,aB,aE h];rfl
def jy{l:aS}{i:Nat}(h:i<l.length): l.drop i=l.getD i 0::l.drop (i+1):=by
 rw[dm h,aB,aE h];rfl
abbrev DY(s:aS): List AV:=s.map fun b=>AV.int .u8 b.toNat
def Zb(s:aS)(h0:s≠[])(hs:s.length<=2 ^ 30): aF aD 246 [.str s] (S9 (kj (s.drop 1) [] 1)):=by
 refine aK RF ?_;intro Q aq au aA;have hl:1<=s.length:=by cases s with|nil=>exact absurd rfl h0|cons=>simp
 generalize hT:kj (s.drop 1) [] 1=T at *;repeat' first|refine ak ?_|refine aj ?_ ?_<;>intro hw<;>try omega|fail
 with_reducible refine aX [3,4,5,6,7,8,9,10,11,12,13,14,15,16,17,18,19,20,21,22,23,24,25,26,27,28,29,30,31,32,33,34,35,36,37,38,39,40,41,42,43,44,45,46,47,48,49,50,51,52,53,54,55,56,57,58,59,60,61,62,63,64,65,66,67,68,69] (fun p:Nat × aS=>[(5,I p.1),(4,.own E1 1 p.2.length 0 p.2.length)]) (fun p=>[.cells [I 0,.str [],I 0,I 0,I 0],.vec E1 (DY p.2)]) (fun p=>1<=p.1/\p.1<=s.length/\p.2.length<=p.1/\T=kj (s.drop p.1) p.2 p.1) (fun p=>s.length-p.1) ((1,[])) ?_ ?_ ?_ ?_
 ·exact⟨Nat.le_refl _,hl,by simp,hT.symm⟩
 ·rfl
 ·exact at_
 ·rintro⟨i,b⟩ r ⟨S1,hi,hb,hf⟩;simp only at S1 hi hb hf;by_cases hin:i<s.length
  ·rw[jy hin]at hf;repeat' first|refine ak ?_|refine aj ?_ ?_<;>intro hw<;>try omega|fail
   ·refine bt ?_ rfl;rw[hf,fV,if_pos (by omega),if_pos (by omega)];rfl
   ·refine bt ?_ rfl;rw[hf,fV,if_pos (by omega),if_neg (by omega)];simp
   ·refine bt ?_ rfl;rw[hf,fV,if_neg (by omega),if_pos (by omega),jy (by omega)];simp only;rw[if_neg (by omega)];rfl
   ·rw[fV,if_neg (by omega),if_pos (by omega),jy (by omega)]at hf;try dsimp only at hf
    rw[if_pos (by omega)]at hf;refine⟨(i+2,b++[s.getD (i+1) 0]),?_,?_,by first|rfl|(simp[go_sem];done),bK,at_⟩<;>(try dsimp only)
    ·simp only[List.length_append,List.length_cons,List.length_nil];exact⟨by omega,by omega,by omega,hf⟩
    ·omega
   ·rw[fV,if_neg (by omega),if_pos (by omega),jy (by omega)]at hf;try dsimp only at hf
    rw[if_pos (by omega)]at hf;refine⟨(i+2,b++[s.getD (i+1) 0]),?_,?_,by first|rfl|(simp[go_sem];done),bK,at_⟩<;>(try dsimp only)
    ·simp only[List.length_append,List.length_cons,List.length_nil];exact⟨by omega,by omega,by omega,hf⟩
    ·omega
   ·refine bt ?_ rfl;rw[hf,fV,if_neg (by omega),if_pos (by omega),a_ (by omega)];rfl
   ·refine bt ?_ rfl;rw[hf,fV,if_neg (by omega),if_neg (by omega),if_neg (by simp only[kz,aC,decide_eq_true_eq];omega)];rfl
   ·rw[fV,if_neg (by omega),if_neg (by omega),if_pos (by simp only[kz,aC,decide_eq_true_eq];omega)]at hf;refine⟨(i+1,b++[s.getD i 0]),?_,?_,by first|rfl|(simp[go_sem];done),bK,at_⟩<;>(try dsimp only)
    ·simp only[List.length_append,List.length_cons,List.length_nil];exact⟨by omega,by omega,by omega,hf⟩
    ·omega
   ·refine bt ?_ rfl;rw[hf,fV,if_neg (by omega),if_neg (by omega),if_neg (by simp only[kz,aC,decide_eq_true_eq];omega)];rfl
  ·rw[a_ (by omega)]at hf;repeat' first|refine ak ?_|refine aj ?_ ?_<;>intro hw<;>try omega|fail
   all_goals (refine bt ?_ rfl;rw[hf];simp[kj,PR.err])
def DZ(s p:aS): aF aD 283 [.str s,.str p] (.bool (p.isPrefixOf s)):=by
 refine aK rH ?_;intro Q aq au aA;repeat' first|refine ak ?_|refine aj ?_ ?_<;>intro hw<;>try omega|fail
 all_goals refine aN ?_ rfl
 all_goals refine congrArg AV.bool ?_
 ·rw[aW,beq_iff_eq,gQ,List.prefix_iff_eq_take];exact eq_comm
 ·symm;rw[Bool.eq_false_iff];intro h
  have:=(gQ.1 h).length_le;omega
def strings_HasPrefix(s p:aS): aF aD 273 [.str s,.str p] (.bool (p.isPrefixOf s)):=by
 refine aK Bm ?_;intro Q aq au aA;repeat' first|refine ak ?_|refine cW (DZ _ _) ?_|refine aj ?_ ?_<;>intro hw<;>try omega|fail
 all_goals exact aN rfl rfl
def Mp: aF aD 270 [] (lJ oR):=by
 refine aK Pu ?_;intro Q aq au aA;repeat' first|refine ak ?_|refine aj ?_ ?_<;>intro hw<;>try omega|fail
 all_goals exact uS (View.weak _ _ _ (by simp[AV.cQ,AV.bG]))
def iT{α : Type}(p : α->Bool)(l:List α): Int:=match l.findIdx? p with
 | some i=>i
 | none=> -1
def kQ{α : Type}[Inhabited α]{p : α->Bool}{l:List α}(h:∀ k,k<l.length->p (l.getD k default)=false): iT p l = -1:=by
 have:l.findIdx? p=none:=by
  rw[List.findIdx?_eq_none_iff];intro x hx;obtain⟨k,hk,rfl⟩:=bT hx;have:=h k hk;rwa[aB,aE hk]at this
 simp[iT,this]
def lK{α : Type}[Inhabited α]{p : α->Bool}{l:List α}{i:Nat}(hi:i<l.length)(h:∀ k,k<i->p (l.getD k default)=false)(hp:p (l.getD i default)=true): iT p l=i:=by
 have:l.findIdx? p=some i:=by
  rw[List.findIdx?_eq_some_iff_getElem];refine⟨hi,?_,fun j hj=>?_⟩
  ·rwa[aB,aE hi]at hp
  ·have:=h j hj;rw[aB,aE (by omega)]at this;simpa using this
 simp[iT,this]
def yl (fn : FuncId) (cap : List AV) (hcap : AV.bG cap = true) (p : aS -> Bool) (l : List aS) (h : ∀ x ∈ l, aF aD fn (.str x :: cap) (.bool (p x))) (hl : l.length <= 2 ^ 62) :
    aF aD 271 [lJ l,.fn (.func fn) [] cap] (I (iT p l)):=by
 refine aK vN ?_ (by simp[AV.cQ,AV.bG,hcap,DU]);intro Q aq au aA;repeat' first|refine ak ?_|refine aj ?_ ?_<;>intro hw<;>try omega|fail
 with_reducible refine aX [4,5,8,9,10,11,12,13,14,15,16,17,18] (fun i:Nat=>[(8,I i)]) (fun _=>[]) (fun i=>i<=l.length/\ ∀ k,k<i->p (l.getD k default)=false) (fun i=>l.length-i) (0) ?_ ?_ ?_ ?_
 ·simp
 ·rfl
 ·exact at_
 ·rintro i r ⟨hi,hp⟩;by_cases hin:i<l.length
  ·have hx:=h _ (aO hin);repeat' first|refine ak ?_|refine aj ?_ ?_<;>intro hw<;>try omega|fail
   ·refine aN ?_ rfl;refine congrArg I ?_;exact(lK hin hp hw).symm
   ·refine⟨i+1,?_,?_,by first|rfl|(simp[go_sem];done),bK,at_⟩<;>(try dsimp only)
    ·refine⟨by omega,fun k hk=>?_⟩;by_cases iX:k<i
     ·exact hp k iX
     ·have:k=i:=by omega
      subst this;exact hw
    ·omega
  ·repeat' first|refine ak ?_|refine aj ?_ ?_<;>intro hw<;>try omega|fail
   refine aN ?_ rfl;refine congrArg I ?_;exact(kQ fun k hk=>hp k (by omega)).symm
def sv{α : Type}[Inhabited α](p : α->Bool): ∀ l:List α,(iT p l = -1/\l.find? p=none)\/ ∃ i:Nat,i<l.length/\iT p l=i/\l.find? p=some (l.getD i default)
 | []=> .inl ⟨rfl,rfl⟩
 | x :: l => by
   by_cases hp:p x=true
   ·exact .inr ⟨0,by simp,by simp[iT,List.findIdx?_cons,hp],by simp[hp]⟩
   ·rcases sv p l with⟨h1,h2⟩|⟨i,h1,h2,h3⟩
    ·left;simp only[iT]at h1;refine⟨?_,by simp[hp,h2]⟩;cases h:l.findIdx? p with
     | none=>simp[iT,List.findIdx?_cons,hp,h]
     | some k=>rw[h]at h1;simp at h1
    ·right;refine⟨i+1,by simp;omega,?_,by simp[hp,h3]⟩;simp only[iT]at h2;cases h:l.findIdx? p with
     | none=>rw[h]at h2;simp at h2
     | some k=>rw[h]at h2;simp at h2;simp[iT,List.findIdx?_cons,hp,h];omega
def UG(m s:aS): aF aD 272 [.str m,.eL E1 (.str s) 0] (.bool (m.isPrefixOf s)):=by
 refine aK NZ ?_;intro Q aq au aA;repeat' first|refine ak ?_|refine cW (strings_HasPrefix _ _) ?_|refine aj ?_ ?_<;>intro hw<;>try omega|fail
 all_goals exact aN rfl rfl
def Zc(s:aS): aF aD 247 [.str s] (S9 (rZ s)):=by
 have hc:=yl 272 [.eL E1 (.str s) 0] rfl (fun m=>m.isPrefixOf s) oR (fun m _=>UG m s) (by decide);unfold rZ;rcases sv (fun m:aS=>m.isPrefixOf s) oR with⟨h1,h2⟩|⟨i,hi,h1,h2⟩
 ·rw[h1]at hc;rw[h2];refine aK FY ?_;intro Q aq au aA;repeat' first|refine ak ?_|refine cW Mp ?_|refine Cx hc ?_|refine aj ?_ ?_<;>intro hw<;>try omega|fail
  all_goals (refine bt ?_ rfl;rfl)
 ·rw[h1]at hc;rw[h2];have Io:i<16:=hi;have hl:(oR.map gf).length=16:=rfl;refine aK FY ?_;intro Q aq au aA;repeat' first|refine ak ?_|refine cW Mp ?_|refine Cx hc ?_|refine aj ?_ ?_<;>intro hw<;>try omega|fail
  all_goals (refine bt ?_ rfl;rfl)
def Zd(s:aS)(h0:s≠[])(hs:s.length<=2 ^ 30): aF aD 206 [.str s] (S9 (i_ s)):=by
 refine aK Rz ?_;intro Q aq au aA;have hl:1<=s.length:=by cases s with|nil=>exact absurd rfl h0|cons=>simp
 repeat' first|refine ak ?_|refine cW (Bq _) ?_|refine cW (DX _) ?_|with_reducible refine uw (Pw _ (by omega)) ?_|with_reducible refine wT (Pw _ (by omega)) ?_|with_reducible refine uw (Jb _ (by omega)) ?_|with_reducible refine wT (Jb _ (by omega)) ?_|refine cW (Zb _ h0 hs) ?_|refine cW (Zc _) ?_|refine aj ?_ ?_<;>intro hw<;>try omega|fail
 all_goals refine bt ?_ rfl
 all_goals (unfold i_;dsimp only;first
  |(rw[if_pos (by assumption)]<;>rfl)
  |(rw[if_neg (ne_true_of_eq_false (by assumption)),if_pos (by assumption)]<;>rfl)
  |(rw[if_neg (ne_true_of_eq_false (by assumption)),if_neg (ne_true_of_eq_false (by assumption)),if_pos (by omega)]<;>rfl)
  |(rw[if_neg (ne_true_of_eq_false (by assumption)),if_neg (ne_true_of_eq_false (by assumption)),if_neg (by omega)]<;>rfl))
def Px(s:aS): aF aD 105 [.str s] (.bool (sN s)):=by
 refine aK IY ?_;intro Q aq au aA;repeat' first|refine ak ?_|refine aj ?_ ?_<;>intro hw<;>try omega|fail
 all_goals refine aN ?_ rfl
 all_goals (refine congrArg AV.bool ?_;simp_all[sN,sM])
def xF(s:aS)(hs:s.length<=2 ^ 62): aF aD 66 [.str s] (.bool (jH s)):=by
 refine aK Ru ?_;intro Q aq au aA;repeat' first|refine ak ?_|refine cW (Pv _ hs) ?_|refine cW (Px _) ?_|refine aj ?_ ?_<;>intro hw<;>try omega|fail
 all_goals refine aN ?_ rfl
 all_goals (refine congrArg AV.bool ?_;simp[jH];try simp_all;try omega)
def Hs(p:List cg × Int × Int): AV:= .bJ [pT p.1,I p.2.1,I p.2.2]
attribute [go_sem] Hs
def Py(f pos:Nat)(acc:List cg): su f [] pos acc=(acc,0,0):=by cases f<;>rfl
def yJ (f pos : Nat) (acc : List cg) (c : UInt8) (r : aS) : su (f + 1) (c :: r) pos acc =
    if c.toNat=32 then su f r (pos+1) acc
    else if(i_ (c::r)).e=0 then su f ((c::r).drop (i_ (c::r)).len) (pos+(i_ (c::r)).len) (acc++[⟨(i_ (c::r)).kind,(i_ (c::r)).s,(i_ (c::r)).n,pos⟩])
    else([],pos,(i_ (c::r)).e):=rfl
def Ta(s:aS)(hs:s.length<=2 ^ 30): aF aD 157 [.str s] (Hs (bF s)):=by
 unfold bF;by_cases hbig:200<s.length
 ·rw[if_pos hbig];refine aK I1 ?_;intro Q aq au aA;repeat' first|refine ak ?_|refine aj ?_ ?_<;>intro hw<;>try omega|fail
  refine cN ?_;exact xC
 rw[if_neg hbig];generalize hT:su (s.length+1) s 0 []=T;refine aK I1 ?_;intro Q aq au aA;repeat' first|refine ak ?_|refine aj ?_ ?_<;>intro hw<;>try omega|fail
 with_reducible refine aX [2,3,4,5,6,7,8,12,13,14,15,16,17,18,19,20,21,22,23,24,25,26,27,28,29,30,31,32,33,34,35,36,37,38,39,40,41,42,43,44,45,46,47,48,49,50] (fun p:Nat × List cg × List bE=>[(6,I p.1),(5,.own ET 0 p.2.1.length 0 p.2.1.length)]) (fun p=> .vec ET (p.2.1.map lT)::p.2.2) (fun p=>p.1<=s.length/\p.2.1.length<=p.1/\ ∃ f,s.length-p.1<f/\T=su f (s.drop p.1) p.1 p.2.1) (fun p=>s.length-p.1) (0,[],[]) ?_ ?_ ?_ ?_
 ·exact⟨by simp,by simp,s.length+1,by omega,hT.symm⟩
 ·rfl
 ·exact at_
 rintro⟨pos,acc,τ⟩ r ⟨h1,h2,f,h3,h4⟩;dsimp only at h1 h2 h3 h4;repeat' first|refine ak ?_|refine aj ?_ ?_<;>intro hw<;>try omega|fail
 with_reducible refine aX [6,12,13,14,15,16,17,18,19,20,21,22,23] (fun p:Nat=>[(6,I p)]) (fun _=> .vec ET (acc.map lT):: τ) (fun p=>pos<=p/\p<=s.length/\ ∃ f,s.length-p<f/\T=su f (s.drop p) p acc) (fun p=>s.length-p) pos ?_ ?_ ?_ ?_
 ·exact⟨Nat.le_refl _,h1,f,h3,h4⟩
 ·rfl
 ·exact at_
 clear h3 h4;clear f;rintro p r2 ⟨k0,k1,f,k2,k3⟩;obtain⟨f,rfl⟩:∃ g,f=g+1:=⟨f-1,by omega⟩;by_cases hp:p<s.length
 ·rw[jy hp,yJ]at k3;have hne:s.drop p≠[]:=by rw[jy hp];simp
  have hlen:(s.drop p).length<=2 ^ 30:=by rw[List.length_drop];omega
  rw[<-jy hp]at k3;have hnx:=Zd (s.drop p) hne hlen;have Cy:=Hr hne;rw[List.length_drop]at Cy;generalize i_ (s.drop p)=q at *;obtain⟨qk,qs,qn,ql,qe⟩:=q;dsimp only at k3 Cy;repeat' first|refine ak ?_|refine aj ?_ ?_<;>intro hw<;>try omega|fail
  ·rw[if_pos (by omega)]at k3;refine⟨p+1,?_,?_,by first|rfl|(simp[go_sem];done),bK,at_⟩<;>(try dsimp only)
   ·exact⟨by omega,by omega,f,by omega,k3⟩
   ·omega
  ·rw[if_neg (by omega),if_neg hw]at k3;refine cN ?_;rw[k3];exact bn.cons (View.ai _) (bn.refl rfl)
  ·rw[if_neg (by omega),if_pos hw,List.drop_drop]at k3;refine⟨(p+ql,acc++[⟨qk,qs,qn,p⟩],τ++[.cells [I qk,.str qs,I qn,I p,I ql]]),?_,?_,by first|rfl|(simp[go_sem];done),bK,at_⟩<;>(try dsimp only)
   ·exact⟨by omega,by simp;omega,f,by omega,k3⟩
   ·omega
 ·rw[a_ (by omega),Py]at k3;repeat' first|refine ak ?_|refine aj ?_ ?_<;>intro hw<;>try omega|fail
  refine cN ?_;rw[k3];exact bn.cons (View.vec rfl (by simp) (by simp) (Ja _)) (bn.refl rfl)
def xG(c:UInt8): aF aD 187 [.int .u8 c.toNat] (.bool (nq c)):=by
 refine aK I5 ?_;intro Q aq au aA;repeat' first|refine ak ?_|refine aj ?_ ?_<;>intro hw<;>try omega|fail
 all_goals refine aN ?_ rfl
 all_goals (refine congrArg AV.bool ?_;rw[aW];simp only[nq,aC,bO,decide_eq_true_eq,beq_iff_eq,cy,decide_eq_false_iff_not,beq_eq_false_iff_ne,ne_eq,true_iff,false_iff,iff_true,iff_false,aI,ik,not_and,not_or]at *;omega)
def rI(c:UInt8): aF aD 188 [.int .u8 c.toNat] (.bool (dZ c)):=by
 refine aK K4 ?_;intro Q aq au aA;repeat' first|refine ak ?_|refine aj ?_ ?_<;>intro hw<;>try omega|fail
 all_goals refine aN ?_ rfl
 all_goals (refine congrArg AV.bool ?_;rw[aW];simp only[dZ,aC,bO,decide_eq_true_eq,beq_iff_eq,cy,decide_eq_false_iff_not,beq_eq_false_iff_ne,ne_eq,true_iff,false_iff,iff_true,iff_false,aI,ik,not_and,not_or]at *;omega)
def wB (s : aS) (i : Nat) (hi : i < s.length) (h : mh s = (if i = 0 then mh s else i + ((s.drop i).takeWhile qP).length)) :
    (nq (s.getD i 0)=true\/0<i/\dZ (s.getD i 0)=true->mh s=(i+1)+((s.drop (i+1)).takeWhile qP).length) /\
    (¬ (nq (s.getD i 0)=true\/0<i/\dZ (s.getD i 0)=true)->mh s=i):=by
 by_cases h0:i=0
 ·subst h0;cases s with
  | nil=>simp at hi
  | cons c r =>
    simp only[dn,Nat.lt_irrefl,false_and,or_false];refine⟨fun hl=>?_,fun hl=>?_⟩
    ·simp only[mh,hl,if_true,fg,qP,Bool.true_or,cE,List.drop_succ_cons,e8];simp;omega
    ·simp only[mh,hl];rfl
 ·rw[if_neg h0,xE hi]at h;refine⟨fun hl=>?_,fun hl=>?_⟩
  ·have : qP (s.getD i 0) = true := by
    simp only[qP,Bool.or_eq_true];rcases hl with h1|h1
    ·exact .inl h1
    ·exact .inr h1.2
   rw[this,if_pos rfl]at h;omega
  ·have : qP (s.getD i 0) = false := by
    simp only[qP,Bool.or_eq_false_iff];simp only[not_or,not_and,Bool.not_eq_true]at hl;exact⟨hl.1,hl.2 (by omega)⟩
   rw[this,if_neg (by simp)]at h;omega
def Pz(s:aS)(i:Nat): Prop:=mh s=(if i=0 then mh s else i+((s.drop i).takeWhile qP).length)
def Jc(s:aS)(hs:s.length<=2 ^ 62): aF aD 131 [.str s] (I (mh s)):=by
 refine aK NB ?_;intro Q aq au aA;repeat' first|refine ak ?_|refine aj ?_ ?_<;>intro hw<;>try omega|fail
 with_reducible refine aX [3,4,5,6,7,8,9,10,11,12,13,14,15,16,17,18,19,20,21,22,23,24,25] (fun i:Nat=>[(3,I i)]) (fun _=>[]) (fun i=>i<=s.length/\Pz s i) (fun i=>s.length-i) (0) ?_ ?_ ?_ ?_
 ·simp[Pz]
 ·rfl
 ·exact at_
 rintro i r ⟨h1,h2⟩;by_cases hi:i<s.length
 ·repeat' first|refine ak ?_|refine cW (xG _) ?_|refine cW (rI _) ?_|refine aj ?_ ?_<;>intro hw<;>try omega|fail
  ·refine⟨i+1,?_,?_,by first|rfl|(simp[go_sem];done),bK,at_⟩<;>(try dsimp only)
   ·refine⟨by omega,?_⟩;have:=(wB s i hi h2).1 (.inr ⟨by omega,hw⟩);unfold Pz;rw[if_neg (by omega)];exact this
   ·omega
  ·refine aN ?_ rfl;rw[(wB s i hi h2).2 (by rintro(h|h);exact ne_true_of_eq_false ‹nq _=false› h;exact ne_true_of_eq_false hw h.2)]
  ·refine aN ?_ rfl;rw[(wB s i hi h2).2 (by rintro(h|h);exact ne_true_of_eq_false ‹nq _=false› h;omega)]
  ·refine⟨i+1,?_,?_,by first|rfl|(simp[go_sem];done),bK,at_⟩<;>(try dsimp only)
   ·refine⟨by omega,?_⟩;have:=(wB s i hi h2).1 (.inl hw);unfold Pz;rw[if_neg (by omega)];exact this
   ·omega
 ·repeat' first|refine ak ?_|refine cW (xG _) ?_|refine cW (rI _) ?_|refine aj ?_ ?_<;>intro hw<;>try omega|fail
  refine aN ?_ rfl;have:i=s.length:=by omega
  unfold Pz at h2;by_cases h0:i=0
  ·subst h0;have:s=[]:=by cases s with|nil=>rfl|cons=>simp at this
   subst this;rfl
  ·rw[if_neg h0,a_ (by omega)]at h2;rw[h2];simp
def Jd(s:aS)(hs:s.length<=2 ^ 62): aF aD 229 [.str s] (WV (yI s)):=by
 refine aK NQ ?_;intro Q aq au aA;have:=Hq s;repeat' first|refine ak ?_|refine cW (Jc _ hs) ?_|refine aj ?_ ?_<;>intro hw<;>try omega|fail
 all_goals refine bt ?_ rfl
 all_goals (unfold yI;split<;>first|omega|rfl)
def RI: aF aD 232 [] (lJ oR):=by
 refine aK K_ ?_;intro Q aq au aA;repeat' first|refine ak ?_|refine aj ?_ ?_<;>intro hw<;>try omega|fail
 all_goals exact uS (View.weak _ _ _ (by simp))
def uD{p:UInt8->Bool}: ∀ {s:aS} {i:Nat},i<=(s.takeWhile p).length->i<s.length->p (s.getD i 0)=true->i<(s.takeWhile p).length
 | [],i,_,h,_=>by simp at h
 | c::r,0,_,_,hp=>by simp only[dn]at hp;simp[fg,hp]
 | c :: r, i + 1, h1, h2, hp => by
   simp only[jd]at hp;simp only[fg]at h1 ⊢;split at h1
   ·simp only[List.length_cons]at h1 h2 ⊢;have:=uD (p:=p) (s:=r) (i:=i) (by omega) (by omega) hp;split<;>simp_all
   ·simp at h1
def zg(s:aS)(i:Nat)(v:Int)(over:Bool): Prop:=i<=(s.takeWhile dZ).length/\(over=false->tB (s.takeWhile dZ) 0=tB ((s.takeWhile dZ).drop i) v)/\(over=true->tB (s.takeWhile dZ) 0=none)
def zg.step {s : aS} {i : Nat} {v : Int} (h : zg s i v false) (hi : i < s.length) (hd : dZ (s.getD i 0) = true) :
    (v>(9223372036854775807-(((s.getD i 0).toNat:Int)-48)) / 10->zg s (i+1) v true) /\
    (¬ v>(9223372036854775807-(((s.getD i 0).toNat:Int)-48)) / 10->zg s (i+1) (v*10+(((s.getD i 0).toNat:Int)-48)) false):=by
 obtain⟨h1,h2,_⟩:=h;have hlt:i<(s.takeWhile dZ).length:=uD h1 hi hd;have h3:=uC hlt;have h4:(s.takeWhile dZ).drop i=s.getD i 0::(s.takeWhile dZ).drop (i+1):=by rw[jy hlt,<-h3.1]
 rw[h4]at h2;simp only[tB]at h2;refine⟨fun hv=>⟨by omega,fun h=>by simp at h,fun _=>?_⟩,fun hv=>⟨by omega,fun _=>?_,fun h=>by simp at h⟩⟩
 ·rw[h2 trivial,if_pos hv]
 ·rw[h2 trivial,if_neg hv]
def zg.over{s:aS}{i:Nat}{v:Int}(h:zg s i v true)(hi:i<s.length)(hd:dZ (s.getD i 0)=true): zg s (i+1) v true :=
 ⟨uD h.1 hi hd,fun h=>by simp at h,h.2.2⟩
def zg.fin{s:aS}{i:Nat}{v:Int}{o:Bool}(h:zg s i v o)(hi:i<s.length->dZ (s.getD i 0)=false)(hl:i<=s.length): (s.takeWhile dZ).length=i/\tB (s.takeWhile dZ) 0=if o then none else some v:=by
 have hlen:(s.takeWhile dZ).length=i:=by
  have h1:=h.1;apply Nat.le_antisymm _ h1;apply h_;intro hlt;have h3:=(uC hlt).2;have:i<s.length:=dz hlt (tC s);rw[hi this]at h3;cases h3
 refine⟨hlen,?_⟩;cases o with
 | false=>rw[h.2.1 rfl,a_ (by omega)];rfl
 | true=>rw[h.2.2 rfl];rfl
def FZ(s:aS): nr s=if 1<(s.takeWhile dZ).length/\(s.getD 0 0).toNat=48 then .err 11
 else match tB (s.takeWhile dZ) 0 with
  | none=> .err 15
  | some v=>⟨2,[],v,(s.takeWhile dZ).length,0⟩:=rfl
def D3(s:aS)(hs:s.length<=2 ^ 62): aF aD 230 [.str s] (WV (nr s)):=by
 refine aK I8 ?_;intro Q aq au aA;repeat' first|refine ak ?_|refine aj ?_ ?_<;>intro hw<;>try omega|fail
 with_reducible refine aX [5,6,7,8,9,10,11,12,13,14,15,16,17,18,19,20,21,22,23,24,25,26,27,28,29,30,31,32,33,34,35,36,37,38,39] (fun p:Nat × Int × Bool=>[(5,I p.1),(6,I p.2.1),(7,.bool p.2.2)]) (fun _=>[.cells [I 0,.str [],I 0,I 0]]) (fun p=>p.1<=s.length/\0<=p.2.1/\p.2.1<=9223372036854775807/\zg s p.1 p.2.1 p.2.2) (fun p=>s.length-p.1) ((0,0,false)) ?_ ?_ ?_ ?_
 ·exact⟨by simp,by simp,by simp,by simp,fun _=>rfl,fun h=>by simp at h⟩
 ·rfl
 ·exact at_
 rintro⟨i,v,o⟩ r ⟨h1,h2,h3,h4⟩;dsimp only at h1 h2 h3 h4;by_cases hi:i<s.length
 ·by_cases hd:dZ (s.getD i 0)=true
  ·have hb:48<=(s.getD i 0).toNat/\(s.getD i 0).toNat<=57:=by simpa[dZ]using hd
   have hc:=hd ▸ rI (s.getD i 0);cases o with
   | true =>
     repeat' first|refine ak ?_|refine aj ?_ ?_<;>intro hw<;>try omega|fail
     refine⟨(i+1,v,true),?_,?_,by first|rfl|(simp[go_sem];done),bK,at_⟩<;>(try dsimp only)
     ·exact⟨by omega,h2,h3,h4.over hi hd⟩
     ·omega
   | false =>
     have hst:=h4.step hi hd;repeat' first|refine ak ?_|refine aj ?_ ?_<;>intro hw<;>try omega|fail
     ·refine⟨(i+1,10*v+(((s.getD i 0).toNat:Int)-48),decide ((9223372036854775807-(((s.getD i 0).toNat:Int)-48)) / 10<v)),?_,?_,by first|rfl|(simp[go_sem];done),bK,at_⟩<;>(try dsimp only)
      ·exact⟨by omega,by omega,by omega,by rw[decide_eq_false (by omega),Int.mul_comm];exact hst.2 (by omega)⟩
      ·omega
     ·refine⟨(i+1,v,decide ((9223372036854775807-(((s.getD i 0).toNat:Int)-48)) / 10<v)),?_,?_,by first|rfl|(simp[go_sem];done),bK,at_⟩<;>(try dsimp only)
      ·exact⟨by omega,h2,h3,by rw[decide_eq_true (by omega)];exact hst.1 (by omega)⟩
      ·omega
  ·have hd':dZ (s.getD i 0)=false:=by simpa using hd
   have hc:=hd' ▸ rI (s.getD i 0);obtain⟨f1,f2⟩:=h4.fin (fun _=>hd') (by omega);have f3:=FZ s;rw[f1,f2]at f3;clear h4 hd hd' f1 f2;repeat' first|refine ak ?_|refine aj ?_ ?_<;>intro hw<;>try omega|fail
   all_goals (refine bt ?_ rfl;rw[f3])
   all_goals (split<;>first|omega|(cases o<;>simp_all[PR.err]))
 ·obtain⟨f1,f2⟩:=h4.fin (fun h=>absurd h hi) h1;have f3:=FZ s;rw[f1,f2]at f3;clear h4 f1 f2;repeat' first|refine ak ?_|refine aj ?_ ?_<;>intro hw<;>try omega|fail
  all_goals (refine bt ?_ rfl;rw[f3])
  all_goals (split<;>first|omega|(cases o<;>simp_all[PR.err]))
def UH(s:aS)(h0:s≠[])(hs:s.length<=2 ^ 30): aF aD 231 [.str s] (WV (kj (s.drop 1) [] 1)):=by
 refine aK NR ?_;intro Q aq au aA;have hl:1<=s.length:=by cases s with|nil=>exact absurd rfl h0|cons=>simp
 generalize hT:kj (s.drop 1) [] 1=T at *;repeat' first|refine ak ?_|refine aj ?_ ?_<;>intro hw<;>try omega|fail
 with_reducible refine aX [3,4,5,6,7,8,9,10,11,12,13,14,15,16,17,18,19,20,21,22,23,24,25,26,27,28,29,30,31,32,33,34,35,36,37,38,39,40,41,42,43,44,45,46,47,48,49,50,51,52,53,54,55,56,57,58,59,60,61,62,63,64,65] (fun p:Nat × aS=>[(6,I p.1),(5,.str p.2)]) (fun p=>[.cells [I 0,.str [],I 0,I 0]]) (fun p=>1<=p.1/\p.1<=s.length/\p.2.length<=p.1/\T=kj (s.drop p.1) p.2 p.1) (fun p=>s.length-p.1) ((1,[])) ?_ ?_ ?_ ?_
 ·exact⟨Nat.le_refl _,hl,by simp,hT.symm⟩
 ·rfl
 ·exact at_
 ·rintro⟨i,b⟩ r ⟨S1,hi,hb,hf⟩;simp only at S1 hi hb hf;have hone:∀ k,k<s.length->List.take 1 (s.drop k)=[s.getD k 0]:=fun k hk=>by rw[jy hk];rfl
  by_cases hin:i<s.length
  ·rw[jy hin]at hf;repeat' first|refine ak ?_|refine aj ?_ ?_<;>intro hw<;>try omega|fail
   ·refine bt ?_ rfl;rw[hf,fV,if_pos (by omega),if_pos (by omega)];rfl
   ·refine bt ?_ rfl;rw[hf,fV,if_pos (by omega),if_neg (by omega)];simp
   ·refine bt ?_ rfl;rw[hf,fV,if_neg (by omega),if_pos (by omega),jy (by omega)];simp only;rw[if_neg (by omega)];rfl
   ·rw[fV,if_neg (by omega),if_pos (by omega),jy (by omega)]at hf;try dsimp only at hf
    rw[if_pos (by omega)]at hf;refine⟨(i+2,b++[s.getD (i+1) 0]),?_,?_,by first|rfl|(simp[go_sem];done),bK,at_⟩<;>(try dsimp only)
    ·simp only[List.length_append,List.length_cons,List.length_nil];exact⟨by omega,by omega,by omega,hf⟩
    ·omega
   ·rw[fV,if_neg (by omega),if_pos (by omega),jy (by omega)]at hf;try dsimp only at hf
    rw[if_pos (by omega)]at hf;refine⟨(i+2,b++[s.getD (i+1) 0]),?_,?_,by first|rfl|(simp[go_sem];done),bK,at_⟩<;>(try dsimp only)
    ·simp only[List.length_append,List.length_cons,List.length_nil];exact⟨by omega,by omega,by omega,hf⟩
    ·omega
   ·refine bt ?_ rfl;rw[hf,fV,if_neg (by omega),if_pos (by omega),a_ (by omega)];rfl
   ·refine bt ?_ rfl;rw[hf,fV,if_neg (by omega),if_neg (by omega),if_neg (by simp only[kz,aC,decide_eq_true_eq];omega)];rfl
   ·rw[fV,if_neg (by omega),if_neg (by omega),if_pos (by simp only[kz,aC,decide_eq_true_eq];omega)]at hf;refine⟨(i+1,b++[s.getD i 0]),?_,?_,by first|rfl|(simp[go_sem];done),bK,at_⟩<;>(try dsimp only)
    ·simp only[List.length_append,List.length_cons,List.length_nil];exact⟨by omega,by omega,by omega,hf⟩
    ·omega
   ·refine bt ?_ rfl;rw[hf,fV,if_neg (by omega),if_neg (by omega),if_neg (by simp only[kz,aC,decide_eq_true_eq];omega)];rfl
  ·rw[a_ (by omega)]at hf;repeat' first|refine ak ?_|refine aj ?_ ?_<;>intro hw<;>try omega|fail
   all_goals (refine bt ?_ rfl;rw[hf];simp[kj,PR.err])
def sO{α : Type}[Inhabited α]{p : α->Bool}{l:List α}{i:Nat}(hi:i<l.length)(h:∀ k,k<i->p (l.getD k default)=false)(hp:p (l.getD i default)=true): l.find? p=some (l.getD i default):=by
 have h1:=lK hi h hp;rcases sv p l with⟨h2,h3⟩|⟨j,h2,h3,h4⟩
 ·omega
 ·have:j=i:=by omega
  subst this;exact h4
def qg{α : Type}[Inhabited α]{p : α->Bool}{l:List α}(h:∀ k,k<l.length->p (l.getD k default)=false): l.find? p=none:=by
 have h1:=kQ h;rcases sv p l with⟨h2,h3⟩|⟨j,h2,h3,h4⟩
 ·exact h3
 ·omega
def D4{α : Type}[Inhabited α]{p : α->Bool}{l:List α}{i:Nat}(hi:i<l.length)(hp:p (l.getD i default)=true): l.any p=true:=by
 rw[List.any_eq_true];exact⟨_,aO hi,hp⟩
def Ag{α : Type}[Inhabited α]{p : α->Bool}{l:List α}(h:∀ k,k<l.length->p (l.getD k default)=false): l.any p=false:=by
 rw[List.any_eq_false];intro x hx;obtain⟨k,hk,rfl⟩:=bT hx;have:=h k hk;rw[aB,aE hk,bC]at this;simp[this]
def bx{q:Nat->Prop}{i:Nat}(h:∀ k,k<i->q k)(hi:q i): ∀ k,k<i+1->q k:=fun k hk=>by
 by_cases h2:k<i
 ·exact h k h2
 ·have:k=i:=by omega
  subst this;exact hi
def F0{m s:aS}(h:m.length<=s.length): (List.take m.length s==m)=m.isPrefixOf s:=by
 rw[aW,beq_iff_eq,gQ,List.prefix_iff_eq_take];exact eq_comm
def RJ{m s:aS}(h:s.length<m.length): m.isPrefixOf s=false:=by
 rw[Bool.eq_false_iff];intro h2;have:=(gQ.1 h2).length_le;omega
def WZ(s:aS)(h0:s≠[])(hs:s.length<=2 ^ 30): aF aD 190 [.str s] (WV (i_ s)):=by
 refine aK Pr ?_;intro Q aq au aA;have hl:1<=s.length:=by cases s with|nil=>exact absurd rfl h0|cons=>simp
 repeat' first|refine ak ?_|refine cW (xG _) ?_|refine cW (rI _) ?_|with_reducible refine uw (Jd _ (by omega)) ?_|with_reducible refine wT (Jd _ (by omega)) ?_|with_reducible refine uw (D3 _ (by omega)) ?_|with_reducible refine wT (D3 _ (by omega)) ?_|refine cW (UH _ h0 hs) ?_|refine cW RI ?_|refine aj ?_ ?_<;>intro hw<;>try omega|fail
 ·refine bt ?_ rfl;unfold i_;dsimp only;rw[if_pos (by assumption)]
 ·refine bt ?_ rfl;unfold i_;dsimp only;rw[if_neg (ne_true_of_eq_false (by assumption)),if_pos (by assumption)]
 ·refine bt ?_ rfl;unfold i_;dsimp only;rw[if_neg (ne_true_of_eq_false (by assumption)),if_neg (ne_true_of_eq_false (by assumption)),if_pos (by omega)]
 have ho:i_ s=rZ s:=by
  unfold i_;dsimp only;rw[if_neg (ne_true_of_eq_false (by assumption)),if_neg (ne_true_of_eq_false (by assumption)),if_neg (by omega)]
 rw[ho]at aq au;have hml:oR.length=16:=rfl;with_reducible refine aX [3,4,6,35,36,37,38,39,40,41,42,43,44,45,46,47,48,49,50,51,52,53,54,55,56,57,58,59,60,61,62,63,64,65,66,67,68,69,70,71,72] (fun i:Nat=>[(6,I i)]) (fun _=>[.cells [I 0,.str [],I 0,I 0]]) (fun i=>i<=16/\ ∀ k,k<i->(oR.getD k default).isPrefixOf s=false) (fun i=>16-i) 0 ?_ ?_ ?_ ?_
 ·simp
 ·rfl
 ·exact at_
 rintro i r ⟨h1,h2⟩;by_cases hi:i<16
 ·repeat' first|refine ak ?_|refine aj ?_ ?_<;>intro hw<;>try omega|fail
  ·have hp:(oR.getD i default).isPrefixOf s=true:=by rw[<-F0 (by omega)];simpa using hw
   refine bt ?_ rfl;unfold rZ;rw[sO (p:=fun m:aS=>m.isPrefixOf s) hi h2 hp]
  ·have hp:(oR.getD i default).isPrefixOf s=false:=by rw[<-F0 (by omega)];simpa using hw
   refine⟨i+1,?_,?_,by first|rfl|(simp[go_sem];done),bK,at_⟩<;>(try dsimp only)
   ·exact⟨by omega,bx h2 hp⟩
   ·omega
  ·refine⟨i+1,?_,?_,by first|rfl|(simp[go_sem];done),bK,at_⟩<;>(try dsimp only)
   ·exact⟨by omega,bx h2 (RJ (by omega))⟩
   ·omega
 ·repeat' first|refine ak ?_|refine aj ?_ ?_<;>intro hw<;>try omega|fail
  refine bt ?_ rfl;unfold rZ;rw[qg (p:=fun m:aS=>m.isPrefixOf s) (fun k hk=>h2 k (by omega))];rfl
def Lf(s:aS): aF aD 132 [.str s] (.bool (sN s)):=by
 have hre:sN s=sM.any (fun x=>x==s):=by
  unfold sN;rw[Bool.eq_iff_iff,List.contains_iff_mem,List.any_eq_true];simp
 rw[hre];refine aK FJ ?_;intro Q aq au aA;repeat' first|refine ak ?_|refine aj ?_ ?_<;>intro hw<;>try omega|fail
 have e1:sM.length=9:=rfl;have e2 : [AV.str [97,110,100],AV.str [111,114],AV.str [110,111,116],AV.str [105,102],AV.str [116,104,101,110],AV.str [101,108,115,101],AV.str [116,114,117,101],AV.str [102,97,108,115,101],AV.str [110,117,108,108]]=sM.map gf:=rfl;rw[e2];with_reducible refine aX [2,4,6,7,8,9,10,11,12,13,14,15,16,17] (fun i:Nat=>[(4,I i)]) (fun _=>[]) (fun i=>i<=9/\ ∀ k,k<i->(sM.getD k default==s)=false) (fun i=>9-i) 0 ?_ ?_ ?_ ?_
 ·simp
 ·rfl
 ·exact at_
 rintro i r ⟨h1,h2⟩;by_cases hi:i<9
 ·repeat' first|refine ak ?_|refine aj ?_ ?_<;>intro hw<;>try omega|fail
  ·refine aN ?_ rfl;rw[D4 (p:=fun x:aS=>x==s) hi (by simpa using hw)]
  ·refine⟨i+1,?_,?_,by first|rfl|(simp[go_sem];done),bK,at_⟩<;>(try dsimp only)
   ·exact⟨by omega,bx h2 (by simpa using hw)⟩
   ·omega
 ·repeat' first|refine ak ?_|refine aj ?_ ?_<;>intro hw<;>try omega|fail
  refine aN ?_ rfl;rw[Ag (p:=fun x:aS=>x==s) (fun k hk=>h2 k (by omega))]
def Mq(s:aS)(hs:s.length<=2 ^ 30): aF aD 135 [.str s] (Hs (bF s)):=by
 unfold bF;by_cases hbig:200<s.length
 ·rw[if_pos hbig];refine aK DI ?_;intro Q aq au aA;repeat' first|refine ak ?_|refine aj ?_ ?_<;>intro hw<;>try omega|fail
  refine cN ?_;exact xC
 rw[if_neg hbig];generalize hT:su (s.length+1) s 0 []=T;refine aK DI ?_;intro Q aq au aA;repeat' first|refine ak ?_|refine aj ?_ ?_<;>intro hw<;>try omega|fail
 with_reducible refine aX [2,3,4,5,6,7,8,9,13,14,15,16,17,18,19,20,21,22,23,24,25,26,27,28,29,30,31,32,33,34,35,36,37,38,39,40,41,42,43] (fun p:Nat × List cg × List bE=>[(6,I p.1),(5,.own ET 0 p.2.1.length 0 p.2.1.length)]) (fun p=> .vec ET (p.2.1.map lT)::p.2.2) (fun p=>p.1<=s.length/\p.2.1.length<=p.1/\ ∃ f,s.length-p.1<f/\T=su f (s.drop p.1) p.1 p.2.1) (fun p=>s.length-p.1) (0,[],[]) ?_ ?_ ?_ ?_
 ·exact⟨by simp,by simp,s.length+1,by omega,hT.symm⟩
 ·rfl
 ·exact at_
 rintro⟨p,acc,τ⟩ r ⟨k0,k1,f,k2,k3⟩;dsimp only at k0 k1 k2 k3;obtain⟨f,rfl⟩:∃ g,f=g+1:=⟨f-1,by omega⟩;by_cases hp:p<s.length
 ·rw[jy hp,yJ]at k3;have hne:s.drop p≠[]:=by rw[jy hp];simp
  have hlen:(s.drop p).length<=2 ^ 30:=by rw[List.length_drop];omega
  rw[<-jy hp]at k3;have hnx:=WZ (s.drop p) hne hlen;have Cy:=Hr hne;rw[List.length_drop]at Cy;generalize i_ (s.drop p)=q at *;obtain⟨qk,qs,qn,ql,qe⟩:=q;dsimp only at k3 Cy;repeat' first|refine ak ?_|refine aj ?_ ?_<;>intro hw<;>try omega|fail
  ·rw[if_pos (by omega)]at k3;refine⟨(p+1,acc,τ),?_,?_,by first|rfl|(simp[go_sem];done),bK,at_⟩<;>(try dsimp only)
   ·exact⟨by omega,by omega,f,by omega,k3⟩
   ·omega
  ·rw[if_neg (by omega),if_neg hw]at k3;refine cN ?_;rw[k3];exact bn.cons (View.ai _) (bn.refl rfl)
  ·rw[if_neg (by omega),if_pos hw,List.drop_drop]at k3;refine⟨(p+ql,acc++[⟨qk,qs,qn,p⟩],τ++[.cells [I qk,.str qs,I qn,I p]]),?_,?_,by first|rfl|(simp[go_sem];done),bK,at_⟩<;>(try dsimp only)
   ·exact⟨by omega,by simp;omega,f,by omega,k3⟩
   ·omega
 ·rw[a_ (by omega),Py]at k3;repeat' first|refine ak ?_|refine aj ?_ ?_<;>intro hw<;>try omega|fail
  refine cN ?_;rw[k3];exact bn.cons (View.vec rfl (by simp) (by simp) (Ja _)) (bn.refl rfl)
def wC(s:aS)(hs:s.length<=2 ^ 62): aF aD 81 [.str s] (.bool (jH s)):=by
 refine aK Nu ?_;intro Q aq au aA;repeat' first|refine ak ?_|refine cW (Jc _ hs) ?_|refine cW (Lf _) ?_|refine aj ?_ ?_<;>intro hw<;>try omega|fail
 all_goals refine aN ?_ rfl
 all_goals (refine congrArg AV.bool ?_;simp[jH];try simp_all;try omega)
