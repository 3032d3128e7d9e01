/- Part. -/
import Derived.Test.YtmbgnaoilncbnaaGreatDoorX16
set_option linter.all false
namespace Go.Proofs.YtmbgnaoilncbnaaGreatDoor
open Go.AM
set_option maxRecDepth 4000
def af7(c:UInt8): cU .or .u8 (c.toNat:Int) 32=((c.toNat ||| 32:Nat):Int):=by
 rw[kf];have h:∀ n:Fin 256,nI .or .u8 (n.val:Int) 32=((n.val ||| 32:Nat):Int):=by decide +kernel
 exact h ⟨c.toNat,c.toNat_lt⟩
def XJ(c:UInt8): (decide (97<=c.toNat ||| 32) && decide (c.toNat ||| 32<=122) || decide (c.toNat=95))=om c:=by
 have h:∀ n:Fin 256,(decide (97<=n.val ||| 32) && decide (n.val ||| 32<=122) || decide (n.val=95))=((decide (97<=n.val) && decide (n.val<=122)) ||(decide (65<=n.val) && decide (n.val<=90)) || decide (n.val=95)):=by decide +kernel
 exact h ⟨c.toNat,c.toNat_lt⟩
def HP(c:UInt8): ai Tryz.prog sO [.int .u8 c.toNat] (.bool (om c)):=by
 rw[<-XJ];refine ai.aG (Uq (by simp) ?_) rfl;unfold KN aP;intro Q au aA aB;repeat' first|refine aq ?_|refine ak ?_ ?_<;>intro hw<;>try omega|fail
 all_goals refine aM ?_ rfl
 all_goals (rw[af7]at *;(refine congrArg AV.bool ?_;rw[aV];simp only[af7,aF,dB,decide_eq_true_eq,beq_iff_eq,bZ,decide_eq_false_iff_not,beq_eq_false_iff_ne,ne_eq,true_iff,false_iff,iff_true,iff_false,Bool.false_eq_true,gX,not_and,not_or]at *;omega))
def Le(c:UInt8): ai Tryz.prog rL [.int .u8 c.toNat] (.bool (dP c)):=by
 refine ai.aG (VM (by simp) ?_) rfl;unfold Nb aP;intro Q au aA aB;repeat' first|refine aq ?_|refine ak ?_ ?_<;>intro hw<;>try omega|fail
 all_goals refine aM ?_ rfl
 all_goals (refine congrArg AV.bool ?_;rw[aV];simp only[dP,aF,dB,decide_eq_true_eq,beq_iff_eq,bZ,decide_eq_false_iff_not,beq_eq_false_iff_ne,ne_eq,true_iff,false_iff,iff_true,iff_false,Bool.false_eq_true,gX,not_and,not_or]at *;omega)
def DE{p:UInt8->Bool}{s:aJ}{i:Nat}(hi:i<s.length): ((s.drop i).takeWhile p).length=if p (s.getD i 0)then 1+((s.drop (i+1)).takeWhile p).length else 0:=by
 rw[fJ hi,eV,aE,aQ hi];simp only[bT];split<;>simp;omega
def YQ (fn : FuncId) (cap : List AV) (hcap : AV.cy cap = true) (p : UInt8 -> Bool) (h : ∀ c : UInt8, ai Tryz.prog fn (.int .u8 c.toNat :: cap) (.bool (p c))) (s : aJ) (hs : s.length <= 2 ^ 62) :
    ai Tryz.prog zT [.str s,.fn (.func fn) [] cap] (I (s.takeWhile p).length):=by
 refine ai.aG (Z4 (by simp) ?_) (by simp[AV.dn,AV.cy,hcap]);unfold Tb aP;intro Q au aA aB;repeat' first|refine aq ?_|refine ak ?_ ?_<;>intro hw<;>try omega|fail
 with_reducible refine bn [4,5,8,9,10,11,12,13,14,15,16,17,18] (fun i:Nat=>[(8,I i)]) (fun _=>[]) (fun i=>i<=s.length/\(s.takeWhile p).length=i+((s.drop i).takeWhile p).length) (fun i=>s.length-i) (0) ?_ ?_ ?_ ?_
 ·simp
 ·rfl
 ·exact at_
 ·rintro i r ⟨hi,hp⟩;repeat' first|refine aq ?_|refine aC (h _) ?_|refine ak ?_ ?_<;>intro hw<;>try omega|fail
  ·rw[DE (by omega)]at hp;rw[hw]at hp;exact aM (by simp at hp;simp[hp]) rfl
  ·rw[DE (by omega)]at hp;rw[hw]at hp;refine⟨i+1,?_,?_,by first|rfl|(simp[go_sem];done),bJ,at_⟩<;>(try dsimp only)
   ·simp at hp;exact⟨by omega,by omega⟩
   ·omega
  ·have:i=s.length:=by omega
   subst this;exact aM (by simp at hp;simp[hp]) rfl
def Z8(c:UInt8): ai Tryz.prog C2 [.int .u8 c.toNat] (.bool (uj c)):=by
 refine ai.aG (Ur (by simp) ?_) rfl;unfold KO aP;intro Q au aA aB;repeat' first|refine aq ?_|refine aC (HP _) ?_|refine aC (Le _) ?_|refine ak ?_ ?_<;>intro hw<;>try omega|fail
 all_goals refine aM ?_ rfl
 all_goals simp_all[uj]
def VT(s:aJ)(hs:s.length<=2 ^ 62): ai Tryz.prog BQ [.str s] (I (mW s)):=by
 refine ai.aG (XB (by simp) ?_) rfl;unfold P2 aP;intro Q au aA aB;cases s with
 | nil =>
   repeat' first|refine aq ?_|refine ak ?_ ?_<;>intro hw<;>try omega|fail
   all_goals (refine aM ?_ ?_<;>rfl)
 | cons c r =>
   repeat' first|refine aq ?_|refine aC (HP _) ?_|refine aC (YQ _ _ rfl uj Z8 _ hs) ?_|refine ak ?_ ?_<;>intro hw<;>try omega|fail
   all_goals refine aM ?_ rfl
   all_goals simp_all[mW]
def VU(s:aJ)(hs:s.length<=2 ^ 62): ai Tryz.prog Hw [.str s] (YP (EW s)):=by
 refine ai.aG (XG (by simp) ?_) rfl;unfold Qg aP;intro Q au aA aB;have:=OA s;repeat' first|refine aq ?_|refine aC (VT _ hs) ?_|refine ak ?_ ?_<;>intro hw<;>try omega|fail
 all_goals refine aT ?_ rfl
 all_goals (unfold EW;split<;>first|omega|rfl)
def zh{p:UInt8->Bool}{s:aJ}{i:Nat}(hi:i<(s.takeWhile p).length): s.getD i 0=(s.takeWhile p).getD i 0/\p (s.getD i 0)=true:=by
 induction s generalizing i with
 | nil=>simp at hi
 | cons c r ih =>
   simp only[eV]at hi ⊢;split at hi
   ·rename_i hc;simp only[hc,if_true];cases i with
    | zero=>simp[hc]
    | succ i=>simpa using ih (by simpa using hi)
   ·simp at hi
def Ql(s:aJ)(hs:s.length<=2 ^ 62): ai Tryz.prog C_ [.str s] (YP (oq s)):=by
 refine ai.aG (UC (by simp) ?_) rfl;unfold K6 aP;intro Q au aA aB;have hle:=x6 (p:=dP) s;obtain⟨n,hn⟩:∃ n,(s.takeWhile dP).length=n:=⟨_,rfl⟩;have hrun:ai Tryz.prog zT [.str s,.fn (.func rL) [] []] (I n):=hn ▸ YQ _ [] rfl dP Le _ hs
 have hd:∀ i,i<n->48<=(s.getD i 0).toNat/\(s.getD i 0).toNat<=57/\(s.takeWhile dP).drop i=s.getD i 0::(s.takeWhile dP).drop (i+1):=fun i hi=>by
  obtain⟨h1,h2⟩:=zh (s:=s) (p:=dP) (i:=i) (by omega);simp only[dP,aF,decide_eq_true_eq]at h2;refine⟨h2.1,h2.2,?_⟩;rw[fJ (by omega:i<(s.takeWhile dP).length),h1,aE,aQ (by omega:i<(s.takeWhile dP).length)];rfl
 repeat' first|refine aq ?_|refine aC hrun ?_|refine ak ?_ ?_<;>intro hw<;>try omega|fail
 ·refine aT ?_ rfl;unfold oq;rw[hn];simp only;rw[if_pos (by constructor<;>omega)];rfl
 all_goals (
  have hno:¬ (1<n/\(s.getD 0 0).toNat=48):=by omega
  with_reducible refine bn [3,5,6,7,19,20,21,22,23,24,25,26,27,28,29,30,31,32,33,34,35,36,37] (fun p:Nat × Int=>[(19,I p.1),(5,I p.2)]) (fun _=>[.cells [I 0,.str [],I 0,I 0,I 0]]) (fun p=>p.1<=n/\0<=p.2/\p.2<=9223372036854775807/\x4 (s.takeWhile dP) 0=x4 ((s.takeWhile dP).drop p.1) p.2) (fun p=>n-p.1) (0,0) ?_ ?_ ?_ ?_
  ·simp
  ·rfl
  ·exact at_
  ·rintro⟨i,v⟩ r ⟨hi,hv,VV,hf⟩;simp only at hi hv VV hf;by_cases hin:i<n
   ·obtain⟨d1,d2,d3⟩:=hd i hin;rw[d3]at hf;simp only[x4]at hf;repeat' first|refine aq ?_|refine ak ?_ ?_<;>intro hw<;>try omega|fail
    ·rw[if_pos hw]at hf;refine aT ?_ rfl;unfold oq;rw[hn];simp only;rw[if_neg hno,hf];rfl
    ·rw[if_neg (by omega)]at hf;refine⟨(i+1,v*10+(((s.getD i 0).toNat:Int)-48)),?_,?_,by first|rfl|(simp[go_sem];done),bJ,at_⟩<;>(try dsimp only)
     ·exact⟨by omega,by omega,by omega,hf⟩
     ·omega
   ·have:i=n:=by omega
    subst this;rw[dh (by omega)]at hf;repeat' first|refine aq ?_|refine ak ?_ ?_<;>intro hw<;>try omega|fail
    ·refine aT ?_ rfl;unfold oq;rw[hn];simp only;rw[if_neg hno,hf];rfl)
def iP{l:aJ}{i:Nat}(h:i<l.length): l.drop i=l.getD i 0::l.drop (i+1):=by
 rw[fJ h,aE,aQ h];rfl
abbrev nC(s:aJ): List AV:=s.map fun b=>AV.int .u8 b.toNat
def adb(s:aJ)(h0:s≠[])(hs:s.length<=2 ^ 30): ai Tryz.prog Hx [.str s] (YP (j6 (s.drop 1) [] 1)):=by
 refine ai.aG (XH (by simp) ?_) rfl;unfold Qh aP;intro Q au aA aB;have hl:1<=s.length:=by cases s with|nil=>exact absurd rfl h0|cons=>simp
 generalize hT:j6 (s.drop 1) [] 1=T at *;repeat' first|refine aq ?_|refine ak ?_ ?_<;>intro hw<;>try omega|fail
 with_reducible refine bn [3,4,5,6,7,8,9,10,11,12,13,14,15,16,17,18,19,20,21,22,23,24,25,26,27,28,29,30,31,32,33,34,35,36,37,38,39,40,41,42,43,44,45,46,47,48,49,50,51,52,53,54,55,56,57,58,59,60,61,62,63,64,65,66,67,68,69] (fun p:Nat × aJ=>[(5,I p.1),(4,.own E1 1 p.2.length 0 p.2.length)]) (fun p=>[.cells [I 0,.str [],I 0,I 0,I 0],.vec E1 (nC p.2)]) (fun p=>1<=p.1/\p.1<=s.length/\p.2.length<=p.1/\T=j6 (s.drop p.1) p.2 p.1) (fun p=>s.length-p.1) ((1,[])) ?_ ?_ ?_ ?_
 ·exact⟨Nat.le_refl _,hl,by simp,hT.symm⟩
 ·rfl
 ·exact at_
 ·rintro⟨i,b⟩ r ⟨YI,hi,hb,hf⟩;simp only at YI hi hb hf;by_cases hin:i<s.length
  ·rw[iP hin]at hf;repeat' first|refine aq ?_|refine ak ?_ ?_<;>intro hw<;>try omega|fail
   ·refine aT ?_ rfl;rw[hf,gh,if_pos (by omega),if_pos (by omega)];rfl
   ·refine aT ?_ rfl;rw[hf,gh,if_pos (by omega),if_neg (by omega)];simp
   ·refine aT ?_ rfl;rw[hf,gh,if_neg (by omega),if_pos (by omega),iP (by omega)];simp only;rw[if_neg (by omega)];rfl
   ·rw[gh,if_neg (by omega),if_pos (by omega),iP (by omega)]at hf;try dsimp only at hf
    rw[if_pos (by omega)]at hf;refine⟨(i+2,b++[s.getD (i+1) 0]),?_,?_,by first|rfl|(simp[go_sem];done),bJ,at_⟩<;>(try dsimp only)
    ·simp only[List.length_append,List.length_cons,List.length_nil];exact⟨by omega,by omega,by omega,hf⟩
    ·omega
   ·rw[gh,if_neg (by omega),if_pos (by omega),iP (by omega)]at hf;try dsimp only at hf
    rw[if_pos (by omega)]at hf;refine⟨(i+2,b++[s.getD (i+1) 0]),?_,?_,by first|rfl|(simp[go_sem];done),bJ,at_⟩<;>(try dsimp only)
    ·simp only[List.length_append,List.length_cons,List.length_nil];exact⟨by omega,by omega,by omega,hf⟩
    ·omega
   ·refine aT ?_ rfl;rw[hf,gh,if_neg (by omega),if_pos (by omega),dh (by omega)];rfl
   ·refine aT ?_ rfl;rw[hf,gh,if_neg (by omega),if_neg (by omega),if_neg (by simp only[kz,aF,decide_eq_true_eq];omega)];rfl
   ·rw[gh,if_neg (by omega),if_neg (by omega),if_pos (by simp only[kz,aF,decide_eq_true_eq];omega)]at hf;refine⟨(i+1,b++[s.getD i 0]),?_,?_,by first|rfl|(simp[go_sem];done),bJ,at_⟩<;>(try dsimp only)
    ·simp only[List.length_append,List.length_cons,List.length_nil];exact⟨by omega,by omega,by omega,hf⟩
    ·omega
   ·refine aT ?_ rfl;rw[hf,gh,if_neg (by omega),if_neg (by omega),if_neg (by simp only[kz,aF,decide_eq_true_eq];omega)];rfl
  ·rw[dh (by omega)]at hf;repeat' first|refine aq ?_|refine ak ?_ ?_<;>intro hw<;>try omega|fail
   all_goals (refine aT ?_ rfl;rw[hf];simp[j6,PR.err])
def Lf(s p:aJ): ai Tryz.prog jR [.str s,.str p] (.bool (p.isPrefixOf s)):=by
 refine ai.aG (vp (by simp) ?_) rfl;unfold nB aP;intro Q au aA aB;repeat' first|refine aq ?_|refine ak ?_ ?_<;>intro hw<;>try omega|fail
 all_goals refine aM ?_ rfl
 all_goals refine congrArg AV.bool ?_
 ·rw[aV,beq_iff_eq,gM,List.prefix_iff_eq_take];exact eq_comm
 ·symm;rw[Bool.eq_false_iff];intro h
  have:=(gM.1 h).length_le;omega
def strings_HasPrefix(s p:aJ): ai Tryz.prog rW [.str s,.str p] (.bool (p.isPrefixOf s)):=by
 refine ai.aG (HL (by simp) ?_) rfl;unfold yH aP;intro Q au aA aB;repeat' first|refine aq ?_|refine aC (Lf _ _) ?_|refine ak ?_ ?_<;>intro hw<;>try omega|fail
 all_goals exact aM rfl rfl
def Ti: ai Tryz.prog Fo [] (eR rm):=by
 refine ai.aG (VS (by simp) ?_) rfl;unfold Ni aP;intro Q au aA aB;repeat' first|refine aq ?_|refine ak ?_ ?_<;>intro hw<;>try omega|fail
 all_goals exact PN (View.weak _ _ _ (by simp[AV.dn,AV.cy]))
def jI{α : Type}(p : α->Bool)(l:List α): Int:=match l.findIdx? p with
 | some i=>i
 | none=> -1
def oN{α : Type}[Inhabited α]{p : α->Bool}{l:List α}(h:∀ k,k<l.length->p (l.getD k default)=false): jI p l = -1:=by
 have:l.findIdx? p=none:=by
  rw[List.findIdx?_eq_none_iff];intro x hx;obtain⟨k,hk,rfl⟩:=bW hx;have:=h k hk;rwa[aE,aQ hk]at this
 simp[jI,this]
def pR{α : Type}[Inhabited α]{p : α->Bool}{l:List α}{i:Nat}(hi:i<l.length)(h:∀ k,k<i->p (l.getD k default)=false)(hp:p (l.getD i default)=true): jI p l=i:=by
 have:l.findIdx? p=some i:=by
  rw[List.findIdx?_eq_some_iff_getElem];refine⟨hi,?_,fun j hj=>?_⟩
  ·rwa[aE,aQ hi]at hp
  ·have:=h j hj;rw[aE,aQ (by omega)]at this;simpa using this
 simp[jI,this]
def Ed (fn : FuncId) (cap : List AV) (hcap : AV.cy cap = true) (p : aJ -> Bool) (l : List aJ) (h : ∀ x ∈ l, ai Tryz.prog fn (.str x :: cap) (.bool (p x))) (hl : l.length <= 2 ^ 62) :
    ai Tryz.prog mU [eR l,.fn (.func fn) [] cap] (I (jI p l)):=by
 refine ai.aG (Bl (by simp) ?_) (by simp[AV.dn,AV.cy,hcap,K_]);unfold sC aP;intro Q au aA aB;repeat' first|refine aq ?_|refine ak ?_ ?_<;>intro hw<;>try omega|fail
 with_reducible refine bn [4,5,8,9,10,11,12,13,14,15,16,17,18] (fun i:Nat=>[(8,I i)]) (fun _=>[]) (fun i=>i<=l.length/\ ∀ k,k<i->p (l.getD k default)=false) (fun i=>l.length-i) (0) ?_ ?_ ?_ ?_
 ·simp
 ·rfl
 ·exact at_
 ·rintro i r ⟨hi,hp⟩;by_cases hin:i<l.length
  ·have hx:=h _ (a_ hin);repeat' first|refine aq ?_|refine aC hx ?_|refine ak ?_ ?_<;>intro hw<;>try omega|fail
   ·refine aM ?_ rfl;refine congrArg I ?_;exact(pR hin hp hw).symm
   ·refine⟨i+1,?_,?_,by first|rfl|(simp[go_sem];done),bJ,at_⟩<;>(try dsimp only)
    ·refine⟨by omega,fun k hk=>?_⟩;by_cases hk2:k<i
     ·exact hp k hk2
     ·have:k=i:=by omega
      subst this;exact hw
    ·omega
  ·repeat' first|refine aq ?_|refine ak ?_ ?_<;>intro hw<;>try omega|fail
   refine aM ?_ rfl;refine congrArg I ?_;exact(oN fun k hk=>hp k (by omega)).symm
def wj{α : Type}[Inhabited α](p : α->Bool): ∀ l:List α,(jI p l = -1/\l.find? p=none)\/ ∃ i:Nat,i<l.length/\jI p l=i/\l.find? p=some (l.getD i default)
 | []=> .inl ⟨rfl,rfl⟩
 | x :: l => by
   by_cases hp:p x=true
   ·exact .inr ⟨0,by simp,by simp[jI,List.findIdx?_cons,hp],by simp[hp]⟩
   ·rcases wj p l with⟨h1,h2⟩|⟨i,h1,h2,h3⟩
    ·left;simp only[jI]at h1;refine⟨?_,by simp[hp,h2]⟩;cases h:l.findIdx? p with
     | none=>simp[jI,List.findIdx?_cons,hp,h]
     | some k=>rw[h]at h1;simp at h1
    ·right;refine⟨i+1,by simp;omega,?_,by simp[hp,h3]⟩;simp only[jI]at h2;cases h:l.findIdx? p with
     | none=>rw[h]at h2;simp at h2
     | some k=>rw[h]at h2;simp at h2;simp[jI,List.findIdx?_cons,hp,h];omega
def Z9(m s:aJ): ai Tryz.prog xF [.str m,.fR E1 (.str s) 0] (.bool (m.isPrefixOf s)):=by
 refine ai.aG (UE (by simp) ?_) rfl;unfold K8 aP;intro Q au aA aB;repeat' first|refine aq ?_|refine aC (strings_HasPrefix _ _) ?_|refine ak ?_ ?_<;>intro hw<;>try omega|fail
 all_goals exact aM rfl rfl
def ade(s:aJ): ai Tryz.prog Hy [.str s] (YP (vV s)):=by
 have hc:=Ed xF [.fR E1 (.str s) 0] rfl (fun m=>m.isPrefixOf s) rm (fun m _=>Z9 m s) (by decide);unfold vV;rcases wj (fun m:aJ=>m.isPrefixOf s) rm with⟨h1,h2⟩|⟨i,hi,h1,h2⟩
 ·rw[h1]at hc;rw[h2];refine ai.aG (Nh (by simp) ?_) rfl;unfold HK aP;intro Q au aA aB;repeat' first|refine aq ?_|refine aC Ti ?_|refine Td hc ?_|refine ak ?_ ?_<;>intro hw<;>try omega|fail
  all_goals (refine aT ?_ rfl;rfl)
 ·rw[h1]at hc;rw[h2];have U8:i<16:=hi;have hl:(rm.map cS).length=16:=rfl;refine ai.aG (Nh (by simp) ?_) rfl;unfold HK aP;intro Q au aA aB;repeat' first|refine aq ?_|refine aC Ti ?_|refine Td hc ?_|refine ak ?_ ?_<;>intro hw<;>try omega|fail
  all_goals (refine aT ?_ rfl;rfl)
def adf(s:aJ)(h0:s≠[])(hs:s.length<=2 ^ 30): ai Tryz.prog BS [.str s] (YP (iE s)):=by
 refine ai.aG (XD (by simp) ?_) rfl;unfold Qc aP;intro Q au aA aB;have hl:1<=s.length:=by cases s with|nil=>exact absurd rfl h0|cons=>simp
 repeat' first|refine aq ?_|refine aC (HP _) ?_|refine aC (Le _) ?_|with_reducible refine F2 (VU _ (by omega)) ?_|with_reducible refine F3 (VU _ (by omega)) ?_|with_reducible refine F2 (Ql _ (by omega)) ?_|with_reducible refine F3 (Ql _ (by omega)) ?_|refine aC (adb _ h0 hs) ?_|refine aC (ade _) ?_|refine ak ?_ ?_<;>intro hw<;>try omega|fail
 all_goals refine aT ?_ rfl
 all_goals (unfold iE;dsimp only;first
  |(rw[if_pos (by assumption)]<;>rfl)
  |(rw[if_neg (ne_true_of_eq_false (by assumption)),if_pos (by assumption)]<;>rfl)
  |(rw[if_neg (ne_true_of_eq_false (by assumption)),if_neg (ne_true_of_eq_false (by assumption)),if_pos (by omega)]<;>rfl)
  |(rw[if_neg (ne_true_of_eq_false (by assumption)),if_neg (ne_true_of_eq_false (by assumption)),if_neg (by omega)]<;>rfl))
def VW(s:aJ): ai Tryz.prog yY [.str s] (.bool (wL s)):=by
 refine ai.aG (P3 (by simp) ?_) rfl;unfold Gq aP;intro Q au aA aB;repeat' first|refine aq ?_|refine ak ?_ ?_<;>intro hw<;>try omega|fail
 all_goals refine aM ?_ rfl
 all_goals (refine congrArg AV.bool ?_;simp_all[wL,wK])
def DG(s:aJ)(hs:s.length<=2 ^ 62): ai Tryz.prog qB [.str s] (.bool (gE s)):=by
 refine ai.aG (XA (by simp) ?_) rfl;unfold PW aP;intro Q au aA aB;repeat' first|refine aq ?_|refine aC (VT _ hs) ?_|refine aC (VW _) ?_|refine ak ?_ ?_<;>intro hw<;>try omega|fail
 all_goals refine aM ?_ rfl
 all_goals (refine congrArg AV.bool ?_;simp[gE];try simp_all;try omega)
def OC(p:List Tok × Int × Int): AV:= .bX [sD p.1,I p.2.1,I p.2.2]
attribute [go_sem] OC
def VX(f pos:Nat)(acc:List Tok): tg f [] pos acc=(acc,0,0):=by cases f<;>rfl
def wM (f pos : Nat) (acc : List Tok) (c : UInt8) (r : aJ) : tg (f + 1) (c :: r) pos acc =
    if c.toNat=32 then tg f r (pos+1) acc
    else if(iE (c::r)).e=0 then tg f ((c::r).drop (iE (c::r)).len) (pos+(iE (c::r)).len) (acc++[⟨(iE (c::r)).kind,(iE (c::r)).s,(iE (c::r)).n,pos⟩])
    else([],pos,(iE (c::r)).e):=rfl
def YR(s:aJ)(hs:s.length<=2 ^ 30): ai Tryz.prog Er [.str s] (OC (bw s)):=by
 unfold bw;by_cases kA:200<s.length
 ·rw[if_pos kA];refine ai.aG (P_ (by simp) ?_) rfl;unfold K1 aP;intro Q au aA aB;repeat' first|refine aq ?_|refine ak ?_ ?_<;>intro hw<;>try omega|fail
  refine bq ?_;exact wJ
 rw[if_neg kA];generalize hT:tg (s.length+1) s 0 []=T;refine ai.aG (P_ (by simp) ?_) rfl;unfold K1 aP;intro Q au aA aB;repeat' first|refine aq ?_|refine ak ?_ ?_<;>intro hw<;>try omega|fail
 with_reducible refine bn [2,3,4,5,6,7,8,12,13,14,15,16,17,18,19,20,21,22,23,24,25,26,27,28,29,30,31,32,33,34,35,36,37,38,39,40,41,42,43,44,45,46,47,48,49,50] (fun p:Nat × List Tok × List aX=>[(6,I p.1),(5,.own ET 0 p.2.1.length 0 p.2.1.length)]) (fun p=> .vec ET (p.2.1.map mF)::p.2.2) (fun p=>p.1<=s.length/\p.2.1.length<=p.1/\ ∃ f,s.length-p.1<f/\T=tg f (s.drop p.1) p.1 p.2.1) (fun p=>s.length-p.1) (0,[],[]) ?_ ?_ ?_ ?_
 ·exact⟨by simp,by simp,s.length+1,by omega,hT.symm⟩
 ·rfl
 ·exact at_
 rintro⟨pos,acc,τ⟩ r ⟨h1,h2,f,h3,h4⟩;dsimp only at h1 h2 h3 h4;repeat' first|refine aq ?_|refine ak ?_ ?_<;>intro hw<;>try omega|fail
 with_reducible refine bn [6,12,13,14,15,16,17,18,19,20,21,22,23] (fun p:Nat=>[(6,I p)]) (fun _=> .vec ET (acc.map mF):: τ) (fun p=>pos<=p/\p<=s.length/\ ∃ f,s.length-p<f/\T=tg f (s.drop p) p acc) (fun p=>s.length-p) pos ?_ ?_ ?_ ?_
 ·exact⟨Nat.le_refl _,h1,f,h3,h4⟩
 ·rfl
 ·exact at_
 clear h3 h4;clear f;rintro p r2 ⟨k0,k1,f,k2,k3⟩;obtain⟨f,rfl⟩:∃ g,f=g+1:=⟨f-1,by omega⟩;by_cases hp:p<s.length
 ·rw[iP hp,wM]at k3;have hne:s.drop p≠[]:=by rw[iP hp];simp
  have hlen:(s.drop p).length<=2 ^ 30:=by rw[List.length_drop];omega
  rw[<-iP hp]at k3;have Nj:=adf (s.drop p) hne hlen;have hol:=OB hne;rw[List.length_drop]at hol;generalize iE (s.drop p)=q at *;obtain⟨qk,qs,qn,ql,qe⟩:=q;dsimp only at k3 hol;repeat' first|refine aq ?_|refine aC Nj ?_|refine ak ?_ ?_<;>intro hw<;>try omega|fail
  ·rw[if_pos (by omega)]at k3;refine⟨p+1,?_,?_,by first|rfl|(simp[go_sem];done),bJ,at_⟩<;>(try dsimp only)
   ·exact⟨by omega,by omega,f,by omega,k3⟩
   ·omega
  ·rw[if_neg (by omega),if_neg hw]at k3;refine bq ?_;rw[k3];exact aW.cons (View.ae _) (aW.refl rfl)
  ·rw[if_neg (by omega),if_pos hw,List.drop_drop]at k3;refine⟨(p+ql,acc++[⟨qk,qs,qn,p⟩],τ++[.cells [I qk,.str qs,I qn,I p,I ql]]),?_,?_,by first|rfl|(simp[go_sem];done),bJ,at_⟩<;>(try dsimp only)
   ·exact⟨by omega,by simp;omega,f,by omega,k3⟩
   ·omega
 ·rw[dh (by omega),VX]at k3;repeat' first|refine aq ?_|refine ak ?_ ?_<;>intro hw<;>try omega|fail
  refine bq ?_;rw[k3];exact aW.cons (View.vec rfl (by simp) (by simp) (Qk _)) (aW.refl rfl)
def DH(c:UInt8): ai Tryz.prog ua [.int .u8 c.toNat] (.bool (om c)):=by
 refine ai.aG (P9 (by simp) ?_) rfl;unfold Gz aP;intro Q au aA aB;repeat' first|refine aq ?_|refine ak ?_ ?_<;>intro hw<;>try omega|fail
 all_goals refine aM ?_ rfl
 all_goals (refine congrArg AV.bool ?_;rw[aV];simp only[om,aF,dB,decide_eq_true_eq,beq_iff_eq,bZ,decide_eq_false_iff_not,beq_eq_false_iff_ne,ne_eq,true_iff,false_iff,iff_true,iff_false,Bool.false_eq_true,gX,not_and,not_or]at *;omega)
def vq(c:UInt8): ai Tryz.prog q8 [.int .u8 c.toNat] (.bool (dP c)):=by
 refine ai.aG (Sb (by simp) ?_) rfl;unfold Jk aP;intro Q au aA aB;repeat' first|refine aq ?_|refine ak ?_ ?_<;>intro hw<;>try omega|fail
 all_goals refine aM ?_ rfl
 all_goals (refine congrArg AV.bool ?_;rw[aV];simp only[dP,aF,dB,decide_eq_true_eq,beq_iff_eq,bZ,decide_eq_false_iff_not,beq_eq_false_iff_ne,ne_eq,true_iff,false_iff,iff_true,iff_false,Bool.false_eq_true,gX,not_and,not_or]at *;omega)
def B0 (s : aJ) (i : Nat) (hi : i < s.length) (h : mW s = (if i = 0 then mW s else i + ((s.drop i).takeWhile uj).length)) :
    (om (s.getD i 0)=true\/0<i/\dP (s.getD i 0)=true->mW s=(i+1)+((s.drop (i+1)).takeWhile uj).length) /\
    (¬ (om (s.getD i 0)=true\/0<i/\dP (s.getD i 0)=true)->mW s=i):=by
 by_cases h0:i=0
 ·subst h0;cases s with
  | nil=>simp at hi
  | cons c r =>
    simp only[cQ,fO,false_and,or_false];refine⟨fun hl=>?_,fun hl=>?_⟩
    ·simp only[mW,hl,if_true,eV,uj,Bool.true_or,dX,List.drop_succ_cons,List.drop_zero];simp;omega
    ·simp only[mW,hl];rfl
 ·rw[if_neg h0,DE hi]at h;refine⟨fun hl=>?_,fun hl=>?_⟩
  ·have : uj (s.getD i 0) = true := by
    simp only[uj,Bool.or_eq_true];rcases hl with h1|h1
    ·exact .inl h1
    ·exact .inr h1.2
   rw[this,if_pos rfl]at h;omega
  ·have : uj (s.getD i 0) = false := by
    simp only[uj,fB];simp only[not_or,not_and,dL]at hl;exact⟨hl.1,hl.2 (by omega)⟩
   rw[this,if_neg (by simp)]at h;omega
def VY(s:aJ)(i:Nat): Prop:=mW s=(if i=0 then mW s else i+((s.drop i).takeWhile uj).length)
def Qm(s:aJ)(hs:s.length<=2 ^ 62): ai Tryz.prog xw [.str s] (I (mW s)):=by
 refine ai.aG (Up (by simp) ?_) rfl;unfold KM aP;intro Q au aA aB;repeat' first|refine aq ?_|refine ak ?_ ?_<;>intro hw<;>try omega|fail
 with_reducible refine bn [3,4,5,6,7,8,9,10,11,12,13,14,15,16,17,18,19,20,21,22,23,24,25] (fun i:Nat=>[(3,I i)]) (fun _=>[]) (fun i=>i<=s.length/\VY s i) (fun i=>s.length-i) (0) ?_ ?_ ?_ ?_
 ·simp[VY]
 ·rfl
 ·exact at_
 rintro i r ⟨h1,h2⟩;by_cases hi:i<s.length
 ·repeat' first|refine aq ?_|refine aC (DH _) ?_|refine aC (vq _) ?_|refine ak ?_ ?_<;>intro hw<;>try omega|fail
  ·refine⟨i+1,?_,?_,by first|rfl|(simp[go_sem];done),bJ,at_⟩<;>(try dsimp only)
   ·refine⟨by omega,?_⟩;have:=(B0 s i hi h2).1 (.inr ⟨by omega,hw⟩);unfold VY;rw[if_neg (by omega)];exact this
   ·omega
  ·refine aM ?_ rfl;rw[(B0 s i hi h2).2 (by rintro(h|h);exact ne_true_of_eq_false ‹om _=false› h;exact ne_true_of_eq_false hw h.2)]
  ·refine aM ?_ rfl;rw[(B0 s i hi h2).2 (by rintro(h|h);exact ne_true_of_eq_false ‹om _=false› h;omega)]
  ·refine⟨i+1,?_,?_,by first|rfl|(simp[go_sem];done),bJ,at_⟩<;>(try dsimp only)
   ·refine⟨by omega,?_⟩;have:=(B0 s i hi h2).1 (.inl hw);unfold VY;rw[if_neg (by omega)];exact this
   ·omega
 ·repeat' first|refine aq ?_|refine aC (DH _) ?_|refine aC (vq _) ?_|refine ak ?_ ?_<;>intro hw<;>try omega|fail
  refine aM ?_ rfl;have:i=s.length:=by omega
  unfold VY at h2;by_cases h0:i=0
  ·subst h0;have:s=[]:=by cases s with|nil=>rfl|cons=>simp at this
   subst this;rfl
  ·rw[if_neg h0,dh (by omega)]at h2;rw[h2];simp
def Qn(s:aJ)(hs:s.length<=2 ^ 62): ai Tryz.prog C8 [.str s] (eTP (EW s)):=by
 refine ai.aG (UA (by simp) ?_) rfl;unfold K2 aP;intro Q au aA aB;have:=OA s;repeat' first|refine aq ?_|refine aC (Qm _ hs) ?_|refine ak ?_ ?_<;>intro hw<;>try omega|fail
 all_goals refine aT ?_ rfl
 all_goals (unfold EW;split<;>first|omega|rfl)
def XK: ai Tryz.prog A4 [] (eR rm):=by
 refine ai.aG (Sf (by simp) ?_) rfl;unfold Jp aP;intro Q au aA aB;repeat' first|refine aq ?_|refine ak ?_ ?_<;>intro hw<;>try omega|fail
 all_goals exact PN (View.weak _ _ _ (by simp))
def zi{p:UInt8->Bool}: ∀ {s:aJ} {i:Nat},i<=(s.takeWhile p).length->i<s.length->p (s.getD i 0)=true->i<(s.takeWhile p).length
 | [],i,_,h,_=>by simp at h
 | c::r,0,_,_,hp=>by simp only[cQ]at hp;simp[eV,hp]
 | c :: r, i + 1, h1, h2, hp => by
   simp only[List.getD_cons_succ]at hp;simp only[eV]at h1 ⊢;split at h1
   ·simp only[List.length_cons]at h1 h2 ⊢;have:=zi (p:=p) (s:=r) (i:=i) (by omega) (by omega) hp;split<;>simp_all
   ·simp at h1
def Fw(s:aJ)(i:Nat)(v:Int)(over:Bool): Prop:=i<=(s.takeWhile dP).length/\(over=false->x4 (s.takeWhile dP) 0=x4 ((s.takeWhile dP).drop i) v)/\(over=true->x4 (s.takeWhile dP) 0=none)
def Fw.step {s : aJ} {i : Nat} {v : Int} (h : Fw s i v false) (hi : i < s.length) (hd : dP (s.getD i 0) = true) :
    (v>(9223372036854775807-(((s.getD i 0).toNat:Int)-48)) / 10->Fw s (i+1) v true) /\
    (¬ v>(9223372036854775807-(((s.getD i 0).toNat:Int)-48)) / 10->Fw s (i+1) (v*10+(((s.getD i 0).toNat:Int)-48)) false):=by
 obtain⟨h1,h2,_⟩:=h;have hlt:i<(s.takeWhile dP).length:=zi h1 hi hd;have h3:=zh hlt;have h4:(s.takeWhile dP).drop i=s.getD i 0::(s.takeWhile dP).drop (i+1):=by rw[iP hlt,<-h3.1]
 rw[h4]at h2;simp only[x4]at h2;refine⟨fun hv=>⟨by omega,fun h=>by simp at h,fun _=>?_⟩,fun hv=>⟨by omega,fun _=>?_,fun h=>by simp at h⟩⟩
 ·rw[h2 trivial,if_pos hv]
 ·rw[h2 trivial,if_neg hv]
def Fw.over{s:aJ}{i:Nat}{v:Int}(h:Fw s i v true)(hi:i<s.length)(hd:dP (s.getD i 0)=true): Fw s (i+1) v true :=
 ⟨zi h.1 hi hd,fun h=>by simp at h,h.2.2⟩
def Fw.fin{s:aJ}{i:Nat}{v:Int}{o:Bool}(h:Fw s i v o)(hi:i<s.length->dP (s.getD i 0)=false)(hl:i<=s.length): (s.takeWhile dP).length=i/\x4 (s.takeWhile dP) 0=if o then none else some v:=by
 have hlen:(s.takeWhile dP).length=i:=by
  have h1:=h.1;apply Nat.le_antisymm _ h1;apply Nat.le_of_not_lt;intro hlt;have h3:=(zh hlt).2;have:i<s.length:=da hlt (x6 s);rw[hi this]at h3;cases h3
 refine⟨hlen,?_⟩;cases o with
 | false=>rw[h.2.1 rfl,dh (by omega)];rfl
 | true=>rw[h.2.2 rfl];rfl
def Nk(s:aJ): oq s=if 1<(s.takeWhile dP).length/\(s.getD 0 0).toNat=48 then .err 11
 else match x4 (s.takeWhile dP) 0 with
  | none=> .err 15
  | some v=>⟨2,[],v,(s.takeWhile dP).length,0⟩:=rfl
def Lg(s:aJ)(hs:s.length<=2 ^ 62): ai Tryz.prog y6 [.str s] (eTP (oq s)):=by
 refine ai.aG (Qe (by simp) ?_) rfl;unfold GD aP;intro Q au aA aB;repeat' first|refine aq ?_|refine ak ?_ ?_<;>intro hw<;>try omega|fail
 with_reducible refine bn [5,6,7,8,9,10,11,12,13,14,15,16,17,18,19,20,21,22,23,24,25,26,27,28,29,30,31,32,33,34,35,36,37,38,39] (fun p:Nat × Int × Bool=>[(5,I p.1),(6,I p.2.1),(7,.bool p.2.2)]) (fun _=>[.cells [I 0,.str [],I 0,I 0]]) (fun p=>p.1<=s.length/\0<=p.2.1/\p.2.1<=9223372036854775807/\Fw s p.1 p.2.1 p.2.2) (fun p=>s.length-p.1) ((0,0,false)) ?_ ?_ ?_ ?_
 ·exact⟨by simp,by simp,by simp,by simp,fun _=>rfl,fun h=>by simp at h⟩
 ·rfl
 ·exact at_
 rintro⟨i,v,o⟩ r ⟨h1,h2,h3,h4⟩;dsimp only at h1 h2 h3 h4;by_cases hi:i<s.length
 ·by_cases hd:dP (s.getD i 0)=true
  ·have hb:48<=(s.getD i 0).toNat/\(s.getD i 0).toNat<=57:=by simpa[dP]using hd
   have hc:=hd ▸ vq (s.getD i 0);cases o with
   | true =>
     repeat' first|refine aq ?_|refine aC hc ?_|refine ak ?_ ?_<;>intro hw<;>try omega|fail
     refine⟨(i+1,v,true),?_,?_,by first|rfl|(simp[go_sem];done),bJ,at_⟩<;>(try dsimp only)
     ·exact⟨by omega,h2,h3,h4.over hi hd⟩
     ·omega
   | false =>
     have hst:=h4.step hi hd;repeat' first|refine aq ?_|refine aC hc ?_|refine ak ?_ ?_<;>intro hw<;>try omega|fail
     ·refine⟨(i+1,10*v+(((s.getD i 0).toNat:Int)-48),decide ((9223372036854775807-(((s.getD i 0).toNat:Int)-48)) / 10<v)),?_,?_,by first|rfl|(simp[go_sem];done),bJ,at_⟩<;>(try dsimp only)
      ·exact⟨by omega,by omega,by omega,by rw[decide_eq_false (by omega),Int.mul_comm];exact hst.2 (by omega)⟩
      ·omega
     ·refine⟨(i+1,v,decide ((9223372036854775807-(((s.getD i 0).toNat:Int)-48)) / 10<v)),?_,?_,by first|rfl|(simp[go_sem];done),bJ,at_⟩<;>(try dsimp only)
      ·exact⟨by omega,h2,h3,by rw[decide_eq_true (by omega)];exact hst.1 (by omega)⟩
      ·omega
  ·have hd':dP (s.getD i 0)=false:=by simpa using hd
   have hc:=hd' ▸ vq (s.getD i 0);obtain⟨f1,f2⟩:=h4.fin (fun _=>hd') (by omega);have f3:=Nk s;rw[f1,f2]at f3;clear h4 hd hd' f1 f2;repeat' first|refine aq ?_|refine aC hc ?_|refine ak ?_ ?_<;>intro hw<;>try omega|fail
   all_goals (refine aT ?_ rfl;rw[f3])
   all_goals (split<;>first|omega|(cases o<;>simp_all[PR.err]))
 ·obtain⟨f1,f2⟩:=h4.fin (fun h=>absurd h hi) h1;have f3:=Nk s;rw[f1,f2]at f3;clear h4 f1 f2;repeat' first|refine aq ?_|refine ak ?_ ?_<;>intro hw<;>try omega|fail
  all_goals (refine aT ?_ rfl;rw[f3])
  all_goals (split<;>first|omega|(cases o<;>simp_all[PR.err]))
def Z_(s:aJ)(h0:s≠[])(hs:s.length<=2 ^ 30): ai Tryz.prog C9 [.str s] (eTP (j6 (s.drop 1) [] 1)):=by
 refine ai.aG (UB (by simp) ?_) rfl;unfold K3 aP;intro Q au aA aB;have hl:1<=s.length:=by cases s with|nil=>exact absurd rfl h0|cons=>simp
 generalize hT:j6 (s.drop 1) [] 1=T at *;repeat' first|refine aq ?_|refine ak ?_ ?_<;>intro hw<;>try omega|fail
 with_reducible refine bn [3,4,5,6,7,8,9,10,11,12,13,14,15,16,17,18,19,20,21,22,23,24,25,26,27,28,29,30,31,32,33,34,35,36,37,38,39,40,41,42,43,44,45,46,47,48,49,50,51,52,53,54,55,56,57,58,59,60,61,62,63,64,65] (fun p:Nat × aJ=>[(6,I p.1),(5,.str p.2)]) (fun p=>[.cells [I 0,.str [],I 0,I 0]]) (fun p=>1<=p.1/\p.1<=s.length/\p.2.length<=p.1/\T=j6 (s.drop p.1) p.2 p.1) (fun p=>s.length-p.1) ((1,[])) ?_ ?_ ?_ ?_
 ·exact⟨Nat.le_refl _,hl,by simp,hT.symm⟩
 ·rfl
 ·exact at_
 ·rintro⟨i,b⟩ r ⟨YI,hi,hb,hf⟩;simp only at YI hi hb hf;have hone:∀ k,k<s.length->List.take 1 (s.drop k)=[s.getD k 0]:=fun k hk=>by rw[iP hk];rfl
  by_cases hin:i<s.length
  ·rw[iP hin]at hf;repeat' first|refine aq ?_|refine ak ?_ ?_<;>intro hw<;>try omega|fail
   ·refine aT ?_ rfl;rw[hf,gh,if_pos (by omega),if_pos (by omega)];rfl
   ·refine aT ?_ rfl;rw[hf,gh,if_pos (by omega),if_neg (by omega)];simp
   ·refine aT ?_ rfl;rw[hf,gh,if_neg (by omega),if_pos (by omega),iP (by omega)];simp only;rw[if_neg (by omega)];rfl
   ·rw[gh,if_neg (by omega),if_pos (by omega),iP (by omega)]at hf;try dsimp only at hf
    rw[if_pos (by omega)]at hf;refine⟨(i+2,b++[s.getD (i+1) 0]),?_,?_,by first|rfl|(simp[go_sem];done),bJ,at_⟩<;>(try dsimp only)
    ·simp only[List.length_append,List.length_cons,List.length_nil];exact⟨by omega,by omega,by omega,hf⟩
    ·omega
   ·rw[gh,if_neg (by omega),if_pos (by omega),iP (by omega)]at hf;try dsimp only at hf
    rw[if_pos (by omega)]at hf;refine⟨(i+2,b++[s.getD (i+1) 0]),?_,?_,by first|rfl|(simp[go_sem];done),bJ,at_⟩<;>(try dsimp only)
    ·simp only[List.length_append,List.length_cons,List.length_nil];exact⟨by omega,by omega,by omega,hf⟩
    ·omega
   ·refine aT ?_ rfl;rw[hf,gh,if_neg (by omega),if_pos (by omega),dh (by omega)];rfl
   ·refine aT ?_ rfl;rw[hf,gh,if_neg (by omega),if_neg (by omega),if_neg (by simp only[kz,aF,decide_eq_true_eq];omega)];rfl
   ·rw[gh,if_neg (by omega),if_neg (by omega),if_pos (by simp only[kz,aF,decide_eq_true_eq];omega)]at hf;refine⟨(i+1,b++[s.getD i 0]),?_,?_,by first|rfl|(simp[go_sem];done),bJ,at_⟩<;>(try dsimp only)
    ·simp only[List.length_append,List.length_cons,List.length_nil];exact⟨by omega,by omega,by omega,hf⟩
    ·omega
   ·refine aT ?_ rfl;rw[hf,gh,if_neg (by omega),if_neg (by omega),if_neg (by simp only[kz,aF,decide_eq_true_eq];omega)];rfl
  ·rw[dh (by omega)]at hf;repeat' first|refine aq ?_|refine ak ?_ ?_<;>intro hw<;>try omega|fail
   all_goals (refine aT ?_ rfl;rw[hf];simp[j6,PR.err])
def wN{α : Type}[Inhabited α]{p : α->Bool}{l:List α}{i:Nat}(hi:i<l.length)(h:∀ k,k<i->p (l.getD k default)=false)(hp:p (l.getD i default)=true): l.find? p=some (l.getD i default):=by
 have h1:=pR hi h hp;rcases wj p l with⟨h2,h3⟩|⟨j,h2,h3,h4⟩
 ·omega
 ·have:j=i:=by omega
  subst this;exact h4
def wk{α : Type}[Inhabited α]{p : α->Bool}{l:List α}(h:∀ k,k<l.length->p (l.getD k default)=false): l.find? p=none:=by
 have h1:=oN h;rcases wj p l with⟨h2,h3⟩|⟨j,h2,h3,h4⟩
 ·exact h3
 ·omega
def DI{α : Type}[Inhabited α]{p : α->Bool}{l:List α}{i:Nat}(hi:i<l.length)(hp:p (l.getD i default)=true): l.any p=true:=by
 rw[List.any_eq_true];exact⟨_,a_ hi,hp⟩
def zj{α : Type}[Inhabited α]{p : α->Bool}{l:List α}(h:∀ k,k<l.length->p (l.getD k default)=false): l.any p=false:=by
 rw[List.any_eq_false];intro x hx;obtain⟨k,hk,rfl⟩:=bW hx;have:=h k hk;rw[aE,aQ hk,bT]at this;simp[this]
def bf{q:Nat->Prop}{i:Nat}(h:∀ k,k<i->q k)(hi:q i): ∀ k,k<i+1->q k:=fun k hk=>by
 by_cases h2:k<i
 ·exact h k h2
 ·have:k=i:=by omega
  subst this;exact hi
def Nl{m s:aJ}(h:m.length<=s.length): (List.take m.length s==m)=m.isPrefixOf s:=by
 rw[aV,beq_iff_eq,gM,List.prefix_iff_eq_take];exact eq_comm
def XL{m s:aJ}(h:s.length<m.length): m.isPrefixOf s=false:=by
 rw[Bool.eq_false_iff];intro h2;have:=(gM.1 h2).length_le;omega
def abF(s:aJ)(h0:s≠[])(hs:s.length<=2 ^ 30): ai Tryz.prog Fm [.str s] (eTP (iE s)):=by
 refine ai.aG (VQ (by simp) ?_) rfl;unfold Ng aP;intro Q au aA aB;have hl:1<=s.length:=by cases s with|nil=>exact absurd rfl h0|cons=>simp
 repeat' first|refine aq ?_|refine aC (DH _) ?_|refine aC (vq _) ?_|with_reducible refine F2 (Qn _ (by omega)) ?_|with_reducible refine F3 (Qn _ (by omega)) ?_|with_reducible refine F2 (Lg _ (by omega)) ?_|with_reducible refine F3 (Lg _ (by omega)) ?_|refine aC (Z_ _ h0 hs) ?_|refine aC XK ?_|refine ak ?_ ?_<;>intro hw<;>try omega|fail
 ·refine aT ?_ rfl;unfold iE;dsimp only;rw[if_pos (by assumption)]
 ·refine aT ?_ rfl;unfold iE;dsimp only;rw[if_neg (ne_true_of_eq_false (by assumption)),if_pos (by assumption)]
 ·refine aT ?_ rfl;unfold iE;dsimp only;rw[if_neg (ne_true_of_eq_false (by assumption)),if_neg (ne_true_of_eq_false (by assumption)),if_pos (by omega)]
 have ho:iE s=vV s:=by
  unfold iE;dsimp only;rw[if_neg (ne_true_of_eq_false (by assumption)),if_neg (ne_true_of_eq_false (by assumption)),if_neg (by omega)]
 rw[ho]at au aA;have hml:rm.length=16:=rfl;with_reducible refine bn [3,4,6,35,36,37,38,39,40,41,42,43,44,45,46,47,48,49,50,51,52,53,54,55,56,57,58,59,60,61,62,63,64,65,66,67,68,69,70,71,72] (fun i:Nat=>[(6,I i)]) (fun _=>[.cells [I 0,.str [],I 0,I 0]]) (fun i=>i<=16/\ ∀ k,k<i->(rm.getD k default).isPrefixOf s=false) (fun i=>16-i) 0 ?_ ?_ ?_ ?_
 ·simp
 ·rfl
 ·exact at_
 rintro i r ⟨h1,h2⟩;by_cases hi:i<16
 ·repeat' first|refine aq ?_|refine ak ?_ ?_<;>intro hw<;>try omega|fail
  ·have hp:(rm.getD i default).isPrefixOf s=true:=by rw[<-Nl (by omega)];simpa using hw
   refine aT ?_ rfl;unfold vV;rw[wN (p:=fun m:aJ=>m.isPrefixOf s) hi h2 hp]
  ·have hp:(rm.getD i default).isPrefixOf s=false:=by rw[<-Nl (by omega)];simpa using hw
   refine⟨i+1,?_,?_,by first|rfl|(simp[go_sem];done),bJ,at_⟩<;>(try dsimp only)
   ·exact⟨by omega,bf h2 hp⟩
   ·omega
  ·refine⟨i+1,?_,?_,by first|rfl|(simp[go_sem];done),bJ,at_⟩<;>(try dsimp only)
   ·exact⟨by omega,bf h2 (XL (by omega))⟩
   ·omega
 ·repeat' first|refine aq ?_|refine ak ?_ ?_<;>intro hw<;>try omega|fail
  refine aT ?_ rfl;unfold vV;rw[wk (p:=fun m:aJ=>m.isPrefixOf s) (fun k hk=>h2 k (by omega))];rfl
def Sh(s:aJ): ai Tryz.prog wc [.str s] (.bool (wL s)):=by
 have Lh:wL s=wK.any (fun x=>x==s):=by
  unfold wL;rw[Bool.eq_iff_iff,List.contains_iff_mem,List.any_eq_true];simp
 rw[Lh];refine ai.aG (MS (by simp) ?_) rfl;unfold Dt aP;intro Q au aA aB;repeat' first|refine aq ?_|refine ak ?_ ?_<;>intro hw<;>try omega|fail
 have e1:wK.length=9:=rfl;have e2 : [AV.str [97,110,100],AV.str [111,114],AV.str [110,111,116],AV.str [105,102],AV.str [116,104,101,110],AV.str [101,108,115,101],AV.str [116,114,117,101],AV.str [102,97,108,115,101],AV.str [110,117,108,108]]=wK.map cS:=rfl;rw[e2];with_reducible refine bn [2,4,6,7,8,9,10,11,12,13,14,15,16,17] (fun i:Nat=>[(4,I i)]) (fun _=>[]) (fun i=>i<=9/\ ∀ k,k<i->(wK.getD k default==s)=false) (fun i=>9-i) 0 ?_ ?_ ?_ ?_
 ·simp
 ·rfl
 ·exact at_
 rintro i r ⟨h1,h2⟩;by_cases hi:i<9
 ·repeat' first|refine aq ?_|refine ak ?_ ?_<;>intro hw<;>try omega|fail
  ·refine aM ?_ rfl;rw[DI (p:=fun x:aJ=>x==s) hi (by simpa using hw)]
  ·refine⟨i+1,?_,?_,by first|rfl|(simp[go_sem];done),bJ,at_⟩<;>(try dsimp only)
   ·exact⟨by omega,bf h2 (by simpa using hw)⟩
   ·omega
 ·repeat' first|refine aq ?_|refine ak ?_ ?_<;>intro hw<;>try omega|fail
  refine aM ?_ rfl;rw[zj (p:=fun x:aJ=>x==s) (fun k hk=>h2 k (by omega))]
def Tj(s:aJ)(hs:s.length<=2 ^ 30): ai Tryz.prog uZ [.str s] (OC (bw s)):=by
 unfold bw;by_cases kA:200<s.length
 ·rw[if_pos kA];refine ai.aG (KW (by simp) ?_) rfl;unfold Fu aP;intro Q au aA aB;repeat' first|refine aq ?_|refine ak ?_ ?_<;>intro hw<;>try omega|fail
  refine bq ?_;exact wJ
 rw[if_neg kA];generalize hT:tg (s.length+1) s 0 []=T;refine ai.aG (KW (by simp) ?_) rfl;unfold Fu aP;intro Q au aA aB;repeat' first|refine aq ?_|refine ak ?_ ?_<;>intro hw<;>try omega|fail
 with_reducible refine bn [2,3,4,5,6,7,8,9,13,14,15,16,17,18,19,20,21,22,23,24,25,26,27,28,29,30,31,32,33,34,35,36,37,38,39,40,41,42,43] (fun p:Nat × List Tok × List aX=>[(6,I p.1),(5,.own ET 0 p.2.1.length 0 p.2.1.length)]) (fun p=> .vec ET (p.2.1.map mF)::p.2.2) (fun p=>p.1<=s.length/\p.2.1.length<=p.1/\ ∃ f,s.length-p.1<f/\T=tg f (s.drop p.1) p.1 p.2.1) (fun p=>s.length-p.1) (0,[],[]) ?_ ?_ ?_ ?_
 ·exact⟨by simp,by simp,s.length+1,by omega,hT.symm⟩
 ·rfl
 ·exact at_
 rintro⟨p,acc,τ⟩ r ⟨k0,k1,f,k2,k3⟩;dsimp only at k0 k1 k2 k3;obtain⟨f,rfl⟩:∃ g,f=g+1:=⟨f-1,by omega⟩;by_cases hp:p<s.length
 ·rw[iP hp,wM]at k3;have hne:s.drop p≠[]:=by rw[iP hp];simp
  have hlen:(s.drop p).length<=2 ^ 30:=by rw[List.length_drop];omega
  rw[<-iP hp]at k3;have Nj:=abF (s.drop p) hne hlen;have hol:=OB hne;rw[List.length_drop]at hol;generalize iE (s.drop p)=q at *;obtain⟨qk,qs,qn,ql,qe⟩:=q;dsimp only at k3 hol;repeat' first|refine aq ?_|refine aC Nj ?_|refine ak ?_ ?_<;>intro hw<;>try omega|fail
  ·rw[if_pos (by omega)]at k3;refine⟨(p+1,acc,τ),?_,?_,by first|rfl|(simp[go_sem];done),bJ,at_⟩<;>(try dsimp only)
   ·exact⟨by omega,by omega,f,by omega,k3⟩
   ·omega
  ·rw[if_neg (by omega),if_neg hw]at k3;refine bq ?_;rw[k3];exact aW.cons (View.ae _) (aW.refl rfl)
  ·rw[if_neg (by omega),if_pos hw,List.drop_drop]at k3;refine⟨(p+ql,acc++[⟨qk,qs,qn,p⟩],τ++[.cells [I qk,.str qs,I qn,I p]]),?_,?_,by first|rfl|(simp[go_sem];done),bJ,at_⟩<;>(try dsimp only)
   ·exact⟨by omega,by simp;omega,f,by omega,k3⟩
   ·omega
 ·rw[dh (by omega),VX]at k3;repeat' first|refine aq ?_|refine ak ?_ ?_<;>intro hw<;>try omega|fail
  refine bq ?_;rw[k3];exact aW.cons (View.vec rfl (by simp) (by simp) (Qk _)) (aW.refl rfl)
def x7(s:aJ)(hs:s.length<=2 ^ 62): ai Tryz.prog nw [.str s] (.bool (gE s)):=by
 refine ai.aG (Uh (by simp) ?_) rfl;unfold KB aP;intro Q au aA aB;repeat' first|refine aq ?_|refine aC (Qm _ hs) ?_|refine aC (Sh _) ?_|refine ak ?_ ?_<;>intro hw<;>try omega|fail
 all_goals refine aM ?_ rfl
 all_goals (refine congrArg AV.bool ?_;simp[gE];try simp_all;try omega)
end Go.Proofs.YtmbgnaoilncbnaaGreatDoor
