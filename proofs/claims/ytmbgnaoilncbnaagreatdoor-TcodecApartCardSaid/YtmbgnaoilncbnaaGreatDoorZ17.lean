/- Part of a proof: see Root. -/
import Derived.Test.YtmbgnaoilncbnaaGreatDoorZ16
set_option linter.unnecessarySimpa false
set_option linter.unusedSimpArgs false
set_option linter.unusedVariables false
namespace Go.Proofs.YtmbgnaoilncbnaaGreatDoor
open Go.AM
set_option maxRecDepth 4000
theorem aco(c:UInt8): nB .or .u8 (c.toNat:Int) 32=((c.toNat ||| 32:Nat):Int):=by
 rw[jV]
 have h:∀ n:Fin 256,lU .or .u8 (n.val:Int) 32=((n.val ||| 32:Nat):Int):=by decide +kernel
 exact h ⟨c.toNat,c.toNat_lt⟩
theorem Tv(c:UInt8): (decide (97≤c.toNat ||| 32) && decide (c.toNat ||| 32≤122) || decide (c.toNat=95))=gJ c:=by
 have h:∀ n:Fin 256,(decide (97≤n.val ||| 32) && decide (n.val ||| 32≤122) || decide (n.val=95))=((decide (97≤n.val) && decide (n.val≤122)) ||(decide (65≤n.val) && decide (n.val≤90)) || decide (n.val=95)):=by decide +kernel
 exact h ⟨c.toNat,c.toNat_lt⟩
theorem D_(c:UInt8): aq Tryz.prog pH [.int .u8 c.toNat] (.bool (gJ c)):=by
 rw[← Tv]
 refine aq.of_nil (P_ (by simp) ?_) rfl
 unfold GS aM
 intro Q aC aD aE
 repeat' first|refine aB ?_|refine aA (fun hw=>?_) (fun hw=>?_)<;>try omega|fail
 all_goals refine aL ?_ rfl
 all_goals (rw[aco]at *;(refine congrArg AV.bool ?_;rw[Bool.eq_iff_iff];simp only[aco,Bool.and_eq_true,Bool.or_eq_true,decide_eq_true_eq,beq_iff_eq,Bool.not_eq_true',decide_eq_false_iff_not,beq_eq_false_iff_ne,ne_eq,true_iff,false_iff,iff_true,iff_false,Bool.false_eq_true,Bool.true_eq_false,not_and,not_or]at *;omega))
theorem Hp(c:UInt8): aq Tryz.prog ov [.int .u8 c.toNat] (.bool (cw c)):=by
 refine aq.of_nil (Rv (by simp) ?_) rfl
 unfold Jk aM
 intro Q aC aD aE
 repeat' first|refine aB ?_|refine aA (fun hw=>?_) (fun hw=>?_)<;>try omega|fail
 all_goals refine aL ?_ rfl
 all_goals (refine congrArg AV.bool ?_;rw[Bool.eq_iff_iff];simp only[cw,Bool.and_eq_true,Bool.or_eq_true,decide_eq_true_eq,beq_iff_eq,Bool.not_eq_true',decide_eq_false_iff_not,beq_eq_false_iff_ne,ne_eq,true_iff,false_iff,iff_true,iff_false,Bool.false_eq_true,Bool.true_eq_false,not_and,not_or]at *;omega)
theorem Av{p:UInt8→Bool}{s:aH}{i:Nat}(hi:i<s.length): ((s.drop i).takeWhile p).length=if p (s.getD i 0)then 1+((s.drop (i+1)).takeWhile p).length else 0:=by
 rw[List.drop_eq_getElem_cons hi,List.takeWhile_cons,List.getD_eq_getElem?_getD,List.getElem?_eq_getElem hi]
 simp only[Option.getD_some]
 split<;>simp;omega
theorem Uz(fn:FuncId)(cap:List AV)(hcap:AV.bW cap=true)(p:UInt8→Bool)(h:∀ c:UInt8,aq Tryz.prog fn (.int .u8 c.toNat::cap) (.bool (p c)))(s:aH)(hs:s.length≤2 ^ 62):
 aq Tryz.prog wV [.str s,.fn (.func fn) [] cap] (I (s.takeWhile p).length):=by
 refine aq.of_nil (VF (by simp) ?_) (by simp[AV.cF,AV.bW,hcap])
 unfold OW aM
 intro Q aC aD aE
 repeat' first|refine aB ?_|refine aA (fun hw=>?_) (fun hw=>?_)<;>try omega|fail
 with_reducible refine a_ [4,5,8,9,10,11,12,13,14,15,16,17,18] (fun i:Nat=>[(8,I i)]) (fun _=>[]) (fun i=>i≤s.length∧(s.takeWhile p).length=i+((s.drop i).takeWhile p).length) (fun i=>s.length-i) (0) ?_ ?_ ?_ ?_
 ·simp
 ·rfl
 ·exact at_
 ·rintro i r ⟨hi,hp⟩
  repeat' first|refine aB ?_|refine aF (h _) ?_|refine aA (fun hw=>?_) (fun hw=>?_)<;>try omega|fail
  ·rw[Av (by omega)]at hp
   rw[hw]at hp
   exact aL (by simp at hp;simp[hp]) rfl
  ·rw[Av (by omega)]at hp
   rw[hw]at hp
   refine⟨i+1,?_,?_,by first|rfl|(simp[go_sem];done),bG,at_⟩<;>(try dsimp only)
   ·simp at hp;exact⟨by omega,by omega⟩
   ·omega
  ·have:i=s.length:=by omega
   subst this
   exact aL (by simp at hp;simp[hp]) rfl
theorem VJ(c:UInt8): aq Tryz.prog zO [.int .u8 c.toNat] (.bool (l9 c)):=by
 refine aq.of_nil (Qa (by simp) ?_) rfl
 unfold GU aM
 intro Q aC aD aE
 repeat' first|refine aB ?_|refine aF (D_ _) ?_|refine aF (Hp _) ?_|refine aA (fun hw=>?_) (fun hw=>?_)<;>try omega|fail
 all_goals refine aL ?_ rfl
 all_goals simp_all[l9]
theorem RF(s:aH)(hs:s.length≤2 ^ 62): aq Tryz.prog yJ [.str s] (I (gx s)):=by
 refine aq.of_nil (Tm (by simp) ?_) rfl
 unfold LC aM
 intro Q aC aD aE
 cases s with
 | nil =>
   repeat' first|refine aB ?_|refine aA (fun hw=>?_) (fun hw=>?_)<;>try omega|fail
   all_goals (refine aL ?_ ?_<;>rfl)
 | cons c r =>
   repeat' first|refine aB ?_|refine aF (D_ _) ?_|refine aF (Uz _ _ rfl l9 VJ _ hs) ?_|refine aA (fun hw=>?_) (fun hw=>?_)<;>try omega|fail
   all_goals refine aL ?_ rfl
   all_goals simp_all[gx]
theorem RG(s:aH)(hs:s.length≤2 ^ 62): aq Tryz.prog DU [.str s] (Uy (yQ s)):=by
 refine aq.of_nil (Tr (by simp) ?_) rfl
 unfold LU aM
 intro Q aC aD aE
 have:=Kk s
 repeat' first|refine aB ?_|refine aF (RF _ hs) ?_|refine aA (fun hw=>?_) (fun hw=>?_)<;>try omega|fail
 all_goals refine aP ?_ rfl
 all_goals (unfold yQ;split<;>first|omega|rfl)
theorem vW{p:UInt8→Bool}{s:aH}{i:Nat}(hi:i<(s.takeWhile p).length): s.getD i 0=(s.takeWhile p).getD i 0∧p (s.getD i 0)=true:=by
 induction s generalizing i with
 | nil=>simp at hi
 | cons c r ih =>
   simp only[List.takeWhile_cons]at hi ⊢
   split at hi
   ·rename_i hc
    simp only[hc,if_true]
    cases i with
    | zero=>simp[hc]
    | succ i=>simpa using ih (by simpa using hi)
   ·simp at hi
theorem L0(s:aH)(hs:s.length≤2 ^ 62): aq Tryz.prog zW [.str s] (Uy (kN s)):=by
 refine aq.of_nil (Ql (by simp) ?_) rfl
 unfold He aM
 intro Q aC aD aE
 have hle:=uD (p:=cw) s
 obtain⟨n,hn⟩:∃ n,(s.takeWhile cw).length=n:=⟨_,rfl⟩
 have hrun:aq Tryz.prog wV [.str s,.fn (.func ov) [] []] (I n):=hn ▸ Uz _ [] rfl cw Hp _ hs
 have hd:∀ i,i<n→48≤(s.getD i 0).toNat∧(s.getD i 0).toNat≤57∧(s.takeWhile cw).drop i=s.getD i 0::(s.takeWhile cw).drop (i+1):=fun i hi=>by
  obtain⟨h1,h2⟩:=vW (s:=s) (p:=cw) (i:=i) (by omega)
  simp only[cw,Bool.and_eq_true,decide_eq_true_eq]at h2
  refine⟨h2.1,h2.2,?_⟩
  rw[List.drop_eq_getElem_cons (by omega:i<(s.takeWhile cw).length),h1,List.getD_eq_getElem?_getD,List.getElem?_eq_getElem (by omega:i<(s.takeWhile cw).length)]
  rfl
 repeat' first|refine aB ?_|refine aF hrun ?_|refine aA (fun hw=>?_) (fun hw=>?_)<;>try omega|fail
 ·refine aP ?_ rfl
  unfold kN;rw[hn];simp only
  rw[if_pos (by constructor<;>omega)];rfl
 all_goals (
  have hno:¬ (1<n∧(s.getD 0 0).toNat=48):=by omega
  with_reducible refine a_ [3,5,6,7,19,20,21,22,23,24,25,26,27,28,29,30,31,32,33,34,35,36,37] (fun p:Nat × Int=>[(19,I p.1),(5,I p.2)]) (fun _=>[.cells [I 0,.str [],I 0,I 0,I 0]]) (fun p=>p.1≤n∧0≤p.2∧p.2≤9223372036854775807∧mz (s.takeWhile cw) 0=mz ((s.takeWhile cw).drop p.1) p.2) (fun p=>n-p.1) (0,0) ?_ ?_ ?_ ?_
  ·simp
  ·rfl
  ·exact at_
  ·rintro⟨i,v⟩ r ⟨hi,hv,L4,hf⟩
   simp only at hi hv L4 hf
   by_cases hin:i<n
   ·obtain⟨d1,d2,d3⟩:=hd i hin
    rw[d3]at hf
    simp only[mz]at hf
    repeat' first|refine aB ?_|refine aA (fun hw=>?_) (fun hw=>?_)<;>try omega|fail
    ·rw[if_pos hw]at hf
     refine aP ?_ rfl
     unfold kN;rw[hn];simp only
     rw[if_neg hno,hf];rfl
    ·rw[if_neg (by omega)]at hf
     refine⟨(i+1,v*10+(((s.getD i 0).toNat:Int)-48)),?_,?_,by first|rfl|(simp[go_sem];done),bG,at_⟩<;>(try dsimp only)
     ·exact⟨by omega,by omega,by omega,hf⟩
     ·omega
   ·have:i=n:=by omega
    subst this
    rw[List.drop_of_length_le (by omega)]at hf
    repeat' first|refine aB ?_|refine aA (fun hw=>?_) (fun hw=>?_)<;>try omega|fail
    ·refine aP ?_ rfl
     unfold kN;rw[hn];simp only
     rw[if_neg hno,hf];rfl)
theorem fO{l:aH}{i:Nat}(h:i<l.length): l.drop i=l.getD i 0::l.drop (i+1):=by
 rw[List.drop_eq_getElem_cons h,List.getD_eq_getElem?_getD,List.getElem?_eq_getElem h];rfl
abbrev pU(s:aH): List AV:=s.map fun b=>AV.int .u8 b.toNat
theorem Za(s:aH)(h0:s≠[])(hs:s.length≤2 ^ 30): aq Tryz.prog DV [.str s] (Uy (gT (s.drop 1) [] 1)):=by
 refine aq.of_nil (Ts (by simp) ?_) rfl
 unfold LV aM
 intro Q aC aD aE
 have hl:1≤s.length:=by cases s with|nil=>exact absurd rfl h0|cons=>simp
 generalize hT:gT (s.drop 1) [] 1=T at *
 repeat' first|refine aB ?_|refine aA (fun hw=>?_) (fun hw=>?_)<;>try omega|fail
 with_reducible refine a_ [3,4,5,6,7,8,9,10,11,12,13,14,15,16,17,18,19,20,21,22,23,24,25,26,27,28,29,30,31,32,33,34,35,36,37,38,39,40,41,42,43,44,45,46,47,48,49,50,51,52,53,54,55,56,57,58,59,60,61,62,63,64,65,66,67,68,69] (fun p:Nat × aH=>[(5,I p.1),(4,.own E1 1 p.2.length 0 p.2.length)]) (fun p=>[.cells [I 0,.str [],I 0,I 0,I 0],.vec E1 (pU p.2)]) (fun p=>1≤p.1∧p.1≤s.length∧p.2.length≤p.1∧T=gT (s.drop p.1) p.2 p.1) (fun p=>s.length-p.1) ((1,[])) ?_ ?_ ?_ ?_
 ·exact⟨Nat.le_refl _,hl,by simp,hT.symm⟩
 ·rfl
 ·exact at_
 ·rintro⟨i,b⟩ r ⟨Ur,hi,hb,hf⟩
  simp only at Ur hi hb hf
  by_cases hin:i<s.length
  ·rw[fO hin]at hf
   repeat' first|refine aB ?_|refine aA (fun hw=>?_) (fun hw=>?_)<;>try omega|fail
   ·refine aP ?_ rfl;rw[hf,dn,if_pos (by omega),if_pos (by omega)];rfl
   ·refine aP ?_ rfl;rw[hf,dn,if_pos (by omega),if_neg (by omega)];simp
   ·refine aP ?_ rfl;rw[hf,dn,if_neg (by omega),if_pos (by omega),fO (by omega)]
    simp only
    rw[if_neg (by omega)];rfl
   ·rw[dn,if_neg (by omega),if_pos (by omega),fO (by omega)]at hf
    try dsimp only at hf
    rw[if_pos (by omega)]at hf
    refine⟨(i+2,b++[s.getD (i+1) 0]),?_,?_,by first|rfl|(simp[go_sem];done),bG,at_⟩<;>(try dsimp only)
    ·simp only[List.length_append,List.length_cons,List.length_nil];exact⟨by omega,by omega,by omega,hf⟩
    ·omega
   ·rw[dn,if_neg (by omega),if_pos (by omega),fO (by omega)]at hf
    try dsimp only at hf
    rw[if_pos (by omega)]at hf
    refine⟨(i+2,b++[s.getD (i+1) 0]),?_,?_,by first|rfl|(simp[go_sem];done),bG,at_⟩<;>(try dsimp only)
    ·simp only[List.length_append,List.length_cons,List.length_nil];exact⟨by omega,by omega,by omega,hf⟩
    ·omega
   ·refine aP ?_ rfl;rw[hf,dn,if_neg (by omega),if_pos (by omega),List.drop_of_length_le (by omega)]
    rfl
   ·refine aP ?_ rfl;rw[hf,dn,if_neg (by omega),if_neg (by omega),if_neg (by simp only[ig,Bool.and_eq_true,decide_eq_true_eq];omega)];rfl
   ·rw[dn,if_neg (by omega),if_neg (by omega),if_pos (by simp only[ig,Bool.and_eq_true,decide_eq_true_eq];omega)]at hf
    refine⟨(i+1,b++[s.getD i 0]),?_,?_,by first|rfl|(simp[go_sem];done),bG,at_⟩<;>(try dsimp only)
    ·simp only[List.length_append,List.length_cons,List.length_nil];exact⟨by omega,by omega,by omega,hf⟩
    ·omega
   ·refine aP ?_ rfl;rw[hf,dn,if_neg (by omega),if_neg (by omega),if_neg (by simp only[ig,Bool.and_eq_true,decide_eq_true_eq];omega)];rfl
  ·rw[List.drop_of_length_le (by omega)]at hf
   repeat' first|refine aB ?_|refine aA (fun hw=>?_) (fun hw=>?_)<;>try omega|fail
   all_goals (refine aP ?_ rfl;rw[hf];simp[gT,PR.err])
theorem Hq(s p:aH): aq Tryz.prog gX [.str s,.str p] (.bool (p.isPrefixOf s)):=by
 refine aq.of_nil (rO (by simp) ?_) rfl
 unfold kU aM
 intro Q aC aD aE
 repeat' first|refine aB ?_|refine aA (fun hw=>?_) (fun hw=>?_)<;>try omega|fail
 all_goals refine aL ?_ rfl
 all_goals refine congrArg AV.bool ?_
 ·rw[Bool.eq_iff_iff,beq_iff_eq,List.isPrefixOf_iff_prefix,List.prefix_iff_eq_take];exact eq_comm
 ·symm;rw[Bool.eq_false_iff];intro h
  have:=(List.isPrefixOf_iff_prefix.1 h).length_le
  omega
theorem strings_HasPrefix(s p:aH): aq Tryz.prog oG [.str s,.str p] (.bool (p.isPrefixOf s)):=by
 refine aq.of_nil (D7 (by simp) ?_) rfl
 unfold vo aM
 intro Q aC aD aE
 repeat' first|refine aB ?_|refine aF (Hq _ _) ?_|refine aA (fun hw=>?_) (fun hw=>?_)<;>try omega|fail
 all_goals exact aL rfl rfl
theorem O2: aq Tryz.prog BX [] (dS l_):=by
 refine aq.of_nil (RA (by simp) ?_) rfl
 unfold Jq aM
 intro Q aC aD aE
 repeat' first|refine aB ?_|refine aA (fun hw=>?_) (fun hw=>?_)<;>try omega|fail
 all_goals exact Lv (View.weak _ _ _ (by simp[AV.cF,AV.bW]))
def gZ{α : Type}(p : α→Bool)(l:List α): Int:=match l.findIdx? p with
 | some i=>i
 | none=> -1
theorem nr{α : Type}[Inhabited α]{p : α→Bool}{l:List α}(h:∀ k,k<l.length→p (l.getD k default)=false): gZ p l = -1:=by
 have:l.findIdx? p=none:=by
  rw[List.findIdx?_eq_none_iff]
  intro x hx
  obtain⟨k,hk,rfl⟩:=List.getElem_of_mem hx
  have:=h k hk
  rwa[List.getD_eq_getElem?_getD,List.getElem?_eq_getElem hk]at this
 simp[gZ,this]
theorem oz{α : Type}[Inhabited α]{p : α→Bool}{l:List α}{i:Nat}(hi:i<l.length)(h:∀ k,k<i→p (l.getD k default)=false)(hp:p (l.getD i default)=true): gZ p l=i:=by
 have:l.findIdx? p=some i:=by
  rw[List.findIdx?_eq_some_iff_getElem]
  refine⟨hi,?_,fun j hj=>?_⟩
  ·rwa[List.getD_eq_getElem?_getD,List.getElem?_eq_getElem hi]at hp
  ·have:=h j hj
   rw[List.getD_eq_getElem?_getD,List.getElem?_eq_getElem (by omega)]at this
   simpa using this
 simp[gZ,this]
theorem A3(fn:FuncId)(cap:List AV)(hcap:AV.bW cap=true)(p:aH→Bool)(l:List aH)(h:∀ x ∈ l,aq Tryz.prog fn (.str x::cap) (.bool (p x)))(hl:l.length≤2 ^ 62):
 aq Tryz.prog kr [dS l,.fn (.func fn) [] cap] (I (gZ p l)):=by
 refine aq.of_nil (ye (by simp) ?_) (by simp[AV.cF,AV.bW,hcap,Hi])
 unfold oY aM
 intro Q aC aD aE
 repeat' first|refine aB ?_|refine aA (fun hw=>?_) (fun hw=>?_)<;>try omega|fail
 with_reducible refine a_ [4,5,8,9,10,11,12,13,14,15,16,17,18] (fun i:Nat=>[(8,I i)]) (fun _=>[]) (fun i=>i≤l.length∧ ∀ k,k<i→p (l.getD k default)=false) (fun i=>l.length-i) (0) ?_ ?_ ?_ ?_
 ·simp
 ·rfl
 ·exact at_
 ·rintro i r ⟨hi,hp⟩
  by_cases hin:i<l.length
  ·have hx:=h _ (aY hin)
   repeat' first|refine aB ?_|refine aF hx ?_|refine aA (fun hw=>?_) (fun hw=>?_)<;>try omega|fail
   ·refine aL ?_ rfl
    refine congrArg I ?_
    exact(oz hin hp hw).symm
   ·refine⟨i+1,?_,?_,by first|rfl|(simp[go_sem];done),bG,at_⟩<;>(try dsimp only)
    ·refine⟨by omega,fun k hk=>?_⟩
     by_cases hk2:k<i
     ·exact hp k hk2
     ·have:k=i:=by omega
      subst this;exact hw
    ·omega
  ·repeat' first|refine aB ?_|refine aA (fun hw=>?_) (fun hw=>?_)<;>try omega|fail
   refine aL ?_ rfl
   refine congrArg I ?_
   exact(nr fun k hk=>hp k (by omega)).symm
theorem sK{α : Type}[Inhabited α](p : α→Bool): ∀ l:List α,(gZ p l = -1∧l.find? p=none)∨ ∃ i:Nat,i<l.length∧gZ p l=i∧l.find? p=some (l.getD i default)
 | []=> .inl ⟨rfl,rfl⟩
 | x :: l => by
   by_cases hp:p x=true
   ·exact .inr ⟨0,by simp,by simp[gZ,List.findIdx?_cons,hp],by simp[hp]⟩
   ·rcases sK p l with⟨h1,h2⟩|⟨i,h1,h2,h3⟩
    ·left
     simp only[gZ]at h1
     refine⟨?_,by simp[hp,h2]⟩
     cases h:l.findIdx? p with
     | none=>simp[gZ,List.findIdx?_cons,hp,h]
     | some k=>rw[h]at h1;simp at h1
    ·right
     refine⟨i+1,by simp;omega,?_,by simp[hp,h3]⟩
     simp only[gZ]at h2
     cases h:l.findIdx? p with
     | none=>rw[h]at h2;simp at h2
     | some k=>rw[h]at h2;simp at h2;simp[gZ,List.findIdx?_cons,hp,h];omega
theorem VK(m s:aH): aq Tryz.prog uf [.str m,.dW E1 (.str s) 0] (.bool (m.isPrefixOf s)):=by
 refine aq.of_nil (Qn (by simp) ?_) rfl
 unfold Hg aM
 intro Q aC aD aE
 repeat' first|refine aB ?_|refine aF (strings_HasPrefix _ _) ?_|refine aA (fun hw=>?_) (fun hw=>?_)<;>try omega|fail
 all_goals exact aL rfl rfl
theorem Zb(s:aH): aq Tryz.prog DW [.str s] (Uy (o8 s)):=by
 have hc:=A3 uf [.dW E1 (.str s) 0] rfl (fun m=>m.isPrefixOf s) l_ (fun m _=>VK m s) (by decide)
 unfold o8
 rcases sK (fun m:aH=>m.isPrefixOf s) l_ with⟨h1,h2⟩|⟨i,hi,h1,h2⟩
 ·rw[h1]at hc
  rw[h2]
  refine aq.of_nil (Jp (by simp) ?_) rfl
  unfold D6 aM
  intro Q aC aD aE
  repeat' first|refine aB ?_|refine aF O2 ?_|refine RB hc ?_|refine aA (fun hw=>?_) (fun hw=>?_)<;>try omega|fail
  all_goals (refine aP ?_ rfl;rfl)
 ·rw[h1]at hc
  rw[h2]
  have QM:i<16:=hi
  have hl:(l_.map cy).length=16:=rfl
  refine aq.of_nil (Jp (by simp) ?_) rfl
  unfold D6 aM
  intro Q aC aD aE
  repeat' first|refine aB ?_|refine aF O2 ?_|refine RB hc ?_|refine aA (fun hw=>?_) (fun hw=>?_)<;>try omega|fail
  all_goals (refine aP ?_ rfl;rfl)
theorem Zc(s:aH)(h0:s≠[])(hs:s.length≤2 ^ 30): aq Tryz.prog yL [.str s] (Uy (ey s)):=by
 refine aq.of_nil (To (by simp) ?_) rfl
 unfold LP aM
 intro Q aC aD aE
 have hl:1≤s.length:=by cases s with|nil=>exact absurd rfl h0|cons=>simp
 repeat' first|refine aB ?_|refine aF (D_ _) ?_|refine aF (Hp _) ?_|with_reducible refine CA (RG _ (by omega)) ?_|with_reducible refine CB (RG _ (by omega)) ?_|with_reducible refine CA (L0 _ (by omega)) ?_|with_reducible refine CB (L0 _ (by omega)) ?_|refine aF (Za _ h0 hs) ?_|refine aF (Zb _) ?_|refine aA (fun hw=>?_) (fun hw=>?_)<;>try omega|fail
 all_goals refine aP ?_ rfl
 all_goals (unfold ey;dsimp only;first
  |(rw[if_pos (by assumption)]<;>rfl)
  |(rw[if_neg (ne_true_of_eq_false (by assumption)),if_pos (by assumption)]<;>rfl)
  |(rw[if_neg (ne_true_of_eq_false (by assumption)),if_neg (ne_true_of_eq_false (by assumption)),if_pos (by omega)]<;>rfl)
  |(rw[if_neg (ne_true_of_eq_false (by assumption)),if_neg (ne_true_of_eq_false (by assumption)),if_neg (by omega)]<;>rfl))
theorem RH(s:aH): aq Tryz.prog vF [.str s] (.bool (pT s)):=by
 refine aq.of_nil (LD (by simp) ?_) rfl
 unfold CV aM
 intro Q aC aD aE
 repeat' first|refine aB ?_|refine aA (fun hw=>?_) (fun hw=>?_)<;>try omega|fail
 all_goals refine aL ?_ rfl
 all_goals (refine congrArg AV.bool ?_;simp_all[pT,pS])
theorem Ea(s:aH)(hs:s.length≤2 ^ 62): aq Tryz.prog qB [.str s] (.bool (eK s)):=by
 refine aq.of_nil (Tl (by simp) ?_) rfl
 unfold Lz aM
 intro Q aC aD aE
 repeat' first|refine aB ?_|refine aF (RF _ hs) ?_|refine aF (RH _) ?_|refine aA (fun hw=>?_) (fun hw=>?_)<;>try omega|fail
 all_goals refine aL ?_ rfl
 all_goals (refine congrArg AV.bool ?_;simp[eK];try simp_all;try omega)
def Km(p:List Tok × Int × Int): AV:= .bJ [oZ p.1,I p.2.1,I p.2.2]
attribute [go_sem] Km
theorem RI(f pos:Nat)(acc:List Tok): oN f [] pos acc=(acc,0,0):=by cases f<;>rfl
theorem tf(f pos:Nat)(acc:List Tok)(c:UInt8)(r:aH): oN (f+1) (c::r) pos acc =
 if c.toNat=32 then oN f r (pos+1) acc
 else if(ey (c::r)).e=0 then oN f ((c::r).drop (ey (c::r)).len) (pos+(ey (c::r)).len) (acc++[⟨(ey (c::r)).kind,(ey (c::r)).s,(ey (c::r)).n,pos⟩])
 else([],pos,(ey (c::r)).e):=rfl
theorem UA(s:aH)(hs:s.length≤2 ^ 30): aq Tryz.prog Be [.str s] (Km (bf s)):=by
 unfold bf
 by_cases j4:200<s.length
 ·rw[if_pos j4]
  refine aq.of_nil (LM (by simp) ?_) rfl
  unfold G6 aM
  intro Q aC aD aE
  repeat' first|refine aB ?_|refine aA (fun hw=>?_) (fun hw=>?_)<;>try omega|fail
  refine bw ?_
  exact FD
 rw[if_neg j4]
 generalize hT:oN (s.length+1) s 0 []=T
 refine aq.of_nil (LM (by simp) ?_) rfl
 unfold G6 aM
 intro Q aC aD aE
 repeat' first|refine aB ?_|refine aA (fun hw=>?_) (fun hw=>?_)<;>try omega|fail
 with_reducible refine a_ [2,3,4,5,6,7,8,12,13,14,15,16,17,18,19,20,21,22,23,24,25,26,27,28,29,30,31,32,33,34,35,36,37,38,39,40,41,42,43,44,45,46,47,48,49,50] (fun p:Nat × List Tok × List aR=>[(6,I p.1),(5,.own ET 0 p.2.1.length 0 p.2.1.length)]) (fun p=> .vec ET (p.2.1.map j3)::p.2.2) (fun p=>p.1≤s.length∧p.2.1.length≤p.1∧ ∃ f,s.length-p.1<f∧T=oN f (s.drop p.1) p.1 p.2.1) (fun p=>s.length-p.1) (0,[],[]) ?_ ?_ ?_ ?_
 ·exact⟨by simp,by simp,s.length+1,by omega,hT.symm⟩
 ·rfl
 ·exact at_
 rintro⟨pos,acc,τ⟩ r ⟨h1,h2,f,h3,h4⟩
 dsimp only at h1 h2 h3 h4
 repeat' first|refine aB ?_|refine aA (fun hw=>?_) (fun hw=>?_)<;>try omega|fail
 with_reducible refine a_ [6,12,13,14,15,16,17,18,19,20,21,22,23] (fun p:Nat=>[(6,I p)]) (fun _=> .vec ET (acc.map j3):: τ) (fun p=>pos≤p∧p≤s.length∧ ∃ f,s.length-p<f∧T=oN f (s.drop p) p acc) (fun p=>s.length-p) pos ?_ ?_ ?_ ?_
 ·exact⟨Nat.le_refl _,h1,f,h3,h4⟩
 ·rfl
 ·exact at_
 clear h3 h4
 clear f
 rintro p r2 ⟨k0,k1,f,k2,k3⟩
 obtain⟨f,rfl⟩:∃ g,f=g+1:=⟨f-1,by omega⟩
 by_cases hp:p<s.length
 ·rw[fO hp,tf]at k3
  have hne:s.drop p≠[]:=by rw[fO hp];simp
  have hlen:(s.drop p).length≤2 ^ 30:=by rw[List.length_drop];omega
  rw[← fO hp]at k3
  have Jr:=Zc (s.drop p) hne hlen
  have RJ:=Kl hne
  rw[List.length_drop]at RJ
  generalize ey (s.drop p)=q at *
  obtain⟨qk,qs,qn,ql,qe⟩:=q
  dsimp only at k3 RJ
  repeat' first|refine aB ?_|refine aF Jr ?_|refine aA (fun hw=>?_) (fun hw=>?_)<;>try omega|fail
  ·rw[if_pos (by omega)]at k3
   refine⟨p+1,?_,?_,by first|rfl|(simp[go_sem];done),bG,at_⟩<;>(try dsimp only)
   ·exact⟨by omega,by omega,f,by omega,k3⟩
   ·omega
  ·rw[if_neg (by omega),if_neg hw]at k3
   refine bw ?_
   rw[k3]
   exact aQ.cons (View.ae _) (aQ.refl rfl)
  ·rw[if_neg (by omega),if_pos hw,List.drop_drop]at k3
   refine⟨(p+ql,acc++[⟨qk,qs,qn,p⟩],τ++[.cells [I qk,.str qs,I qn,I p,I ql]]),?_,?_,by first|rfl|(simp[go_sem];done),bG,at_⟩<;>(try dsimp only)
   ·exact⟨by omega,by simp;omega,f,by omega,k3⟩
   ·omega
 ·rw[List.drop_of_length_le (by omega),RI]at k3
  repeat' first|refine aB ?_|refine aA (fun hw=>?_) (fun hw=>?_)<;>try omega|fail
  refine bw ?_
  rw[k3]
  exact aQ.cons (View.vec rfl (by simp) (by simp) (LY _)) (aQ.refl rfl)
theorem Aw(c:UInt8): aq Tryz.prog qE [.int .u8 c.toNat] (.bool (gJ c)):=by
 refine aq.of_nil (LL (by simp) ?_) rfl
 unfold C4 aM
 intro Q aC aD aE
 repeat' first|refine aB ?_|refine aA (fun hw=>?_) (fun hw=>?_)<;>try omega|fail
 all_goals refine aL ?_ rfl
 all_goals (refine congrArg AV.bool ?_;rw[Bool.eq_iff_iff];simp only[gJ,Bool.and_eq_true,Bool.or_eq_true,decide_eq_true_eq,beq_iff_eq,Bool.not_eq_true',decide_eq_false_iff_not,beq_eq_false_iff_ne,ne_eq,true_iff,false_iff,iff_true,iff_false,Bool.false_eq_true,Bool.true_eq_false,not_and,not_or]at *;omega)
theorem rP(c:UInt8): aq Tryz.prog nX [.int .u8 c.toNat] (.bool (cw c)):=by
 refine aq.of_nil (NS (by simp) ?_) rfl
 unfold Fw aM
 intro Q aC aD aE
 repeat' first|refine aB ?_|refine aA (fun hw=>?_) (fun hw=>?_)<;>try omega|fail
 all_goals refine aL ?_ rfl
 all_goals (refine congrArg AV.bool ?_;rw[Bool.eq_iff_iff];simp only[cw,Bool.and_eq_true,Bool.or_eq_true,decide_eq_true_eq,beq_iff_eq,Bool.not_eq_true',decide_eq_false_iff_not,beq_eq_false_iff_ne,ne_eq,true_iff,false_iff,iff_true,iff_false,Bool.false_eq_true,Bool.true_eq_false,not_and,not_or]at *;omega)
theorem yR(s:aH)(i:Nat)(hi:i<s.length)(h:gx s=(if i=0 then gx s else i+((s.drop i).takeWhile l9).length)):
 (gJ (s.getD i 0)=true∨0<i∧cw (s.getD i 0)=true→gx s=(i+1)+((s.drop (i+1)).takeWhile l9).length) ∧
 (¬ (gJ (s.getD i 0)=true∨0<i∧cw (s.getD i 0)=true)→gx s=i):=by
 by_cases h0:i=0
 ·subst h0
  cases s with
  | nil=>simp at hi
  | cons c r =>
    simp only[List.getD_cons_zero,Nat.lt_irrefl,false_and,or_false]
    refine⟨fun hl=>?_,fun hl=>?_⟩
    ·simp only[gx,hl,if_true,List.takeWhile_cons,l9,Bool.true_or,Nat.zero_add,List.drop_succ_cons,List.drop_zero]
     simp;omega
    ·simp only[gx,hl];rfl
 ·rw[if_neg h0,Av hi]at h
  refine⟨fun hl=>?_,fun hl=>?_⟩
  ·have : l9 (s.getD i 0) = true := by
    simp only[l9,Bool.or_eq_true];rcases hl with h1|h1
    ·exact .inl h1
    ·exact .inr h1.2
   rw[this,if_pos rfl]at h;omega
  ·have : l9 (s.getD i 0) = false := by
    simp only[l9,Bool.or_eq_false_iff]
    simp only[not_or,not_and,Bool.not_eq_true]at hl
    exact⟨hl.1,hl.2 (by omega)⟩
   rw[this,if_neg (by simp)]at h;omega
def RK(s:aH)(i:Nat): Prop:=gx s=(if i=0 then gx s else i+((s.drop i).takeWhile l9).length)
theorem L5(s:aH)(hs:s.length≤2 ^ 62): aq Tryz.prog tX [.str s] (I (gx s)):=by
 refine aq.of_nil (P9 (by simp) ?_) rfl
 unfold GR aM
 intro Q aC aD aE
 repeat' first|refine aB ?_|refine aA (fun hw=>?_) (fun hw=>?_)<;>try omega|fail
 with_reducible refine a_ [3,4,5,6,7,8,9,10,11,12,13,14,15,16,17,18,19,20,21,22,23,24,25] (fun i:Nat=>[(3,I i)]) (fun _=>[]) (fun i=>i≤s.length∧RK s i) (fun i=>s.length-i) (0) ?_ ?_ ?_ ?_
 ·simp[RK]
 ·rfl
 ·exact at_
 rintro i r ⟨h1,h2⟩
 by_cases hi:i<s.length
 ·repeat' first|refine aB ?_|refine aF (Aw _) ?_|refine aF (rP _) ?_|refine aA (fun hw=>?_) (fun hw=>?_)<;>try omega|fail
  ·refine⟨i+1,?_,?_,by first|rfl|(simp[go_sem];done),bG,at_⟩<;>(try dsimp only)
   ·refine⟨by omega,?_⟩
    have:=(yR s i hi h2).1 (.inr ⟨by omega,hw⟩)
    unfold RK;rw[if_neg (by omega)];exact this
   ·omega
  ·refine aL ?_ rfl
   rw[(yR s i hi h2).2 (by rintro(h|h);exact ne_true_of_eq_false ‹gJ _=false› h;exact ne_true_of_eq_false hw h.2)]
  ·refine aL ?_ rfl
   rw[(yR s i hi h2).2 (by rintro(h|h);exact ne_true_of_eq_false ‹gJ _=false› h;omega)]
  ·refine⟨i+1,?_,?_,by first|rfl|(simp[go_sem];done),bG,at_⟩<;>(try dsimp only)
   ·refine⟨by omega,?_⟩
    have:=(yR s i hi h2).1 (.inl hw)
    unfold RK;rw[if_neg (by omega)];exact this
   ·omega
 ·repeat' first|refine aB ?_|refine aF (Aw _) ?_|refine aF (rP _) ?_|refine aA (fun hw=>?_) (fun hw=>?_)<;>try omega|fail
  refine aL ?_ rfl
  have:i=s.length:=by omega
  unfold RK at h2
  by_cases h0:i=0
  ·subst h0
   have:s=[]:=by cases s with|nil=>rfl|cons=>simp at this
   subst this;rfl
  ·rw[if_neg h0,List.drop_of_length_le (by omega)]at h2
   rw[h2];simp
theorem L6(s:aH)(hs:s.length≤2 ^ 62): aq Tryz.prog zU [.str s] (Xt (yQ s)):=by
 refine aq.of_nil (Qj (by simp) ?_) rfl
 unfold G7 aM
 intro Q aC aD aE
 have:=Kk s
 repeat' first|refine aB ?_|refine aF (L5 _ hs) ?_|refine aA (fun hw=>?_) (fun hw=>?_)<;>try omega|fail
 all_goals refine aP ?_ rfl
 all_goals (unfold yQ;split<;>first|omega|rfl)
theorem Tw: aq Tryz.prog xS [] (dS l_):=by
 refine aq.of_nil (NX (by simp) ?_) rfl
 unfold FB aM
 intro Q aC aD aE
 repeat' first|refine aB ?_|refine aA (fun hw=>?_) (fun hw=>?_)<;>try omega|fail
 all_goals exact Lv (View.weak _ _ _ (by simp))
theorem vX{p:UInt8→Bool}: ∀ {s:aH} {i:Nat},i≤(s.takeWhile p).length→i<s.length→p (s.getD i 0)=true→i<(s.takeWhile p).length
 | [],i,_,h,_=>by simp at h
 | c::r,0,_,_,hp=>by simp only[List.getD_cons_zero]at hp;simp[List.takeWhile_cons,hp]
 | c :: r, i + 1, h1, h2, hp => by
   simp only[List.getD_cons_succ]at hp
   simp only[List.takeWhile_cons]at h1 ⊢
   split at h1
   ·simp only[List.length_cons]at h1 h2 ⊢
    have:=vX (p:=p) (s:=r) (i:=i) (by omega) (by omega) hp
    split<;>simp_all
   ·simp at h1
def Cb(s:aH)(i:Nat)(v:Int)(over:Bool): Prop:=i≤(s.takeWhile cw).length∧(over=false→mz (s.takeWhile cw) 0=mz ((s.takeWhile cw).drop i) v)∧(over=true→mz (s.takeWhile cw) 0=none)
theorem Cb.step{s:aH}{i:Nat}{v:Int}(h:Cb s i v false)(hi:i<s.length)(hd:cw (s.getD i 0)=true):
 (v>(9223372036854775807-(((s.getD i 0).toNat:Int)-48)) / 10→Cb s (i+1) v true) ∧
 (¬ v>(9223372036854775807-(((s.getD i 0).toNat:Int)-48)) / 10→Cb s (i+1) (v*10+(((s.getD i 0).toNat:Int)-48)) false):=by
 obtain⟨h1,h2,_⟩:=h
 have hlt:i<(s.takeWhile cw).length:=vX h1 hi hd
 have h3:=vW hlt
 have h4:(s.takeWhile cw).drop i=s.getD i 0::(s.takeWhile cw).drop (i+1):=by rw[fO hlt,← h3.1]
 rw[h4]at h2
 simp only[mz]at h2
 refine⟨fun hv=>⟨by omega,fun h=>by simp at h,fun _=>?_⟩,fun hv=>⟨by omega,fun _=>?_,fun h=>by simp at h⟩⟩
 ·rw[h2 trivial,if_pos hv]
 ·rw[h2 trivial,if_neg hv]
theorem Cb.over{s:aH}{i:Nat}{v:Int}(h:Cb s i v true)(hi:i<s.length)(hd:cw (s.getD i 0)=true): Cb s (i+1) v true :=
 ⟨vX h.1 hi hd,fun h=>by simp at h,h.2.2⟩
theorem Cb.fin{s:aH}{i:Nat}{v:Int}{o:Bool}(h:Cb s i v o)(hi:i<s.length→cw (s.getD i 0)=false)(hl:i≤s.length): (s.takeWhile cw).length=i∧mz (s.takeWhile cw) 0=if o then none else some v:=by
 have hlen:(s.takeWhile cw).length=i:=by
  have h1:=h.1
  apply Nat.le_antisymm _ h1
  apply Nat.le_of_not_lt
  intro hlt
  have h3:=(vW hlt).2
  have:i<s.length:=Nat.lt_of_lt_of_le hlt (uD s)
  rw[hi this]at h3;cases h3
 refine⟨hlen,?_⟩
 cases o with
 | false=>rw[h.2.1 rfl,List.drop_of_length_le (by omega)];rfl
 | true=>rw[h.2.2 rfl];rfl
theorem Js(s:aH): kN s=if 1<(s.takeWhile cw).length∧(s.getD 0 0).toNat=48 then .err 11
 else match mz (s.takeWhile cw) 0 with
  | none=> .err 15
  | some v=>⟨2,[],v,(s.takeWhile cw).length,0⟩:=rfl
theorem Hr(s:aH)(hs:s.length≤2 ^ 62): aq Tryz.prog vL [.str s] (Xt (kN s)):=by
 refine aq.of_nil (LR (by simp) ?_) rfl
 unfold C8 aM
 intro Q aC aD aE
 repeat' first|refine aB ?_|refine aA (fun hw=>?_) (fun hw=>?_)<;>try omega|fail
 with_reducible refine a_ [5,6,7,8,9,10,11,12,13,14,15,16,17,18,19,20,21,22,23,24,25,26,27,28,29,30,31,32,33,34,35,36,37,38,39] (fun p:Nat × Int × Bool=>[(5,I p.1),(6,I p.2.1),(7,.bool p.2.2)]) (fun _=>[.cells [I 0,.str [],I 0,I 0]]) (fun p=>p.1≤s.length∧0≤p.2.1∧p.2.1≤9223372036854775807∧Cb s p.1 p.2.1 p.2.2) (fun p=>s.length-p.1) ((0,0,false)) ?_ ?_ ?_ ?_
 ·exact⟨by simp,by simp,by simp,by simp,fun _=>rfl,fun h=>by simp at h⟩
 ·rfl
 ·exact at_
 rintro⟨i,v,o⟩ r ⟨h1,h2,h3,h4⟩
 dsimp only at h1 h2 h3 h4
 by_cases hi:i<s.length
 ·by_cases hd:cw (s.getD i 0)=true
  ·have hb:48≤(s.getD i 0).toNat∧(s.getD i 0).toNat≤57:=by simpa[cw]using hd
   have hc:=hd ▸ rP (s.getD i 0)
   cases o with
   | true =>
     repeat' first|refine aB ?_|refine aF hc ?_|refine aA (fun hw=>?_) (fun hw=>?_)<;>try omega|fail
     refine⟨(i+1,v,true),?_,?_,by first|rfl|(simp[go_sem];done),bG,at_⟩<;>(try dsimp only)
     ·exact⟨by omega,h2,h3,h4.over hi hd⟩
     ·omega
   | false =>
     have hst:=h4.step hi hd
     repeat' first|refine aB ?_|refine aF hc ?_|refine aA (fun hw=>?_) (fun hw=>?_)<;>try omega|fail
     ·refine⟨(i+1,10*v+(((s.getD i 0).toNat:Int)-48),decide ((9223372036854775807-(((s.getD i 0).toNat:Int)-48)) / 10<v)),?_,?_,by first|rfl|(simp[go_sem];done),bG,at_⟩<;>(try dsimp only)
      ·exact⟨by omega,by omega,by omega,by rw[decide_eq_false (by omega),Int.mul_comm];exact hst.2 (by omega)⟩
      ·omega
     ·refine⟨(i+1,v,decide ((9223372036854775807-(((s.getD i 0).toNat:Int)-48)) / 10<v)),?_,?_,by first|rfl|(simp[go_sem];done),bG,at_⟩<;>(try dsimp only)
      ·exact⟨by omega,h2,h3,by rw[decide_eq_true (by omega)];exact hst.1 (by omega)⟩
      ·omega
  ·have hd':cw (s.getD i 0)=false:=by simpa using hd
   have hc:=hd' ▸ rP (s.getD i 0)
   obtain⟨f1,f2⟩:=h4.fin (fun _=>hd') (by omega)
   have f3:=Js s
   rw[f1,f2]at f3
   clear h4 hd hd' f1 f2
   repeat' first|refine aB ?_|refine aF hc ?_|refine aA (fun hw=>?_) (fun hw=>?_)<;>try omega|fail
   all_goals (refine aP ?_ rfl;rw[f3])
   all_goals (split<;>first|omega|(cases o<;>simp_all[PR.err]))
 ·obtain⟨f1,f2⟩:=h4.fin (fun h=>absurd h hi) h1
  have f3:=Js s
  rw[f1,f2]at f3
  clear h4 f1 f2
  repeat' first|refine aB ?_|refine aA (fun hw=>?_) (fun hw=>?_)<;>try omega|fail
  all_goals (refine aP ?_ rfl;rw[f3])
  all_goals (split<;>first|omega|(cases o<;>simp_all[PR.err]))
theorem VL(s:aH)(h0:s≠[])(hs:s.length≤2 ^ 30): aq Tryz.prog zV [.str s] (Xt (gT (s.drop 1) [] 1)):=by
 refine aq.of_nil (Qk (by simp) ?_) rfl
 unfold G8 aM
 intro Q aC aD aE
 have hl:1≤s.length:=by cases s with|nil=>exact absurd rfl h0|cons=>simp
 generalize hT:gT (s.drop 1) [] 1=T at *
 repeat' first|refine aB ?_|refine aA (fun hw=>?_) (fun hw=>?_)<;>try omega|fail
 with_reducible refine a_ [3,4,5,6,7,8,9,10,11,12,13,14,15,16,17,18,19,20,21,22,23,24,25,26,27,28,29,30,31,32,33,34,35,36,37,38,39,40,41,42,43,44,45,46,47,48,49,50,51,52,53,54,55,56,57,58,59,60,61,62,63,64,65] (fun p:Nat × aH=>[(6,I p.1),(5,.str p.2)]) (fun p=>[.cells [I 0,.str [],I 0,I 0]]) (fun p=>1≤p.1∧p.1≤s.length∧p.2.length≤p.1∧T=gT (s.drop p.1) p.2 p.1) (fun p=>s.length-p.1) ((1,[])) ?_ ?_ ?_ ?_
 ·exact⟨Nat.le_refl _,hl,by simp,hT.symm⟩
 ·rfl
 ·exact at_
 ·rintro⟨i,b⟩ r ⟨Ur,hi,hb,hf⟩
  simp only at Ur hi hb hf
  have hone:∀ k,k<s.length→List.take 1 (s.drop k)=[s.getD k 0]:=fun k hk=>by rw[fO hk];rfl
  by_cases hin:i<s.length
  ·rw[fO hin]at hf
   repeat' first|refine aB ?_|refine aA (fun hw=>?_) (fun hw=>?_)<;>try omega|fail
   ·refine aP ?_ rfl;rw[hf,dn,if_pos (by omega),if_pos (by omega)];rfl
   ·refine aP ?_ rfl;rw[hf,dn,if_pos (by omega),if_neg (by omega)];simp
   ·refine aP ?_ rfl;rw[hf,dn,if_neg (by omega),if_pos (by omega),fO (by omega)]
    simp only
    rw[if_neg (by omega)];rfl
   ·rw[dn,if_neg (by omega),if_pos (by omega),fO (by omega)]at hf
    try dsimp only at hf
    rw[if_pos (by omega)]at hf
    refine⟨(i+2,b++[s.getD (i+1) 0]),?_,?_,by first|rfl|(simp[go_sem];done),bG,at_⟩<;>(try dsimp only)
    ·simp only[List.length_append,List.length_cons,List.length_nil];exact⟨by omega,by omega,by omega,hf⟩
    ·omega
   ·rw[dn,if_neg (by omega),if_pos (by omega),fO (by omega)]at hf
    try dsimp only at hf
    rw[if_pos (by omega)]at hf
    refine⟨(i+2,b++[s.getD (i+1) 0]),?_,?_,by first|rfl|(simp[go_sem];done),bG,at_⟩<;>(try dsimp only)
    ·simp only[List.length_append,List.length_cons,List.length_nil];exact⟨by omega,by omega,by omega,hf⟩
    ·omega
   ·refine aP ?_ rfl;rw[hf,dn,if_neg (by omega),if_pos (by omega),List.drop_of_length_le (by omega)]
    rfl
   ·refine aP ?_ rfl;rw[hf,dn,if_neg (by omega),if_neg (by omega),if_neg (by simp only[ig,Bool.and_eq_true,decide_eq_true_eq];omega)];rfl
   ·rw[dn,if_neg (by omega),if_neg (by omega),if_pos (by simp only[ig,Bool.and_eq_true,decide_eq_true_eq];omega)]at hf
    refine⟨(i+1,b++[s.getD i 0]),?_,?_,by first|rfl|(simp[go_sem];done),bG,at_⟩<;>(try dsimp only)
    ·simp only[List.length_append,List.length_cons,List.length_nil];exact⟨by omega,by omega,by omega,hf⟩
    ·omega
   ·refine aP ?_ rfl;rw[hf,dn,if_neg (by omega),if_neg (by omega),if_neg (by simp only[ig,Bool.and_eq_true,decide_eq_true_eq];omega)];rfl
  ·rw[List.drop_of_length_le (by omega)]at hf
   repeat' first|refine aB ?_|refine aA (fun hw=>?_) (fun hw=>?_)<;>try omega|fail
   all_goals (refine aP ?_ rfl;rw[hf];simp[gT,PR.err])
theorem vY{α : Type}[Inhabited α]{p : α→Bool}{l:List α}{i:Nat}(hi:i<l.length)(h:∀ k,k<i→p (l.getD k default)=false)(hp:p (l.getD i default)=true): l.find? p=some (l.getD i default):=by
 have h1:=oz hi h hp
 rcases sK p l with⟨h2,h3⟩|⟨j,h2,h3,h4⟩
 ·omega
 ·have:j=i:=by omega
  subst this;exact h4
theorem sL{α : Type}[Inhabited α]{p : α→Bool}{l:List α}(h:∀ k,k<l.length→p (l.getD k default)=false): l.find? p=none:=by
 have h1:=nr h
 rcases sK p l with⟨h2,h3⟩|⟨j,h2,h3,h4⟩
 ·exact h3
 ·omega
theorem Ax{α : Type}[Inhabited α]{p : α→Bool}{l:List α}{i:Nat}(hi:i<l.length)(hp:p (l.getD i default)=true): l.any p=true:=by
 rw[List.any_eq_true];exact⟨_,aY hi,hp⟩
theorem vZ{α : Type}[Inhabited α]{p : α→Bool}{l:List α}(h:∀ k,k<l.length→p (l.getD k default)=false): l.any p=false:=by
 rw[List.any_eq_false]
 intro x hx
 obtain⟨k,hk,rfl⟩:=List.getElem_of_mem hx
 have:=h k hk
 rw[List.getD_eq_getElem?_getD,List.getElem?_eq_getElem hk,Option.getD_some]at this
 simp[this]
theorem aW{q:Nat→Prop}{i:Nat}(h:∀ k,k<i→q k)(hi:q i): ∀ k,k<i+1→q k:=fun k hk=>by
 by_cases h2:k<i
 ·exact h k h2
 ·have:k=i:=by omega
  subst this;exact hi
theorem Jt{m s:aH}(h:m.length≤s.length): (List.take m.length s==m)=m.isPrefixOf s:=by
 rw[Bool.eq_iff_iff,beq_iff_eq,List.isPrefixOf_iff_prefix,List.prefix_iff_eq_take];exact eq_comm
theorem Tx{m s:aH}(h:s.length<m.length): m.isPrefixOf s=false:=by
 rw[Bool.eq_false_iff];intro h2
 have:=(List.isPrefixOf_iff_prefix.1 h2).length_le
 omega
theorem Xx(s:aH)(h0:s≠[])(hs:s.length≤2 ^ 30): aq Tryz.prog BW [.str s] (Xt (ey s)):=by
 refine aq.of_nil (Rz (by simp) ?_) rfl
 unfold Jo aM
 intro Q aC aD aE
 have hl:1≤s.length:=by cases s with|nil=>exact absurd rfl h0|cons=>simp
 repeat' first|refine aB ?_|refine aF (Aw _) ?_|refine aF (rP _) ?_|with_reducible refine CA (L6 _ (by omega)) ?_|with_reducible refine CB (L6 _ (by omega)) ?_|with_reducible refine CA (Hr _ (by omega)) ?_|with_reducible refine CB (Hr _ (by omega)) ?_|refine aF (VL _ h0 hs) ?_|refine aF Tw ?_|refine aA (fun hw=>?_) (fun hw=>?_)<;>try omega|fail
 ·refine aP ?_ rfl
  unfold ey;dsimp only;rw[if_pos (by assumption)]
 ·refine aP ?_ rfl
  unfold ey;dsimp only;rw[if_neg (ne_true_of_eq_false (by assumption)),if_pos (by assumption)]
 ·refine aP ?_ rfl
  unfold ey;dsimp only;rw[if_neg (ne_true_of_eq_false (by assumption)),if_neg (ne_true_of_eq_false (by assumption)),if_pos (by omega)]
 have ho:ey s=o8 s:=by
  unfold ey;dsimp only;rw[if_neg (ne_true_of_eq_false (by assumption)),if_neg (ne_true_of_eq_false (by assumption)),if_neg (by omega)]
 rw[ho]at aC aD
 have hml:l_.length=16:=rfl
 with_reducible refine a_ [3,4,6,35,36,37,38,39,40,41,42,43,44,45,46,47,48,49,50,51,52,53,54,55,56,57,58,59,60,61,62,63,64,65,66,67,68,69,70,71,72] (fun i:Nat=>[(6,I i)]) (fun _=>[.cells [I 0,.str [],I 0,I 0]]) (fun i=>i≤16∧ ∀ k,k<i→(l_.getD k default).isPrefixOf s=false) (fun i=>16-i) 0 ?_ ?_ ?_ ?_
 ·simp
 ·rfl
 ·exact at_
 rintro i r ⟨h1,h2⟩
 by_cases hi:i<16
 ·repeat' first|refine aB ?_|refine aA (fun hw=>?_) (fun hw=>?_)<;>try omega|fail
  ·have hp:(l_.getD i default).isPrefixOf s=true:=by rw[← Jt (by omega)];simpa using hw
   refine aP ?_ rfl
   unfold o8;rw[vY (p:=fun m:aH=>m.isPrefixOf s) hi h2 hp]
  ·have hp:(l_.getD i default).isPrefixOf s=false:=by rw[← Jt (by omega)];simpa using hw
   refine⟨i+1,?_,?_,by first|rfl|(simp[go_sem];done),bG,at_⟩<;>(try dsimp only)
   ·exact⟨by omega,aW h2 hp⟩
   ·omega
  ·refine⟨i+1,?_,?_,by first|rfl|(simp[go_sem];done),bG,at_⟩<;>(try dsimp only)
   ·exact⟨by omega,aW h2 (Tx (by omega))⟩
   ·omega
 ·repeat' first|refine aB ?_|refine aA (fun hw=>?_) (fun hw=>?_)<;>try omega|fail
  refine aP ?_ rfl
  unfold o8;rw[sL (p:=fun m:aH=>m.isPrefixOf s) (fun k hk=>h2 k (by omega))];rfl
theorem NZ(s:aH): aq Tryz.prog sH [.str s] (.bool (pT s)):=by
 have Ht:pT s=pS.any (fun x=>x==s):=by
  unfold pT;rw[Bool.eq_iff_iff,List.contains_iff_mem,List.any_eq_true];simp
 rw[Ht]
 refine aq.of_nil (I3 (by simp) ?_) rfl
 unfold Ai aM
 intro Q aC aD aE
 repeat' first|refine aB ?_|refine aA (fun hw=>?_) (fun hw=>?_)<;>try omega|fail
 have e1:pS.length=9:=rfl
 have e2 : [AV.str [97,110,100],AV.str [111,114],AV.str [110,111,116],AV.str [105,102],AV.str [116,104,101,110],AV.str [101,108,115,101],AV.str [116,114,117,101],AV.str [102,97,108,115,101],AV.str [110,117,108,108]]=pS.map cy:=rfl
 rw[e2]
 with_reducible refine a_ [2,4,6,7,8,9,10,11,12,13,14,15,16,17] (fun i:Nat=>[(4,I i)]) (fun _=>[]) (fun i=>i≤9∧ ∀ k,k<i→(pS.getD k default==s)=false) (fun i=>9-i) 0 ?_ ?_ ?_ ?_
 ·simp
 ·rfl
 ·exact at_
 rintro i r ⟨h1,h2⟩
 by_cases hi:i<9
 ·repeat' first|refine aB ?_|refine aA (fun hw=>?_) (fun hw=>?_)<;>try omega|fail
  ·refine aL ?_ rfl
   rw[Ax (p:=fun x:aH=>x==s) hi (by simpa using hw)]
  ·refine⟨i+1,?_,?_,by first|rfl|(simp[go_sem];done),bG,at_⟩<;>(try dsimp only)
   ·exact⟨by omega,aW h2 (by simpa using hw)⟩
   ·omega
 ·repeat' first|refine aB ?_|refine aA (fun hw=>?_) (fun hw=>?_)<;>try omega|fail
  refine aL ?_ rfl
  rw[vZ (p:=fun x:aH=>x==s) (fun k hk=>h2 k (by omega))]
theorem O3(s:aH)(hs:s.length≤2 ^ 30): aq Tryz.prog rI [.str s] (Km (bf s)):=by
 unfold bf
 by_cases j4:200<s.length
 ·rw[if_pos j4]
  refine aq.of_nil (G1 (by simp) ?_) rfl
  unfold B_ aM
  intro Q aC aD aE
  repeat' first|refine aB ?_|refine aA (fun hw=>?_) (fun hw=>?_)<;>try omega|fail
  refine bw ?_
  exact FD
 rw[if_neg j4]
 generalize hT:oN (s.length+1) s 0 []=T
 refine aq.of_nil (G1 (by simp) ?_) rfl
 unfold B_ aM
 intro Q aC aD aE
 repeat' first|refine aB ?_|refine aA (fun hw=>?_) (fun hw=>?_)<;>try omega|fail
 with_reducible refine a_ [2,3,4,5,6,7,8,9,13,14,15,16,17,18,19,20,21,22,23,24,25,26,27,28,29,30,31,32,33,34,35,36,37,38,39,40,41,42,43] (fun p:Nat × List Tok × List aR=>[(6,I p.1),(5,.own ET 0 p.2.1.length 0 p.2.1.length)]) (fun p=> .vec ET (p.2.1.map j3)::p.2.2) (fun p=>p.1≤s.length∧p.2.1.length≤p.1∧ ∃ f,s.length-p.1<f∧T=oN f (s.drop p.1) p.1 p.2.1) (fun p=>s.length-p.1) (0,[],[]) ?_ ?_ ?_ ?_
 ·exact⟨by simp,by simp,s.length+1,by omega,hT.symm⟩
 ·rfl
 ·exact at_
 rintro⟨p,acc,τ⟩ r ⟨k0,k1,f,k2,k3⟩
 dsimp only at k0 k1 k2 k3
 obtain⟨f,rfl⟩:∃ g,f=g+1:=⟨f-1,by omega⟩
 by_cases hp:p<s.length
 ·rw[fO hp,tf]at k3
  have hne:s.drop p≠[]:=by rw[fO hp];simp
  have hlen:(s.drop p).length≤2 ^ 30:=by rw[List.length_drop];omega
  rw[← fO hp]at k3
  have Jr:=Xx (s.drop p) hne hlen
  have RJ:=Kl hne
  rw[List.length_drop]at RJ
  generalize ey (s.drop p)=q at *
  obtain⟨qk,qs,qn,ql,qe⟩:=q
  dsimp only at k3 RJ
  repeat' first|refine aB ?_|refine aF Jr ?_|refine aA (fun hw=>?_) (fun hw=>?_)<;>try omega|fail
  ·rw[if_pos (by omega)]at k3
   refine⟨(p+1,acc,τ),?_,?_,by first|rfl|(simp[go_sem];done),bG,at_⟩<;>(try dsimp only)
   ·exact⟨by omega,by omega,f,by omega,k3⟩
   ·omega
  ·rw[if_neg (by omega),if_neg hw]at k3
   refine bw ?_
   rw[k3]
   exact aQ.cons (View.ae _) (aQ.refl rfl)
  ·rw[if_neg (by omega),if_pos hw,List.drop_drop]at k3
   refine⟨(p+ql,acc++[⟨qk,qs,qn,p⟩],τ++[.cells [I qk,.str qs,I qn,I p]]),?_,?_,by first|rfl|(simp[go_sem];done),bG,at_⟩<;>(try dsimp only)
   ·exact⟨by omega,by simp;omega,f,by omega,k3⟩
   ·omega
 ·rw[List.drop_of_length_le (by omega),RI]at k3
  repeat' first|refine aB ?_|refine aA (fun hw=>?_) (fun hw=>?_)<;>try omega|fail
  refine bw ?_
  rw[k3]
  exact aQ.cons (View.vec rfl (by simp) (by simp) (LY _)) (aQ.refl rfl)
theorem yS(s:aH)(hs:s.length≤2 ^ 62): aq Tryz.prog mO [.str s] (.bool (eK s)):=by
 refine aq.of_nil (PZ (by simp) ?_) rfl
 unfold GJ aM
 intro Q aC aD aE
 repeat' first|refine aB ?_|refine aF (L5 _ hs) ?_|refine aF (NZ _) ?_|refine aA (fun hw=>?_) (fun hw=>?_)<;>try omega|fail
 all_goals refine aL ?_ rfl
 all_goals (refine congrArg AV.bool ?_;simp[eK];try simp_all;try omega)
end Go.Proofs.YtmbgnaoilncbnaaGreatDoor
