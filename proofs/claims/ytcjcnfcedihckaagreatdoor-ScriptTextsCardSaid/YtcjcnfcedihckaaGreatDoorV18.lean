/- Part. -/
import Derived.Test.YtcjcnfcedihckaaGreatDoorV17
set_option linter.all false
namespace Go.Proofs.YtcjcnfcedihckaaGreatDoor
open Go.AM
set_option maxRecDepth 4000
def BK(s p:aG): aH aE 106 [.str s,.str p] (.bool (p.isPrefixOf s)):=by
 refine aJ pS ?_;intro Q au aA aB;repeat' first|refine aq ?_|refine ak ?_ ?_<;>intro hw<;>try omega|fail
 all_goals refine aL ?_ rfl
 all_goals refine congrArg AV.bool ?_
 ·rw[aS,beq_iff_eq,f_,List.prefix_iff_eq_take];exact eq_comm
 ·symm;rw[Bool.eq_false_iff];intro h
  have:=(f_.1 h).length_le;omega
def strings_HasPrefix(s p:aG): aH aE 61 [.str s,.str p] (.bool (p.isPrefixOf s)):=by
 refine aJ zb ?_;intro Q au aA aB;repeat' first|refine aq ?_|refine d_ (BK _ _) ?_|refine ak ?_ ?_<;>intro hw<;>try omega|fail
 all_goals exact aL rfl rfl
def JY: aH aE 303 [] (bI nG):=by
 refine aJ Mv ?_;intro Q au aA aB;repeat' first|refine aq ?_|refine ak ?_ ?_<;>intro hw<;>try omega|fail
 all_goals exact eT (View.weak _ _ _ (by simp[AV.dh,AV.bX]))
def gN{α : Type}(p : α->Bool)(l:List α): Int:=match l.findIdx? p with
 | some i=>i
 | none=> -1
def kT{α : Type}[Inhabited α]{p : α->Bool}{l:List α}(h:∀ k,k<l.length->p (l.getD k default)=false): gN p l = -1:=by
 have:l.findIdx? p=none:=by
  rw[List.findIdx?_eq_none_iff];intro x hx;obtain⟨k,hk,rfl⟩:=bA hx;have:=h k hk;rwa[aj,aK hk]at this
 simp[gN,this]
def lP{α : Type}[Inhabited α]{p : α->Bool}{l:List α}{i:Nat}(hi:i<l.length)(h:∀ k,k<i->p (l.getD k default)=false)(hp:p (l.getD i default)=true): gN p l=i:=by
 have:l.findIdx? p=some i:=by
  rw[List.findIdx?_eq_some_iff_getElem];refine⟨hi,?_,fun j hj=>?_⟩
  ·rwa[aj,aK hi]at hp
  ·have:=h j hj;rw[aj,aK (by omega)]at this;simpa using this
 simp[gN,this]
def wu (fn : FuncId) (cap : List AV) (hcap : AV.bX cap = true) (p : aG -> Bool) (l : List aG) (h : ∀ x ∈ l, aH aE fn (.str x :: cap) (.bool (p x))) (hl : l.length <= 2 ^ 62) :
    aH aE 304 [bI l,.fn (.func fn) [] cap] (I (gN p l)):=by
 refine aJ tX ?_ (by simp[AV.dh,AV.bX,hcap,BG]);intro Q au aA aB;repeat' first|refine aq ?_|refine ak ?_ ?_<;>intro hw<;>try omega|fail
 with_reducible refine bn [4,5,8,9,10,11,12,13,14,15,16,17,18] (fun i:Nat=>[(8,I i)]) (fun _=>[]) (fun i=>i<=l.length/\ ∀ k,k<i->p (l.getD k default)=false) (fun i=>l.length-i) (0) ?_ ?_ ?_ ?_
 ·simp
 ·rfl
 ·exact at_
 ·rintro i r ⟨hi,hp⟩;by_cases hin:i<l.length
  ·have hx:=h _ (aV hin);repeat' first|refine aq ?_|refine ak ?_ ?_<;>intro hw<;>try omega|fail
   ·refine aL ?_ rfl;refine congrArg I ?_;exact(lP hin hp hw).symm
   ·refine⟨i+1,?_,?_,by first|rfl|(simp[go_sem];done),bL,at_⟩<;>(try dsimp only)
    ·refine⟨by omega,fun k hk=>?_⟩;by_cases i_:k<i
     ·exact hp k i_
     ·have:k=i:=by omega
      subst this;exact hw
    ·omega
  ·repeat' first|refine aq ?_|refine ak ?_ ?_<;>intro hw<;>try omega|fail
   refine aL ?_ rfl;refine congrArg I ?_;exact(kT fun k hk=>hp k (by omega)).symm
def qx{α : Type}[Inhabited α](p : α->Bool): ∀ l:List α,(gN p l = -1/\l.find? p=none)\/ ∃ i:Nat,i<l.length/\gN p l=i/\l.find? p=some (l.getD i default)
 | []=> .inl ⟨rfl,rfl⟩
 | x :: l => by
   by_cases hp:p x=true
   ·exact .inr ⟨0,by simp,by simp[gN,List.findIdx?_cons,hp],by simp[hp]⟩
   ·rcases qx p l with⟨h1,h2⟩|⟨i,h1,h2,h3⟩
    ·left;simp only[gN]at h1;refine⟨?_,by simp[hp,h2]⟩;cases h:l.findIdx? p with
     | none=>simp[gN,List.findIdx?_cons,hp,h]
     | some k=>rw[h]at h1;simp at h1
    ·right;refine⟨i+1,by simp;omega,?_,by simp[hp,h3]⟩;simp only[gN]at h2;cases h:l.findIdx? p with
     | none=>rw[h]at h2;simp at h2
     | some k=>rw[h]at h2;simp at h2;simp[gN,List.findIdx?_cons,hp,h];omega
def Rr(m s:aG): aH aE 305 [.str m,.eA E1 (.str s) 0] (.bool (m.isPrefixOf s)):=by
 refine aJ Lf ?_;intro Q au aA aB;repeat' first|refine aq ?_|refine d_ (strings_HasPrefix _ _) ?_|refine ak ?_ ?_<;>intro hw<;>try omega|fail
 all_goals exact aL rfl rfl
def VK(s:aG): aH aE 281 [.str s] (PY (o_ s)):=by
 have hc:=wu 305 [.eA E1 (.str s) 0] rfl (fun m=>m.isPrefixOf s) nG (fun m _=>Rr m s) (by decide);unfold o_;rcases qx (fun m:aG=>m.isPrefixOf s) nG with⟨h1,h2⟩|⟨i,hi,h1,h2⟩
 ·rw[h1]at hc;rw[h2];refine aJ Dt ?_;intro Q au aA aB;repeat' first|refine aq ?_|refine d_ JY ?_|refine tN hc ?_|refine ak ?_ ?_<;>intro hw<;>try omega|fail
  all_goals (refine bp ?_ rfl;rfl)
 ·rw[h1]at hc;rw[h2];have LS:i<16:=hi;have hl:(nG.map bj).length=16:=rfl;refine aJ Dt ?_;intro Q au aA aB;repeat' first|refine aq ?_|refine d_ JY ?_|refine tN hc ?_|refine ak ?_ ?_<;>intro hw<;>try omega|fail
  all_goals (refine bp ?_ rfl;rfl)
def VL(s:aG)(h0:s≠[])(hs:s.length<=2 ^ 30): aH aE 256 [.str s] (PY (fY s)):=by
 refine aJ Ou ?_;intro Q au aA aB;have hl:1<=s.length:=by cases s with|nil=>exact absurd rfl h0|cons=>simp
 repeat' first|refine aq ?_|refine d_ (zj _) ?_|refine d_ (BJ _) ?_|with_reducible refine u0 (My _ (by omega)) ?_|with_reducible refine u7 (My _ (by omega)) ?_|with_reducible refine u0 (Gu _ (by omega)) ?_|with_reducible refine u7 (Gu _ (by omega)) ?_|refine d_ (VJ _ h0 hs) ?_|refine d_ (VK _) ?_|refine ak ?_ ?_<;>intro hw<;>try omega|fail
 all_goals refine bp ?_ rfl
 all_goals (unfold fY;dsimp only;first
  |(rw[if_pos (by assumption)]<;>rfl)
  |(rw[if_neg (ne_true_of_eq_false (by assumption)),if_pos (by assumption)]<;>rfl)
  |(rw[if_neg (ne_true_of_eq_false (by assumption)),if_neg (ne_true_of_eq_false (by assumption)),if_pos (by omega)]<;>rfl)
  |(rw[if_neg (ne_true_of_eq_false (by assumption)),if_neg (ne_true_of_eq_false (by assumption)),if_neg (by omega)]<;>rfl))
def MA(s:aG): aH aE 82 [.str s] (.bool (qK s)):=by
 refine aJ Gg ?_;intro Q au aA aB;repeat' first|refine aq ?_|refine ak ?_ ?_<;>intro hw<;>try omega|fail
 all_goals refine aL ?_ rfl
 all_goals (refine congrArg AV.bool ?_;simp_all[qK,qJ])
def vM(s:aG)(hs:s.length<=2 ^ 62): aH aE 38 [.str s] (.bool (fc s)):=by
 refine aJ Oq ?_;intro Q au aA aB;repeat' first|refine aq ?_|refine d_ (Mx _ hs) ?_|refine d_ (MA _) ?_|refine ak ?_ ?_<;>intro hw<;>try omega|fail
 all_goals refine aL ?_ rfl
 all_goals (refine congrArg AV.bool ?_;simp[fc];try simp_all;try omega)
def BL(p:List Tok × Int × Int): AV:= .bJ [nk p.1,I p.2.1,I p.2.2]
attribute [go_sem] BL
def MB(f pos:Nat)(acc:List Tok): nU f [] pos acc=(acc,0,0):=by cases f<;>rfl
def ou (f pos : Nat) (acc : List Tok) (c : UInt8) (r : aG) : nU (f + 1) (c :: r) pos acc =
    if c.toNat=32 then nU f r (pos+1) acc
    else if(fY (c::r)).e=0 then nU f ((c::r).drop (fY (c::r)).len) (pos+(fY (c::r)).len) (acc++[⟨(fY (c::r)).kind,(fY (c::r)).s,(fY (c::r)).n,pos⟩])
    else([],pos,(fY (c::r)).e):=rfl
def IU(s:aG)(hs:s.length<=2 ^ 30): aH aE 222 [.str s] (BL (aX s)):=by
 unfold aX;by_cases hbig:200<s.length
 ·rw[if_pos hbig];refine aJ Gp ?_;intro Q au aA aB;repeat' first|refine aq ?_|refine ak ?_ ?_<;>intro hw<;>try omega|fail
  refine bG ?_;exact jq
 rw[if_neg hbig];generalize hT:nU (s.length+1) s 0 []=T;refine aJ Gp ?_;intro Q au aA aB;repeat' first|refine aq ?_|refine ak ?_ ?_<;>intro hw<;>try omega|fail
 with_reducible refine bn [2,3,4,5,6,7,8,12,13,14,15,16,17,18,19,20,21,22,23,24,25,26,27,28,29,30,31,32,33,34,35,36,37,38,39,40,41,42,43,44,45,46,47,48,49,50] (fun p:Nat × List Tok × List bx=>[(6,I p.1),(5,.own ET 0 p.2.1.length 0 p.2.1.length)]) (fun p=> .vec ET (p.2.1.map jU)::p.2.2) (fun p=>p.1<=s.length/\p.2.1.length<=p.1/\ ∃ f,s.length-p.1<f/\T=nU f (s.drop p.1) p.1 p.2.1) (fun p=>s.length-p.1) (0,[],[]) ?_ ?_ ?_ ?_
 ·exact⟨by simp,by simp,s.length+1,by omega,hT.symm⟩
 ·rfl
 ·exact at_
 rintro⟨pos,acc,τ⟩ r ⟨h1,h2,f,h3,h4⟩;dsimp only at h1 h2 h3 h4;repeat' first|refine aq ?_|refine ak ?_ ?_<;>intro hw<;>try omega|fail
 with_reducible refine bn [6,12,13,14,15,16,17,18,19,20,21,22,23] (fun p:Nat=>[(6,I p)]) (fun _=> .vec ET (acc.map jU):: τ) (fun p=>pos<=p/\p<=s.length/\ ∃ f,s.length-p<f/\T=nU f (s.drop p) p acc) (fun p=>s.length-p) pos ?_ ?_ ?_ ?_
 ·exact⟨Nat.le_refl _,h1,f,h3,h4⟩
 ·rfl
 ·exact at_
 clear h3 h4;clear f;rintro p r2 ⟨k0,k1,f,k2,k3⟩;obtain⟨f,rfl⟩:∃ g,f=g+1:=⟨f-1,by omega⟩;by_cases hp:p<s.length
 ·rw[jj hp,ou]at k3;have hne:s.drop p≠[]:=by rw[jj hp];simp
  have hlen:(s.drop p).length<=2 ^ 30:=by rw[List.length_drop];omega
  rw[<-jj hp]at k3;have JZ:=VL (s.drop p) hne hlen;have MC:=EH hne;rw[List.length_drop]at MC;generalize fY (s.drop p)=q at *;obtain⟨qk,qs,qn,ql,qe⟩:=q;dsimp only at k3 MC;repeat' first|refine aq ?_|refine ak ?_ ?_<;>intro hw<;>try omega|fail
  ·rw[if_pos (by omega)]at k3;refine⟨p+1,?_,?_,by first|rfl|(simp[go_sem];done),bL,at_⟩<;>(try dsimp only)
   ·exact⟨by omega,by omega,f,by omega,k3⟩
   ·omega
  ·rw[if_neg (by omega),if_neg hw]at k3;refine bG ?_;rw[k3];exact bf.cons (View.ai _) (bf.refl rfl)
  ·rw[if_neg (by omega),if_pos hw,List.drop_drop]at k3;refine⟨(p+ql,acc++[⟨qk,qs,qn,p⟩],τ++[.cells [I qk,.str qs,I qn,I p,I ql]]),?_,?_,by first|rfl|(simp[go_sem];done),bL,at_⟩<;>(try dsimp only)
   ·exact⟨by omega,by simp;omega,f,by omega,k3⟩
   ·omega
 ·rw[dN (by omega),MB]at k3;repeat' first|refine aq ?_|refine ak ?_ ?_<;>intro hw<;>try omega|fail
  refine bG ?_;rw[k3];exact bf.cons (View.vec rfl (by simp) (by simp) (Gt _)) (bf.refl rfl)
def vN(c:UInt8): aH aE 139 [.int .u8 c.toNat] (.bool (kZ c)):=by
 refine aJ Gi ?_;intro Q au aA aB;repeat' first|refine aq ?_|refine ak ?_ ?_<;>intro hw<;>try omega|fail
 all_goals refine aL ?_ rfl
 all_goals (refine congrArg AV.bool ?_;rw[aS];simp only[kZ,aD,cz,decide_eq_true_eq,beq_iff_eq,bW,decide_eq_false_iff_not,beq_eq_false_iff_ne,ne_eq,true_iff,false_iff,iff_true,iff_false,Bool.false_eq_true,gy,not_and,not_or]at *;omega)
def pU(c:UInt8): aH aE 140 [.int .u8 c.toNat] (.bool (dc c)):=by
 refine aJ Ix ?_;intro Q au aA aB;repeat' first|refine aq ?_|refine ak ?_ ?_<;>intro hw<;>try omega|fail
 all_goals refine aL ?_ rfl
 all_goals (refine congrArg AV.bool ?_;rw[aS];simp only[dc,aD,cz,decide_eq_true_eq,beq_iff_eq,bW,decide_eq_false_iff_not,beq_eq_false_iff_ne,ne_eq,true_iff,false_iff,iff_true,iff_false,Bool.false_eq_true,gy,not_and,not_or]at *;omega)
def uG (s : aG) (i : Nat) (hi : i < s.length) (h : kO s = (if i = 0 then kO s else i + ((s.drop i).takeWhile lD).length)) :
    (kZ (s.getD i 0)=true\/0<i/\dc (s.getD i 0)=true->kO s=(i+1)+((s.drop (i+1)).takeWhile lD).length) /\
    (¬ (kZ (s.getD i 0)=true\/0<i/\dc (s.getD i 0)=true)->kO s=i):=by
 by_cases h0:i=0
 ·subst h0;cases s with
  | nil=>simp at hi
  | cons c r =>
    simp only[bR,Nat.lt_irrefl,false_and,or_false];refine⟨fun hl=>?_,fun hl=>?_⟩
    ·simp only[kO,hl,if_true,eF,lD,Bool.true_or,cj,List.drop_succ_cons,List.drop_zero];simp;omega
    ·simp only[kO,hl];rfl
 ·rw[if_neg h0,vL hi]at h;refine⟨fun hl=>?_,fun hl=>?_⟩
  ·have : lD (s.getD i 0) = true := by
    simp only[lD,Bool.or_eq_true];rcases hl with h1|h1
    ·exact .inl h1
    ·exact .inr h1.2
   rw[this,if_pos rfl]at h;omega
  ·have : lD (s.getD i 0) = false := by
    simp only[lD,Bool.or_eq_false_iff];simp only[not_or,not_and,Bool.not_eq_true]at hl;exact⟨hl.1,hl.2 (by omega)⟩
   rw[this,if_neg (by simp)]at h;omega
def MD(s:aG)(i:Nat): Prop:=kO s=(if i=0 then kO s else i+((s.drop i).takeWhile lD).length)
def Gv(s:aG)(hs:s.length<=2 ^ 62): aH aE 95 [.str s] (I (kO s)):=by
 refine aJ KS ?_;intro Q au aA aB;repeat' first|refine aq ?_|refine ak ?_ ?_<;>intro hw<;>try omega|fail
 with_reducible refine bn [3,4,5,6,7,8,9,10,11,12,13,14,15,16,17,18,19,20,21,22,23,24,25] (fun i:Nat=>[(3,I i)]) (fun _=>[]) (fun i=>i<=s.length/\MD s i) (fun i=>s.length-i) (0) ?_ ?_ ?_ ?_
 ·simp[MD]
 ·rfl
 ·exact at_
 rintro i r ⟨h1,h2⟩;by_cases hi:i<s.length
 ·repeat' first|refine aq ?_|refine d_ (vN _) ?_|refine d_ (pU _) ?_|refine ak ?_ ?_<;>intro hw<;>try omega|fail
  ·refine⟨i+1,?_,?_,by first|rfl|(simp[go_sem];done),bL,at_⟩<;>(try dsimp only)
   ·refine⟨by omega,?_⟩;have:=(uG s i hi h2).1 (.inr ⟨by omega,hw⟩);unfold MD;rw[if_neg (by omega)];exact this
   ·omega
  ·refine aL ?_ rfl;rw[(uG s i hi h2).2 (by rintro(h|h);exact ne_true_of_eq_false ‹kZ _=false› h;exact ne_true_of_eq_false hw h.2)]
  ·refine aL ?_ rfl;rw[(uG s i hi h2).2 (by rintro(h|h);exact ne_true_of_eq_false ‹kZ _=false› h;omega)]
  ·refine⟨i+1,?_,?_,by first|rfl|(simp[go_sem];done),bL,at_⟩<;>(try dsimp only)
   ·refine⟨by omega,?_⟩;have:=(uG s i hi h2).1 (.inl hw);unfold MD;rw[if_neg (by omega)];exact this
   ·omega
 ·repeat' first|refine aq ?_|refine d_ (vN _) ?_|refine d_ (pU _) ?_|refine ak ?_ ?_<;>intro hw<;>try omega|fail
  refine aL ?_ rfl;have:i=s.length:=by omega
  unfold MD at h2;by_cases h0:i=0
  ·subst h0;have:s=[]:=by cases s with|nil=>rfl|cons=>simp at this
   subst this;rfl
  ·rw[if_neg h0,dN (by omega)]at h2;rw[h2];simp
def Gw(s:aG)(hs:s.length<=2 ^ 62): aH aE 294 [.str s] (Tt (uF s)):=by
 refine aJ Ld ?_;intro Q au aA aB;have:=EG s;repeat' first|refine aq ?_|refine d_ (Gv _ hs) ?_|refine ak ?_ ?_<;>intro hw<;>try omega|fail
 all_goals refine bp ?_ rfl
 all_goals (unfold uF;split<;>first|omega|rfl)
def OC: aH aE 297 [] (bI nG):=by
 refine aJ IQ ?_;intro Q au aA aB;repeat' first|refine aq ?_|refine ak ?_ ?_<;>intro hw<;>try omega|fail
 all_goals exact eT (View.weak _ _ _ (by simp))
def sN{p:UInt8->Bool}: ∀ {s:aG} {i:Nat},i<=(s.takeWhile p).length->i<s.length->p (s.getD i 0)=true->i<(s.takeWhile p).length
 | [],i,_,h,_=>by simp at h
 | c::r,0,_,_,hp=>by simp only[bR]at hp;simp[eF,hp]
 | c :: r, i + 1, h1, h2, hp => by
   simp only[fm]at hp;simp only[eF]at h1 ⊢;split at h1
   ·simp only[List.length_cons]at h1 h2 ⊢;have:=sN (p:=p) (s:=r) (i:=i) (by omega) (by omega) hp;split<;>simp_all
   ·simp at h1
def xo(s:aG)(i:Nat)(v:Int)(over:Bool): Prop:=i<=(s.takeWhile dc).length/\(over=false->mu (s.takeWhile dc) 0=mu ((s.takeWhile dc).drop i) v)/\(over=true->mu (s.takeWhile dc) 0=none)
def xo.step {s : aG} {i : Nat} {v : Int} (h : xo s i v false) (hi : i < s.length) (hd : dc (s.getD i 0) = true) :
    (v>(9223372036854775807-(((s.getD i 0).toNat:Int)-48)) / 10->xo s (i+1) v true) /\
    (¬ v>(9223372036854775807-(((s.getD i 0).toNat:Int)-48)) / 10->xo s (i+1) (v*10+(((s.getD i 0).toNat:Int)-48)) false):=by
 obtain⟨h1,h2,_⟩:=h;have hlt:i<(s.takeWhile dc).length:=sN h1 hi hd;have h3:=sM hlt;have h4:(s.takeWhile dc).drop i=s.getD i 0::(s.takeWhile dc).drop (i+1):=by rw[jj hlt,<-h3.1]
 rw[h4]at h2;simp only[mu]at h2;refine⟨fun hv=>⟨by omega,fun h=>by simp at h,fun _=>?_⟩,fun hv=>⟨by omega,fun _=>?_,fun h=>by simp at h⟩⟩
 ·rw[h2 trivial,if_pos hv]
 ·rw[h2 trivial,if_neg hv]
def xo.over{s:aG}{i:Nat}{v:Int}(h:xo s i v true)(hi:i<s.length)(hd:dc (s.getD i 0)=true): xo s (i+1) v true :=
 ⟨sN h.1 hi hd,fun h=>by simp at h,h.2.2⟩
def xo.fin{s:aG}{i:Nat}{v:Int}{o:Bool}(h:xo s i v o)(hi:i<s.length->dc (s.getD i 0)=false)(hl:i<=s.length): (s.takeWhile dc).length=i/\mu (s.takeWhile dc) 0=if o then none else some v:=by
 have hlen:(s.takeWhile dc).length=i:=by
  have h1:=h.1;apply Nat.le_antisymm _ h1;apply Nat.le_of_not_lt;intro hlt;have h3:=(sM hlt).2;have:i<s.length:=cZ hlt (rF s);rw[hi this]at h3;cases h3
 refine⟨hlen,?_⟩;cases o with
 | false=>rw[h.2.1 rfl,dN (by omega)];rfl
 | true=>rw[h.2.2 rfl];rfl
def Du(s:aG): k7 s=if 1<(s.takeWhile dc).length/\(s.getD 0 0).toNat=48 then .err 11
 else match mu (s.takeWhile dc) 0 with
  | none=> .err 15
  | some v=>⟨2,[],v,(s.takeWhile dc).length,0⟩:=rfl
def BM(s:aG)(hs:s.length<=2 ^ 62): aH aE 295 [.str s] (Tt (k7 s)):=by
 refine aJ Gr ?_;intro Q au aA aB;repeat' first|refine aq ?_|refine ak ?_ ?_<;>intro hw<;>try omega|fail
 with_reducible refine bn [5,6,7,8,9,10,11,12,13,14,15,16,17,18,19,20,21,22,23,24,25,26,27,28,29,30,31,32,33,34,35,36,37,38,39] (fun p:Nat × Int × Bool=>[(5,I p.1),(6,I p.2.1),(7,.bool p.2.2)]) (fun _=>[.cells [I 0,.str [],I 0,I 0]]) (fun p=>p.1<=s.length/\0<=p.2.1/\p.2.1<=9223372036854775807/\xo s p.1 p.2.1 p.2.2) (fun p=>s.length-p.1) ((0,0,false)) ?_ ?_ ?_ ?_
 ·exact⟨by simp,by simp,by simp,by simp,fun _=>rfl,fun h=>by simp at h⟩
 ·rfl
 ·exact at_
 rintro⟨i,v,o⟩ r ⟨h1,h2,h3,h4⟩;dsimp only at h1 h2 h3 h4;by_cases hi:i<s.length
 ·by_cases hd:dc (s.getD i 0)=true
  ·have hb:48<=(s.getD i 0).toNat/\(s.getD i 0).toNat<=57:=by simpa[dc]using hd
   have hc:=hd ▸ pU (s.getD i 0);cases o with
   | true =>
     repeat' first|refine aq ?_|refine ak ?_ ?_<;>intro hw<;>try omega|fail
     refine⟨(i+1,v,true),?_,?_,by first|rfl|(simp[go_sem];done),bL,at_⟩<;>(try dsimp only)
     ·exact⟨by omega,h2,h3,h4.over hi hd⟩
     ·omega
   | false =>
     have hst:=h4.step hi hd;repeat' first|refine aq ?_|refine ak ?_ ?_<;>intro hw<;>try omega|fail
     ·refine⟨(i+1,10*v+(((s.getD i 0).toNat:Int)-48),decide ((9223372036854775807-(((s.getD i 0).toNat:Int)-48)) / 10<v)),?_,?_,by first|rfl|(simp[go_sem];done),bL,at_⟩<;>(try dsimp only)
      ·exact⟨by omega,by omega,by omega,by rw[decide_eq_false (by omega),Int.mul_comm];exact hst.2 (by omega)⟩
      ·omega
     ·refine⟨(i+1,v,decide ((9223372036854775807-(((s.getD i 0).toNat:Int)-48)) / 10<v)),?_,?_,by first|rfl|(simp[go_sem];done),bL,at_⟩<;>(try dsimp only)
      ·exact⟨by omega,h2,h3,by rw[decide_eq_true (by omega)];exact hst.1 (by omega)⟩
      ·omega
  ·have hd':dc (s.getD i 0)=false:=by simpa using hd
   have hc:=hd' ▸ pU (s.getD i 0);obtain⟨f1,f2⟩:=h4.fin (fun _=>hd') (by omega);have f3:=Du s;rw[f1,f2]at f3;clear h4 hd hd' f1 f2;repeat' first|refine aq ?_|refine ak ?_ ?_<;>intro hw<;>try omega|fail
   all_goals (refine bp ?_ rfl;rw[f3])
   all_goals (split<;>first|omega|(cases o<;>simp_all[PR.err]))
 ·obtain⟨f1,f2⟩:=h4.fin (fun h=>absurd h hi) h1;have f3:=Du s;rw[f1,f2]at f3;clear h4 f1 f2;repeat' first|refine aq ?_|refine ak ?_ ?_<;>intro hw<;>try omega|fail
  all_goals (refine bp ?_ rfl;rw[f3])
  all_goals (split<;>first|omega|(cases o<;>simp_all[PR.err]))
def Rs(s:aG)(h0:s≠[])(hs:s.length<=2 ^ 30): aH aE 296 [.str s] (Tt (jd (s.drop 1) [] 1)):=by
 refine aJ Le ?_;intro Q au aA aB;have hl:1<=s.length:=by cases s with|nil=>exact absurd rfl h0|cons=>simp
 generalize hT:jd (s.drop 1) [] 1=T at *;repeat' first|refine aq ?_|refine ak ?_ ?_<;>intro hw<;>try omega|fail
 with_reducible refine bn [3,4,5,6,7,8,9,10,11,12,13,14,15,16,17,18,19,20,21,22,23,24,25,26,27,28,29,30,31,32,33,34,35,36,37,38,39,40,41,42,43,44,45,46,47,48,49,50,51,52,53,54,55,56,57,58,59,60,61,62,63,64,65] (fun p:Nat × aG=>[(6,I p.1),(5,.str p.2)]) (fun p=>[.cells [I 0,.str [],I 0,I 0]]) (fun p=>1<=p.1/\p.1<=s.length/\p.2.length<=p.1/\T=jd (s.drop p.1) p.2 p.1) (fun p=>s.length-p.1) ((1,[])) ?_ ?_ ?_ ?_
 ·exact⟨Nat.le_refl _,hl,by simp,hT.symm⟩
 ·rfl
 ·exact at_
 ·rintro⟨i,b⟩ r ⟨JN,hi,hb,hf⟩;simp only at JN hi hb hf;have hone:∀ k,k<s.length->List.take 1 (s.drop k)=[s.getD k 0]:=fun k hk=>by rw[jj hk];rfl
  by_cases hin:i<s.length
  ·rw[jj hin]at hf;repeat' first|refine aq ?_|refine ak ?_ ?_<;>intro hw<;>try omega|fail
   ·refine bp ?_ rfl;rw[hf,fG,if_pos (by omega),if_pos (by omega)];rfl
   ·refine bp ?_ rfl;rw[hf,fG,if_pos (by omega),if_neg (by omega)];simp
   ·refine bp ?_ rfl;rw[hf,fG,if_neg (by omega),if_pos (by omega),jj (by omega)];simp only;rw[if_neg (by omega)];rfl
   ·rw[fG,if_neg (by omega),if_pos (by omega),jj (by omega)]at hf;try dsimp only at hf
    rw[if_pos (by omega)]at hf;refine⟨(i+2,b++[s.getD (i+1) 0]),?_,?_,by first|rfl|(simp[go_sem];done),bL,at_⟩<;>(try dsimp only)
    ·simp only[aC,List.length_cons,List.length_nil];exact⟨by omega,by omega,by omega,hf⟩
    ·omega
   ·rw[fG,if_neg (by omega),if_pos (by omega),jj (by omega)]at hf;try dsimp only at hf
    rw[if_pos (by omega)]at hf;refine⟨(i+2,b++[s.getD (i+1) 0]),?_,?_,by first|rfl|(simp[go_sem];done),bL,at_⟩<;>(try dsimp only)
    ·simp only[aC,List.length_cons,List.length_nil];exact⟨by omega,by omega,by omega,hf⟩
    ·omega
   ·refine bp ?_ rfl;rw[hf,fG,if_neg (by omega),if_pos (by omega),dN (by omega)];rfl
   ·refine bp ?_ rfl;rw[hf,fG,if_neg (by omega),if_neg (by omega),if_neg (by simp only[jg,aD,decide_eq_true_eq];omega)];rfl
   ·rw[fG,if_neg (by omega),if_neg (by omega),if_pos (by simp only[jg,aD,decide_eq_true_eq];omega)]at hf;refine⟨(i+1,b++[s.getD i 0]),?_,?_,by first|rfl|(simp[go_sem];done),bL,at_⟩<;>(try dsimp only)
    ·simp only[aC,List.length_cons,List.length_nil];exact⟨by omega,by omega,by omega,hf⟩
    ·omega
   ·refine bp ?_ rfl;rw[hf,fG,if_neg (by omega),if_neg (by omega),if_neg (by simp only[jg,aD,decide_eq_true_eq];omega)];rfl
  ·rw[dN (by omega)]at hf;repeat' first|refine aq ?_|refine ak ?_ ?_<;>intro hw<;>try omega|fail
   all_goals (refine bp ?_ rfl;rw[hf];simp[jd,PR.err])
def qL{α : Type}[Inhabited α]{p : α->Bool}{l:List α}{i:Nat}(hi:i<l.length)(h:∀ k,k<i->p (l.getD k default)=false)(hp:p (l.getD i default)=true): l.find? p=some (l.getD i default):=by
 have h1:=lP hi h hp;rcases qx p l with⟨h2,h3⟩|⟨j,h2,h3,h4⟩
 ·omega
 ·have:j=i:=by omega
  subst this;exact h4
def qy{α : Type}[Inhabited α]{p : α->Bool}{l:List α}(h:∀ k,k<l.length->p (l.getD k default)=false): l.find? p=none:=by
 have h1:=kT h;rcases qx p l with⟨h2,h3⟩|⟨j,h2,h3,h4⟩
 ·exact h3
 ·omega
def vO{α : Type}[Inhabited α]{p : α->Bool}{l:List α}{i:Nat}(hi:i<l.length)(hp:p (l.getD i default)=true): l.any p=true:=by
 rw[List.any_eq_true];exact⟨_,aV hi,hp⟩
def sO{α : Type}[Inhabited α]{p : α->Bool}{l:List α}(h:∀ k,k<l.length->p (l.getD k default)=false): l.any p=false:=by
 rw[fS];intro x hx;obtain⟨k,hk,rfl⟩:=bA hx;have:=h k hk;rw[aj,aK hk,bB]at this;simp[this]
def aY{q:Nat->Prop}{i:Nat}(h:∀ k,k<i->q k)(hi:q i): ∀ k,k<i+1->q k:=fun k hk=>by
 by_cases h2:k<i
 ·exact h k h2
 ·have:k=i:=by omega
  subst this;exact hi
def Dv{m s:aG}(h:m.length<=s.length): (List.take m.length s==m)=m.isPrefixOf s:=by
 rw[aS,beq_iff_eq,f_,List.prefix_iff_eq_take];exact eq_comm
def OD{m s:aG}(h:s.length<m.length): m.isPrefixOf s=false:=by
 rw[Bool.eq_false_iff];intro h2;have:=(f_.1 h2).length_le;omega
def Ty(s:aG)(h0:s≠[])(hs:s.length<=2 ^ 30): aH aE 274 [.str s] (Tt (fY s)):=by
 refine aJ Mu ?_;intro Q au aA aB;have hl:1<=s.length:=by cases s with|nil=>exact absurd rfl h0|cons=>simp
 repeat' first|refine aq ?_|refine d_ (vN _) ?_|refine d_ (pU _) ?_|with_reducible refine u0 (Gw _ (by omega)) ?_|with_reducible refine u7 (Gw _ (by omega)) ?_|with_reducible refine u0 (BM _ (by omega)) ?_|with_reducible refine u7 (BM _ (by omega)) ?_|refine d_ (Rs _ h0 hs) ?_|refine d_ OC ?_|refine ak ?_ ?_<;>intro hw<;>try omega|fail
 ·refine bp ?_ rfl;unfold fY;dsimp only;rw[if_pos (by assumption)]
 ·refine bp ?_ rfl;unfold fY;dsimp only;rw[if_neg (ne_true_of_eq_false (by assumption)),if_pos (by assumption)]
 ·refine bp ?_ rfl;unfold fY;dsimp only;rw[if_neg (ne_true_of_eq_false (by assumption)),if_neg (ne_true_of_eq_false (by assumption)),if_pos (by omega)]
 have ho:fY s=o_ s:=by
  unfold fY;dsimp only;rw[if_neg (ne_true_of_eq_false (by assumption)),if_neg (ne_true_of_eq_false (by assumption)),if_neg (by omega)]
 rw[ho]at au aA;have hml:nG.length=16:=rfl;with_reducible refine bn [3,4,6,35,36,37,38,39,40,41,42,43,44,45,46,47,48,49,50,51,52,53,54,55,56,57,58,59,60,61,62,63,64,65,66,67,68,69,70,71,72] (fun i:Nat=>[(6,I i)]) (fun _=>[.cells [I 0,.str [],I 0,I 0]]) (fun i=>i<=16/\ ∀ k,k<i->(nG.getD k default).isPrefixOf s=false) (fun i=>16-i) 0 ?_ ?_ ?_ ?_
 ·simp
 ·rfl
 ·exact at_
 rintro i r ⟨h1,h2⟩;by_cases hi:i<16
 ·repeat' first|refine aq ?_|refine ak ?_ ?_<;>intro hw<;>try omega|fail
  ·have hp:(nG.getD i default).isPrefixOf s=true:=by rw[<-Dv (by omega)];simpa using hw
   refine bp ?_ rfl;unfold o_;rw[qL (p:=fun m:aG=>m.isPrefixOf s) hi h2 hp]
  ·have hp:(nG.getD i default).isPrefixOf s=false:=by rw[<-Dv (by omega)];simpa using hw
   refine⟨i+1,?_,?_,by first|rfl|(simp[go_sem];done),bL,at_⟩<;>(try dsimp only)
   ·exact⟨by omega,aY h2 hp⟩
   ·omega
  ·refine⟨i+1,?_,?_,by first|rfl|(simp[go_sem];done),bL,at_⟩<;>(try dsimp only)
   ·exact⟨by omega,aY h2 (OD (by omega))⟩
   ·omega
 ·repeat' first|refine aq ?_|refine ak ?_ ?_<;>intro hw<;>try omega|fail
  refine bp ?_ rfl;unfold o_;rw[qy (p:=fun m:aG=>m.isPrefixOf s) (fun k hk=>h2 k (by omega))];rfl
def IV(s:aG): aH aE 96 [.str s] (.bool (qK s)):=by
 have yg:qK s=qJ.any (fun x=>x==s):=by
  unfold qK;rw[Bool.eq_iff_iff,List.contains_iff_mem,List.any_eq_true];simp
 rw[yg];refine aJ De ?_;intro Q au aA aB;repeat' first|refine aq ?_|refine ak ?_ ?_<;>intro hw<;>try omega|fail
 have e1:qJ.length=9:=rfl;have e2 : [AV.str [97,110,100],AV.str [111,114],AV.str [110,111,116],AV.str [105,102],AV.str [116,104,101,110],AV.str [101,108,115,101],AV.str [116,114,117,101],AV.str [102,97,108,115,101],AV.str [110,117,108,108]]=qJ.map bj:=rfl;rw[e2];with_reducible refine bn [2,4,6,7,8,9,10,11,12,13,14,15,16,17] (fun i:Nat=>[(4,I i)]) (fun _=>[]) (fun i=>i<=9/\ ∀ k,k<i->(qJ.getD k default==s)=false) (fun i=>9-i) 0 ?_ ?_ ?_ ?_
 ·simp
 ·rfl
 ·exact at_
 rintro i r ⟨h1,h2⟩;by_cases hi:i<9
 ·repeat' first|refine aq ?_|refine ak ?_ ?_<;>intro hw<;>try omega|fail
  ·refine aL ?_ rfl;rw[vO (p:=fun x:aG=>x==s) hi (by simpa using hw)]
  ·refine⟨i+1,?_,?_,by first|rfl|(simp[go_sem];done),bL,at_⟩<;>(try dsimp only)
   ·exact⟨by omega,aY h2 (by simpa using hw)⟩
   ·omega
 ·repeat' first|refine aq ?_|refine ak ?_ ?_<;>intro hw<;>try omega|fail
  refine aL ?_ rfl;rw[sO (p:=fun x:aG=>x==s) (fun k hk=>h2 k (by omega))]
def J0(s:aG)(hs:s.length<=2 ^ 30): aH aE 247 [.str s] (BL (aX s)):=by
 unfold aX;by_cases hbig:200<s.length
 ·rw[if_pos hbig];refine aJ By ?_;intro Q au aA aB;repeat' first|refine aq ?_|refine ak ?_ ?_<;>intro hw<;>try omega|fail
  refine bG ?_;exact jq
 rw[if_neg hbig];generalize hT:nU (s.length+1) s 0 []=T;refine aJ By ?_;intro Q au aA aB;repeat' first|refine aq ?_|refine ak ?_ ?_<;>intro hw<;>try omega|fail
 with_reducible refine bn [2,3,4,5,6,7,8,9,13,14,15,16,17,18,19,20,21,22,23,24,25,26,27,28,29,30,31,32,33,34,35,36,37,38,39,40,41,42,43] (fun p:Nat × List Tok × List bx=>[(6,I p.1),(5,.own ET 0 p.2.1.length 0 p.2.1.length)]) (fun p=> .vec ET (p.2.1.map jU)::p.2.2) (fun p=>p.1<=s.length/\p.2.1.length<=p.1/\ ∃ f,s.length-p.1<f/\T=nU f (s.drop p.1) p.1 p.2.1) (fun p=>s.length-p.1) (0,[],[]) ?_ ?_ ?_ ?_
 ·exact⟨by simp,by simp,s.length+1,by omega,hT.symm⟩
 ·rfl
 ·exact at_
 rintro⟨p,acc,τ⟩ r ⟨k0,k1,f,k2,k3⟩;dsimp only at k0 k1 k2 k3;obtain⟨f,rfl⟩:∃ g,f=g+1:=⟨f-1,by omega⟩;by_cases hp:p<s.length
 ·rw[jj hp,ou]at k3;have hne:s.drop p≠[]:=by rw[jj hp];simp
  have hlen:(s.drop p).length<=2 ^ 30:=by rw[List.length_drop];omega
  rw[<-jj hp]at k3;have JZ:=Ty (s.drop p) hne hlen;have MC:=EH hne;rw[List.length_drop]at MC;generalize fY (s.drop p)=q at *;obtain⟨qk,qs,qn,ql,qe⟩:=q;dsimp only at k3 MC;repeat' first|refine aq ?_|refine ak ?_ ?_<;>intro hw<;>try omega|fail
  ·rw[if_pos (by omega)]at k3;refine⟨(p+1,acc,τ),?_,?_,by first|rfl|(simp[go_sem];done),bL,at_⟩<;>(try dsimp only)
   ·exact⟨by omega,by omega,f,by omega,k3⟩
   ·omega
  ·rw[if_neg (by omega),if_neg hw]at k3;refine bG ?_;rw[k3];exact bf.cons (View.ai _) (bf.refl rfl)
  ·rw[if_neg (by omega),if_pos hw,List.drop_drop]at k3;refine⟨(p+ql,acc++[⟨qk,qs,qn,p⟩],τ++[.cells [I qk,.str qs,I qn,I p]]),?_,?_,by first|rfl|(simp[go_sem];done),bL,at_⟩<;>(try dsimp only)
   ·exact⟨by omega,by simp;omega,f,by omega,k3⟩
   ·omega
 ·rw[dN (by omega),MB]at k3;repeat' first|refine aq ?_|refine ak ?_ ?_<;>intro hw<;>try omega|fail
  refine bG ?_;rw[k3];exact bf.cons (View.vec rfl (by simp) (by simp) (Gt _)) (bf.refl rfl)
def rG(s:aG)(hs:s.length<=2 ^ 62): aH aE 50 [.str s] (.bool (fc s)):=by
 refine aJ KL ?_;intro Q au aA aB;repeat' first|refine aq ?_|refine d_ (Gv _ hs) ?_|refine d_ (IV _) ?_|refine ak ?_ ?_<;>intro hw<;>try omega|fail
 all_goals refine aL ?_ rfl
 all_goals (refine congrArg AV.bool ?_;simp[fc];try simp_all;try omega)
def BN{s:aG}{p:UInt8->Bool}{i:Nat}(hi:i<s.length)(hp:p (s.getD i 0)=false): s.all p=false:=by
 rw[List.all_eq_false];refine⟨s.getD i 0,?_,ne_true_of_eq_false hp⟩;rw[aj,aK hi];exact dD hi
def P2{s:aG}{p:UInt8->Bool}(h:∀ k,k<s.length->p (s.getD k 0)=true): s.all p=true:=by
 rw[bq];intro x hx;obtain⟨k,hk,rfl⟩:=bA hx;have:=h k hk;rwa[aj,aK hk]at this
def uH(c:UInt8): jg c=true↔32<=c.toNat/\c.toNat<=126:=by simp[jg]
def pV(c:UInt8): jg c=false↔c.toNat<32\/126<c.toNat:=by
 rw[<-Bool.not_eq_true,uH];omega
def OE(s:aG): aH aE 129 [.str s] (.bool (gg s)):=by
 refine aJ Iw ?_;intro Q au aA aB;repeat' first|refine aq ?_|refine ak ?_ ?_<;>intro hw<;>try omega|fail
 ·refine aL ?_ rfl;simp only[gg];rw[decide_eq_false (by omega),dA]
 with_reducible refine bn [2,4,10,11,12,13,14,15,16,17,18] (fun i:Nat=>[]) (fun i=>[.iO s i]) (fun i=>i<=s.length/\ ∀ k,k<i->jg (s.getD k 0)=true) (fun i=>s.length-i) 0 ?_ ?_ ?_ ?_
 ·simp
 ·rfl
 ·exact at_
 rintro i r ⟨h1,h2⟩;by_cases hi:i<s.length
 ·by_cases ha:(s.getD i 0).toNat<128
  ·repeat' first|refine aq ?_|refine ak ?_ ?_<;>intro hw<;>try omega|fail
   ·refine aL ?_ rfl;simp only[gg];rw[BN (p:=jg) hi ((pV _).2 (.inr (by omega))),dJ]
   ·refine⟨i+1,?_,?_,by first|rfl|(simp[go_sem];done),bL,at_⟩<;>(try dsimp only)
    ·exact⟨by omega,aY h2 ((uH _).2 ⟨by omega,by omega⟩)⟩
    ·omega
   ·refine aL ?_ rfl;simp only[gg];rw[BN (p:=jg) hi ((pV _).2 (.inl (by omega))),dJ]
  ·have hw2:=Oo hi (by omega);repeat' first|refine aq ?_|refine ak ?_ ?_<;>intro hw<;>try omega|fail
   all_goals refine aL ?_ rfl
   all_goals (simp only[gg];rw[BN (p:=jg) hi ((pV _).2 (.inr (by omega))),dJ])
 ·have:i=s.length:=by omega
  repeat' first|refine aq ?_|refine ak ?_ ?_<;>intro hw<;>try omega|fail
  refine aL ?_ rfl;simp only[gg];rw[decide_eq_true (by omega),P2 (fun k hk=>h2 k (by omega))];rfl
def OF(s:aG)(hs:s.length<=2 ^ 62): aH aE 141 [.str s] (.bool (gg s)):=by
 refine aJ Iy ?_;intro Q au aA aB;repeat' first|refine aq ?_|refine ak ?_ ?_<;>intro hw<;>try omega|fail
 with_reducible refine bn [2,3,4,5,6,7,8,9,10,11,12,13,14,15,16,17,18,19] (fun i:Nat=>[(3,I i)]) (fun i=>[]) (fun i=>i<=s.length/\ ∀ k,k<i->jg (s.getD k 0)=true) (fun i=>s.length-i) (0) ?_ ?_ ?_ ?_
 ·simp
 ·rfl
 ·exact at_
 rintro i r ⟨h1,h2⟩;by_cases hi:i<s.length
 ·repeat' first|refine aq ?_|refine ak ?_ ?_<;>intro hw<;>try omega|fail
  ·refine aL ?_ rfl;simp only[gg];rw[BN (p:=jg) hi ((pV _).2 (.inr (by omega))),dJ]
  ·refine⟨i+1,?_,?_,by first|rfl|(simp[go_sem];done),bL,at_⟩<;>(try dsimp only)
   ·exact⟨by omega,aY h2 ((uH _).2 ⟨by omega,by omega⟩)⟩
   ·omega
  ·refine aL ?_ rfl;simp only[gg];rw[BN (p:=jg) hi ((pV _).2 (.inl (by omega))),dJ]
 ·repeat' first|refine aq ?_|refine ak ?_ ?_<;>intro hw<;>try omega|fail
  refine aL ?_ rfl;simp only[gg];rw[P2 (fun k hk=>h2 k (by omega)),g_];refine congrArg AV.bool ?_;rw[aS,decide_eq_true_eq,decide_eq_true_eq];omega
def EI(n:Int)(s:aG): bT ⟨0,n,s⟩=(decide (n=0) && decide (s=[])):=rfl
def EJ(n:Int)(s:aG): bT ⟨1,n,s⟩=decide (s=[]):=rfl
def EL(n:Int)(s:aG): bT ⟨2,n,s⟩=(decide (n=0) && gg s):=rfl
def EN(n:Int)(s:aG): bT ⟨3,n,s⟩=(decide (s=[]) && (decide (n=0) || decide (n=1))):=rfl
def ME(k n:Int)(s:aG)(h0:k≠0)(h1:k≠1)(h2:k≠2)(h3:k≠3): bT ⟨k,n,s⟩=false:=by
 simp[bT,h0,h1,h2,h3]
def mw(b:Bool): Int:=if b then 0 else 2
def Rt(x:BitVec 64): x &&& ~~~ 1#64=0#64↔x=0#64\/x=1#64:=by
 constructor
 ·intro h
  have hb:∀ i,1<=i->i<64->x.getLsbD i=false:=fun i h1 h2=>by
   have:=congrArg (fun y=>BitVec.getLsbD y i) h
   have h3:(1#64).getLsbD i=false:=by
    rw[BitVec.getLsbD_one];simp;omega
   simp only[BitVec.getLsbD_and,BitVec.getLsbD_not,h3,h2,decide_true,fJ,g_,BitVec.getLsbD_zero]at this;exact this
  cases h0:x.getLsbD 0 with
  | false =>
    left;apply BitVec.eq_of_getLsbD_eq;intro i hi;by_cases hz:i=0
    ·subst hz;rw[h0];rfl
    ·rw[hb i (by omega) hi];simp
  | true =>
    right;apply BitVec.eq_of_getLsbD_eq;intro i hi;by_cases hz:i=0
    ·subst hz;rw[h0];rfl
    ·rw[hb i (by omega) hi,BitVec.getLsbD_one];simp[hz]
 ·rintro(rfl|rfl)<;>decide
def OG(m:Nat)(h:m<18446744073709551616): IntKind.wrap .i64 m=0↔m=0:=by
 simp only[IntKind.wrap,IntKind.bits,IntKind.signed];simp;omega
def adH(n:Int)(h : -9223372036854775808<=n)(h':n<=9223372036854775807): jD .andNot .i64 n 1=0↔n=0\/n=1:=by
 rw[lp];show IntKind.wrap .i64 ((BitVec.ofInt 64 n &&& ~~~ BitVec.ofInt 64 1).toNat:Int)=0↔_;rw[OG _ (BitVec.isLt _)]
 have h1:(BitVec.ofInt 64 n &&& ~~~ BitVec.ofInt 64 1).toNat=0↔BitVec.ofInt 64 n &&& ~~~ 1#64=0#64:=by
  rw[<-BitVec.toNat_inj];rfl
 rw[h1,Rt,<-BitVec.toNat_inj,<-BitVec.toNat_inj];simp only[BitVec.toNat_ofInt,BitVec.toNat_ofNat];omega
def pW(k n:Int)(s:aG)(h : -9223372036854775808<=n)(h':n<=9223372036854775807): aH aE 85 [.agg [I k,I n,.str s]] (I (mw (bT ⟨k,n,s⟩))):=by
 refine aJ Iq ?_;intro Q au aA aB;repeat' first|refine aq ?_|refine d_ (OE _) ?_|refine ak ?_ ?_<;>intro hw<;>try omega|fail
 all_goals refine aL ?_ rfl
 all_goals (refine congrArg I ?_;unfold mw;try rw[adH n h h']at hw)
 all_goals (try subst k)
 all_goals first
  |(rw[if_neg (by rw[EI];simp_all)];done)
  |(rw[if_pos (by rw[EI];simp_all)];done)
  |(rw[if_neg (by rw[EJ];simp_all)];done)
  |(rw[if_pos (by rw[EJ];simp_all)];done)
  |(rw[if_neg (by rw[EL];simp_all)];done)
  |(rw[if_pos (by rw[EL];simp_all)];done)
  |(rw[if_neg (by rw[EN];simp_all)];done)
  |(rw[if_pos (by rw[EN];simp_all)];done)
  |(rw[if_neg (by rw[ME _ _ _ (by assumption) (by assumption) (by assumption) (by assumption)];simp)])
def xq(k n:Int)(s:aG)(hs:s.length<=2 ^ 62): aH aE 97 [.agg [I k,I n,.str s]] (.bool (bT ⟨k,n,s⟩)):=by
 refine aJ Iu ?_;intro Q au aA aB;repeat' first|refine aq ?_|refine d_ (OF _ hs) ?_|refine ak ?_ ?_<;>intro hw<;>try omega|fail
 all_goals refine aL ?_ rfl
 all_goals (refine congrArg AV.bool ?_;try subst k)
 all_goals first
  |(rw[EI];rw[aS];simp_all;done)
  |(rw[EJ];rw[aS];simp_all;done)
  |(rw[EL];rw[aS];simp_all;done)
  |(rw[EN];rw[aS];simp_all;done)
  |(rw[ME _ _ _ (by assumption) (by assumption) (by assumption) (by assumption)])
