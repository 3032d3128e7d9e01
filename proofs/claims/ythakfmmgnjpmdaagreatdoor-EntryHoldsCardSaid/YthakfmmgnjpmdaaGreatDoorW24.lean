/- Part. -/
import Derived.Test.YthakfmmgnjpmdaaGreatDoorW23
set_option linter.all false
set_option maxHeartbeats 4000000
namespace Go.Proofs.YthakfmmgnjpmdaaGreatDoor
open Go.AM
set_option maxRecDepth 4000
abbrev TB: TypeId:=127
abbrev TU: TypeId:=5
def oz(T:TypeId)(σ : ae)(l:Nat)(s:aO): Prop:= ∃ p v,σ[l]? = some (.bM (some T) [p,v])/\(p = .jA\/p = .ref l 0) /\
 ((s=[]/\v = .aA)\/(s≠[]/\ ∃ k,k≠l/\v = .own E1 k s.length 0 s.length/\σ[k]? = some (.cj (some TU) E1 (rU s))))
def jI(l:Nat)(σ σ':ae): Prop:=σ.length<=σ'.length/\ ∀ j o,σ[j]? = some o->j≠l->(∀ T xs,o≠ .cj (some T) E1 xs)->σ'[j]? = some o
def jI.refl(l:Nat)(σ : ae): jI l σ σ:=⟨Nat.le_refl _,fun _ _ h _ _=>h⟩
def ju{σ : ae}{l:Nat}{o:bj}(h : σ[l]? = some o): l < σ.length:=(aK.1 h).1
def aaD : ∃ fn, Tryz.prog.funcs[169]? = some fn ∧ (fn.name == "runtime.NumGoroutine") = false ∧ fn.body.isNone = true ∧ Extern.findNext fn = none ∧ Extern.find fn = some Extern.AbiNoEscape.same :=
 ⟨_,Tryz.func169,by kernel_rfl,by kernel_rfl,by kernel_rfl,by kernel_rfl⟩
def Ec(T:TypeId): Prop:=liesAt Tryz.prog Tryz.prog.depth T (2 / Tryz.prog.cellsOf T) 0 TB 1=true
def AO: Ec TB:=by unfold Ec;kernel_rfl
def Builder_copyCheck {T : TypeId} (hT : Ec T) (σ : ae) (l : Nat) (p v : AV) (h : σ[l]? = some (.bM (some T) [p, v])) (hp : p = .jA \/ p = .ref l 0) :
    dZ aH 133 [.ref l 0] σ fun o σ'=>o = .ret (.bH [])/\σ' = σ.set l (.bM (some T) [.ref l 0,v]):=by
 have sH : σ.set l (.bM (some T) [.ref l 0,v]) = σ\/p = .jA:=by
  rcases hp with rfl|rfl
  ·exact .inr rfl
  ·left;apply List.ext_getElem?;intro k;by_cases e:k=l
   ·subst e;rw[List.getElem?_set_self (ju h)];exact h.symm
   ·rw[aI (Ne.symm e)]
 refine u9.go ?_;unfold dO;intro Q aB aC aD;rcases hp with rfl|rfl
 ·repeat' first|simp (disch:=omega) only[go_sem,aB,aC,aD,h]|refine au ?_|refine agy h (by simp) ?_|refine ac3 aaD ?_|refine agz h hT ?_|refine aq ?_ ?_<;>intro hw<;>try omega|fail
  exact⟨by trivial,by trivial⟩
 ·rcases sH with sH|sH
  ·repeat' first|simp (disch:=omega) only[go_sem,aB,aC,aD,h]|refine au ?_|refine agA h ?_|refine aq ?_ ?_<;>intro hw<;>try omega|fail
   exact⟨rfl,sH.symm⟩
  ·cases sH
def Builder_Len{T:TypeId}(σ : ae)(l:Nat)(s:aO)(h:oz T σ l s): dZ aH 58 [.ref l 0] σ fun o σ'=>o = .ret (I s.length)/\σ' = σ:=by
 obtain⟨p,v,h1,h2,h3⟩:=h;refine zI.go ?_;unfold dO;intro Q aB aC aD;rcases h3 with⟨rfl,rfl⟩|⟨h3,k,h4,rfl,h5⟩
 ·repeat' first|simp (disch:=omega) only[go_sem,aB,aC,aD,h1]|refine au ?_|refine aq ?_ ?_<;>intro hw<;>try omega|fail
  exact⟨rfl,trivial⟩
 ·repeat' first|simp (disch:=omega) only[go_sem,aB,aC,aD,h1]|refine au ?_|refine aq ?_ ?_<;>intro hw<;>try omega|fail
  exact⟨rfl,trivial⟩
def Builder_WriteString {T : TypeId} (hT : Ec T) (σ : ae) (l : Nat) (s t : aO) (h : oz T σ l s) (hlen : s.length + t.length <= 2 ^ 38) :
    dZ aH 91 [.ref l 0,.str t] σ fun o σ'=>o = .ret (.bH [I t.length,.kj])/\oz T σ' l (s++t)/\jI l σ σ':=by
 obtain⟨p,v,h1,h2,h3⟩:=h;have hl:=ju h1;refine tU.go ?_;unfold dO;intro Q aB aC aD;have fY:=Builder_copyCheck hT σ l p v h1 h2;have rX:(σ.set l (.bM (some T) [.ref l 0,v]))[l]? = some (.bM (some T) [.ref l 0,v]):=by simp[hl]
 have beside:∀ (o:bj),jI l σ (σ.set l o):=fun o=>⟨by simp,fun j o' hj hne _=>by rw[aI (Ne.symm hne)];exact hj⟩;rcases h3 with⟨rfl,rfl⟩|⟨h3,k,h4,rfl,h5⟩
 ·cases t with
  | nil =>
    repeat' first|simp (disch:=omega) only[go_sem,aB,aC,aD,rX]|refine au ?_|with_reducible refine cI fY ?_|refine aq ?_ ?_<;>intro hw<;>try omega|fail
    rintro o s ⟨rfl,rfl⟩;repeat' first|simp (disch:=omega) only[go_sem,aB,aC,aD,rX,eu]|refine au ?_|refine aq ?_ ?_<;>intro hw<;>try omega|fail
    exact⟨rfl,⟨_,_,rX,.inr rfl,.inl ⟨rfl,rfl⟩⟩,beside _⟩
  | cons c t =>
    simp only[List.length_nil,List.length_cons]at hlen;repeat' first|simp (disch:=omega) only[go_sem,aB,aC,aD,rX]|refine au ?_|with_reducible refine cI fY ?_|refine aq ?_ ?_<;>intro hw<;>try omega|fail
    rintro o s ⟨rfl,rfl⟩
    have B6:∀ o,((σ.set l (.bM (some T) [.ref l 0,.aA]))++[o])[l]? = some (.bM (some T) [.ref l 0,.aA]):=fun o=>by
     rw[aJ (by simpa using hl)];exact rX
    repeat' first|simp (disch:=omega) only[go_sem,aB,aC,aD,rX,B6,eu]|refine au ?_|refine aq ?_ ?_<;>intro hw<;>try omega|fail
    rw[iO _ _ (by simpa using hl),eu];refine⟨rfl,⟨.ref l 0,.own E1 σ.length (t.length+1) 0 (t.length+1),?_,.inr rfl,.inr ⟨by simp,σ.length,by omega,by simp,?_⟩⟩,by simp,fun j o' hj hne _=>?_⟩
    ·rw[aJ (by simpa using hl)];simp[hl]
    ·rw[bp (by simp)];simp
    ·rw[aJ (by simpa using ju hj),aI (Ne.symm hne)];exact hj
 ·have hk:=ju h5;have Gf:∀ o,(σ.set l o)[k]? = some (.cj (some TU) E1 (rU s)):=fun o=>by rw[aI (Ne.symm h4)];exact h5
  repeat' first|simp (disch:=omega) only[go_sem,aB,aC,aD,rX]|refine au ?_|with_reducible refine cI fY ?_|refine aq ?_ ?_<;>intro hw<;>try omega|fail
  rintro o s' ⟨rfl,rfl⟩
  have B6:∀ o,((σ.set l (.bM (some T) [.ref l 0,.own E1 k s.length 0 s.length])).set k o)[l]? = some (.bM (some T) [.ref l 0,.own E1 k s.length 0 s.length]):=fun o=>by
   rw[aI h4];exact rX
  repeat' first|simp (disch:=omega) only[go_sem,aB,aC,aD,rX,B6,Gf,eu]|refine au ?_|refine aq ?_ ?_<;>intro hw<;>try omega|fail
  refine⟨rfl,⟨.ref l 0,.own E1 k (s.length+t.length) 0 (s.length+t.length),?_,.inr rfl,.inr ⟨by simp[h3],k,h4,by simp,?_⟩⟩,by simp,fun j o' hj hne yw=>?_⟩
  ·simp[hl]
  ·rw[aI (Ne.symm h4)];simp[hk]
  ·have Du:j≠k:=fun e=>by subst e;rw[h5]at hj;cases hj;exact yw _ _ rfl
   rw[aI (Ne.symm hne),aI (Ne.symm Du),aI (Ne.symm hne)];exact hj
def Builder_String{T:TypeId}(σ : ae)(l:Nat)(s:aO)(h:oz T σ l s)(hs:s.length<=2 ^ 62): dZ aH 59 [.ref l 0] σ fun o σ'=>o = .ret (.str s)/\jI l σ σ':=by
 obtain⟨p,v,h1,h2,h3⟩:=h;refine xk.go ?_;unfold dO;intro Q aB aC aD;rcases h3 with⟨rfl,rfl⟩|⟨h3,k,h4,rfl,h5⟩
 ·repeat' first|simp (disch:=omega) only[go_sem,aB,aC,aD,h1]|refine au ?_|refine aq ?_ ?_<;>intro hw<;>try omega|fail
  exact⟨rfl,.refl _ _⟩
 ·have h0:0<s.length:=ik.2 h3;repeat' first|simp (disch:=omega) only[go_sem,aB,aC,aD,h1]|refine au ?_|refine agB h5 (by simp) h0 ?_|refine aeX s h5 (by simp) rfl h3 hs rfl ?_|refine aq ?_ ?_<;>intro hw<;>try omega|fail
  refine⟨rfl,by simp,fun j o' hj hne yw=>?_⟩;have Du:j≠k:=fun e=>by subst e;rw[h5]at hj;cases hj;exact yw _ _ rfl
  rw[aI (Ne.symm Du)];exact hj
def oz.push{T:TypeId}{σ : ae}{l:Nat}{s:aO}(h:oz T σ l s)(ρ : ae): oz T (σ++ ρ) l s:=by
 obtain⟨p,v,h1,h2,h3⟩:=h;refine⟨p,v,by rw[aJ (ju h1)];exact h1,h2,?_⟩;rcases h3 with h3|⟨h3,k,h4,h5,h6⟩
 ·exact .inl h3
 ·exact .inr ⟨h3,k,h4,h5,by rw[aJ (ju h6)];exact h6⟩
def oz.lt{T:TypeId}{σ : ae}{l:Nat}{s:aO}(h:oz T σ l s): l < σ.length:=by
 obtain⟨p,v,h1,_⟩:=h;exact ju h1
def oz.aaE{T:TypeId}{σ : ae}{l q:Nat}{s u:aO}{i:Nat}(h:oz T σ l s)(hq : σ[q]? = some (.jo u i))(o:bj): oz T (σ.set q o) l s:=by
 obtain⟨p,v,h1,h2,h3⟩:=h;have n1:q≠l:=fun e=>by subst e;rw[hq]at h1;cases h1
 refine⟨p,v,by rw[aI n1];exact h1,h2,?_⟩;rcases h3 with h3|⟨h3,k,h4,h5,h6⟩
 ·exact .inl h3
 ·have n2:q≠k:=fun e=>by subst e;rw[hq]at h6;cases h6
  exact .inr ⟨h3,k,h4,h5,by rw[aI n2];exact h6⟩
def jI.trans{l:Nat}{σ1 σ2 σ3:ae}(h:jI l σ1 σ2)(k:jI l σ2 σ3): jI l σ1 σ3 :=
 ⟨bW h.1 k.1,fun j o h1 h2 h3=>k.2 j o (h.2 j o h1 h2 h3) h2 h3⟩
def jI.rm{l:Nat}{σ ρ σ2:ae}(h:jI l (σ++ ρ) σ2): jI l σ σ2 :=
 ⟨bW (by simp) h.1,fun j o h1 h2 h3=>h.2 j o (by rw[aJ (ju h1)];exact h1) h2 h3⟩
def X0{n:Int}(h:0<=n)(h':n<=4294967295): dF .u32 n=n:=by
 show IntKind.wrap .u32 n=n;simp[IntKind.wrap,IntKind.bits,IntKind.signed];omega
def Builder_WriteByte {T : TypeId} (hT : Ec T) (σ : ae) (l : Nat) (s : aO) (c : UInt8) (k : Int) (hk : k = c.toNat) (h : oz T σ l s) (hlen : s.length <= 2 ^ 38) :
    dZ aH 96 [.ref l 0,.int .u8 k] σ fun o σ'=>o = .ret .kj/\oz T σ' l (s++[c])/\jI l σ σ':=by
 subst hk;obtain⟨p,v,h1,h2,h3⟩:=h;have hl:=ju h1;refine u7.go ?_;unfold dO;intro Q aB aC aD;have fY:=Builder_copyCheck hT σ l p v h1 h2;have rX:(σ.set l (.bM (some T) [.ref l 0,v]))[l]? = some (.bM (some T) [.ref l 0,v]):=by simp[hl]
 rcases h3 with⟨rfl,rfl⟩|⟨h3,k,h4,rfl,h5⟩
 ·repeat' first|simp (disch:=omega) only[go_sem,aB,aC,aD,rX]|refine au ?_|with_reducible refine cI fY ?_|refine aq ?_ ?_<;>intro hw<;>try omega|fail
  rintro o s' ⟨rfl,rfl⟩
  have B6:∀ o,((σ.set l (.bM (some T) [.ref l 0,.aA]))++[o])[l]? = some (.bM (some T) [.ref l 0,.aA]):=fun o=>by
   rw[aJ (by simpa using hl)];exact rX
  repeat' first|simp (disch:=omega) only[go_sem,aB,aC,aD,rX,B6,eu]|refine au ?_|refine aq ?_ ?_<;>intro hw<;>try omega|fail
  rw[iO _ _ (by simpa using hl),eu];refine⟨rfl,⟨.ref l 0,.own E1 σ.length 1 0 1,?_,.inr rfl,.inr ⟨by simp,σ.length,by omega,by simp,?_⟩⟩,by simp,fun j o' hj hne _=>?_⟩
  ·rw[aJ (by simpa using hl)];simp[hl]
  ·rw[bp (by simp)];simp
  ·rw[aJ (by simpa using ju hj),aI (Ne.symm hne)];exact hj
 ·have hk:=ju h5;have Gf:∀ o,(σ.set l o)[k]? = some (.cj (some TU) E1 (rU s)):=fun o=>by rw[aI (Ne.symm h4)];exact h5
  repeat' first|simp (disch:=omega) only[go_sem,aB,aC,aD,rX]|refine au ?_|with_reducible refine cI fY ?_|refine aq ?_ ?_<;>intro hw<;>try omega|fail
  rintro o s' ⟨rfl,rfl⟩
  have B6:∀ o,((σ.set l (.bM (some T) [.ref l 0,.own E1 k s.length 0 s.length])).set k o)[l]? = some (.bM (some T) [.ref l 0,.own E1 k s.length 0 s.length]):=fun o=>by
   rw[aI h4];exact rX
  repeat' first|simp (disch:=omega) only[go_sem,aB,aC,aD,rX,B6,Gf,eu]|refine au ?_|refine aq ?_ ?_<;>intro hw<;>try omega|fail
  refine⟨rfl,⟨.ref l 0,.own E1 k (s.length+1) 0 (s.length+1),?_,.inr rfl,.inr ⟨by simp,k,h4,by simp,?_⟩⟩,by simp,fun j o' hj hne yw=>?_⟩
  ·simp[hl]
  ·rw[aI (Ne.symm h4)];simp[hk]
  ·have Du:j≠k:=fun e=>by subst e;rw[h5]at hj;cases hj;exact yw _ _ rfl
   rw[aI (Ne.symm hne),aI (Ne.symm Du),aI (Ne.symm hne)];exact hj
def KI (σ : ae) (k : Nat) (s : aO) (c : UInt8) (hc : c.toNat < 128) (h : σ[k]? = some (.cj (some TU) E1 (rU s))) (hlen : s.length <= 2 ^ 38) :
    dZ aH 193 [.own E1 k s.length 0 s.length,.int .i32 c.toNat] σ fun o σ'=>o = .ret (.own E1 k (s.length+1) 0 (s.length+1))/\σ' = σ.set k (.cj (some TU) E1 (rU (s++[c]))):=by
 refine wH.go ?_;unfold dO;intro Q aB aC aD;repeat' first|simp (disch:=omega) only[go_sem,aB,aC,aD,h,X0]|refine au ?_|refine aq ?_ ?_<;>intro hw<;>try omega|fail
 all_goals first|(refine⟨rfl,?_⟩;simp;done)|exact a_
def wT {T : TypeId} (hT : Ec T) (σ : ae) (l : Nat) (s : aO) (c : UInt8) (hc : c.toNat < 128) (h : oz T σ l s) (hs : s ≠ []) (hlen : s.length <= 2 ^ 38) :
    dZ aH 172 [.ref l 0,.int .i32 c.toNat] σ fun o σ'=>(∃ r,o = .ret r)/\oz T σ' l (s++[c])/\jI l σ σ':=by
 obtain⟨p,v,h1,h2,h3⟩:=h;have hl:=ju h1;refine ve.go ?_;unfold dO;intro Q aB aC aD;have fY:=Builder_copyCheck hT σ l p v h1 h2;have rX:(σ.set l (.bM (some T) [.ref l 0,v]))[l]? = some (.bM (some T) [.ref l 0,v]):=by simp[hl]
 rcases h3 with⟨rfl,rfl⟩|⟨h3,k,h4,rfl,h5⟩
 ·exact absurd rfl hs
 ·have hk:=ju h5;have Gf:∀ o,(σ.set l o)[k]? = some (.cj (some TU) E1 (rU s)):=fun o=>by rw[aI (Ne.symm h4)];exact h5
  repeat' first|simp (disch:=omega) only[go_sem,aB,aC,aD,rX]|refine au ?_|with_reducible refine cI fY ?_|refine aq ?_ ?_<;>intro hw<;>try omega|fail
  rintro o s' ⟨rfl,rfl⟩;repeat' first|simp (disch:=omega) only[go_sem,aB,aC,aD,rX]|refine au ?_|with_reducible refine cI (KI _ k s c hc (Gf _) hlen) ?_|refine aq ?_ ?_<;>intro hw<;>try omega|fail
  rintro o s' ⟨rfl,rfl⟩
  have B6:∀ o,((σ.set l (.bM (some T) [.ref l 0,.own E1 k s.length 0 s.length])).set k o)[l]? = some (.bM (some T) [.ref l 0,.own E1 k s.length 0 s.length]):=fun o=>by
   rw[aI h4];exact rX
  have h1a:∀ o o',(((σ.set l (.bM (some T) [.ref l 0,.own E1 k s.length 0 s.length])).set k o).set l o')[l]? = some o':=fun o o'=>by
   rw[List.getElem?_set_self (by simpa using hl)]
  repeat' first|simp (disch:=omega) only[go_sem,aB,aC,aD,rX,B6,h1a,Gf,eu]|refine au ?_|refine aq ?_ ?_<;>intro hw<;>try omega|fail
  refine⟨⟨_,rfl⟩,⟨.ref l 0,.own E1 k (s.length+1) 0 (s.length+1),?_,.inr rfl,.inr ⟨by simp,k,h4,by simp,?_⟩⟩,by simp,fun j o' hj hne yw=>?_⟩
  ·simp[hl]
  ·rw[aI (Ne.symm h4)];simp[hk]
  ·have Du:j≠k:=fun e=>by subst e;rw[h5]at hj;cases hj;exact yw _ _ rfl
   rw[aI (Ne.symm hne),aI (Ne.symm Du),aI (Ne.symm hne)];exact hj
def RQ(s:aO)(ha:∀ i,i<s.length->(s.getD i 0).toNat<128)(hs:s.length<=2 ^ 36): aM aH 137 [.str s] (.str (qK s)):=by
 refine aR Kx ?_;intro Q aB aC aD;have hb0:oz TB [.bM (some TB) [.jA,.aA]] 0 []:=⟨_,_,rfl,.inl rfl,.inl ⟨rfl,rfl⟩⟩;repeat' first|refine au ?_|with_reducible refine cI (Builder_WriteByte AO _ 0 _ 34 34 rfl hb0 (by simp)) ?_|refine aq ?_ ?_<;>intro hw<;>try omega|fail
 rintro o σ ⟨rfl,s7,_⟩;repeat' first|refine au ?_|refine aq ?_ ?_<;>intro hw<;>try omega|fail
 generalize hq : σ.length=q at *;with_reducible refine bE [5,9,10,11,12,13,14,15,16,17,18,19] (fun x:Nat × ae=>[]) (fun x=>x.2) (fun x=>x.1<=s.length/\oz TB x.2 0 (34::(s.take x.1).flatMap k_)/\x.2[q]? = some (.jo s x.1)) (fun x=>s.length-x.1) (0,σ++[.jo s 0]) ?_ ?_ ?_ ?_
 ·exact⟨bO _,by simpa using s7.push _,by rw[<-hq];simp⟩
 ·rfl
 ·exact at_
 clear s7 hb0 hq;rintro⟨i,σ⟩ r ⟨h1,h2,h3⟩;dsimp only at h1 h2 h3;have hql:=Mj (s.take i);rw[List.length_take]at hql;have LV:(34::(s.take i).flatMap k_).length<=2 ^ 37+1:=by rw[List.length_cons];omega
 by_cases hi:i<s.length
 ·have hai:=ha i hi;have ht:=Vg hi;have hb:=h2.aaE h3 (.jo s (i+1));have hne:(34::(s.take i).flatMap k_:aO)≠[]:=by simp
  have h3':(σ.set q (.jo s (i+1)))[q]? = some (.jo s (i+1)):=by rw[List.getElem?_set_self (ju h3)]
  have hq0:q≠0:=fun e=>by
   obtain⟨p,v,k1,_⟩:=h2;rw[e,k1]at h3;cases h3
  generalize (s.take i).flatMap k_=acc at *;by_cases hc:(s.getD i 0).toNat=34\/(s.getD i 0).toNat=92
  ·rw[k_,if_pos hc]at ht;repeat' first|simp (disch:=omega) only[go_sem,aB,aC,aD,h3]|refine au ?_|with_reducible refine cI (Builder_WriteByte AO _ 0 _ 92 92 rfl hb (by omega)) ?_|refine aq ?_ ?_<;>intro hw<;>try omega|fail
   all_goals first
    | (rintro o σ1 ⟨rfl, s7, dV⟩
       have h3a:=dV.2 q _ h3' hq0 (fun _ _=>by simp);repeat' first|refine au ?_|with_reducible refine cI (wT AO _ 0 _ (s.getD i 0) hai s7 (by simp) (by simp only[List.length_append,List.length_cons,List.length_nil];omega)) ?_|refine aq ?_ ?_<;>intro hw<;>try omega|fail
       rintro o σ2 ⟨⟨rr,rfl⟩,gG,kG⟩;repeat' first|refine au ?_|refine aq ?_ ?_<;>intro hw<;>try omega|fail
       refine⟨(i+1,σ2),⟨?_,?_,?_⟩,?_,rfl,cZ,at_⟩
       ·dsimp only;omega
       ·dsimp only;rw[ht];simpa using gG
       ·exact kG.2 q _ h3a hq0 (fun _ _=>by simp)
       ·dsimp only;omega)
    | exact a_
  ·rw[k_,if_neg hc]at ht;repeat' first|simp (disch:=omega) only[go_sem,aB,aC,aD,h3]|refine au ?_|with_reducible refine cI (wT AO _ 0 _ (s.getD i 0) hai hb hne (by omega)) ?_|refine aq ?_ ?_<;>intro hw<;>try omega|fail
   all_goals first
    | (rintro o σ2 ⟨⟨rr, rfl⟩, gG, kG⟩
       repeat' first|refine au ?_|refine aq ?_ ?_<;>intro hw<;>try omega|fail
       refine⟨(i+1,σ2),⟨?_,?_,?_⟩,?_,rfl,cZ,at_⟩
       ·dsimp only;omega
       ·dsimp only;rw[ht];simpa using gG
       ·exact kG.2 q _ h3' hq0 (fun _ _=>by simp)
       ·dsimp only;omega)
    | exact a_
 ·have SL:i=s.length:=by omega
  have y3:s.take i=s:=b_ (by omega);rw[y3]at h2 LV;simp only[List.length_cons]at LV;repeat' first|simp (disch:=omega) only[go_sem,aB,aC,aD,h3]|refine au ?_|with_reducible refine cI (Builder_WriteByte AO _ 0 _ 34 34 rfl h2 (by simp only[List.length_cons];omega)) ?_|refine aq ?_ ?_<;>intro hw<;>try omega|fail
  rintro o σ1 ⟨rfl,s7,_⟩;repeat' first|refine au ?_|with_reducible refine cI (Builder_String _ 0 _ s7 (by simp only[List.length_append,List.length_cons,List.length_nil];omega)) ?_|refine aq ?_ ?_<;>intro hw<;>try omega|fail
  rintro o σ2 ⟨rfl,_⟩;repeat' first|refine au ?_|refine aq ?_ ?_<;>intro hw<;>try omega|fail
  refine aU ?_ rfl;simp[qK]
def PS{s:aO}(h:kO s=true): ∀ i,i<s.length->(s.getD i 0).toNat<128:=by
 intro i hi;simp only[kO,aj,aV]at h;have:=h.2 (s.getD i 0) (by rw[ai,aF hi];exact dD hi);rw[BR]at this;omega
def Vi(v:aL)(h0 : -9223372036854775808<=v.n)(h1:v.n<=9223372036854775807)(hr:br v=true): aM aH 97 [bX v] (.bH [.str (xw v),I 0]):=by
 obtain⟨k,n,s⟩:=v;dsimp only at h0 h1;have c1:=jM k n s h0 h1;rw[hr]at c1;simp only[ie,if_true]at c1;have c2:=strconv_Itoa n h0 h1
 have c3:k=2->aM aH 137 [.str s] (.str (qK s)):=fun hk=>by
  unfold br at hr;dsimp only at hr;rw[if_neg (by omega),if_neg (by omega),if_pos hk]at hr;simp only[aj]at hr;have hp:=hr.2;refine RQ s (PS hp) ?_;simp only[kO,aj,decide_eq_true_eq]at hp;omega
 have c4:=fun b=>strconv_FormatBool b;clear hr;have hS:xw ⟨k,n,s⟩=if k=1 then Lib.itoa n else if k=2 then qK s else if k=3 then(if n=1 then zk else wh)else I_:=rfl
 rw[hS];clear hS;generalize Lib.itoa n=t1 at *;generalize qK s=t2 at *;simp only[bX];by_cases k2:k=2
 ·have c5:=c3 k2;clear c3;subst k2;refine aR CH ?_;intro Q aB aC aD;repeat' first|refine au ?_|refine aq ?_ ?_<;>intro hw<;>try omega|fail
  all_goals (refine bx ?_ rfl;simp)
 ·clear c3;refine aR CH ?_;intro Q aB aC aD;repeat' first|refine au ?_|refine eZ (c4 _) ?_|refine aq ?_ ?_<;>intro hw<;>try omega|fail
  all_goals (refine bx ?_ rfl;simp_all[zk,wh,I_])
abbrev TW: TypeId:=129
def pQ: Ec TW:=by unfold Ec;kernel_rfl
def PU(x:Expr): aM aH 95 [aT x] (I (ef x.op)):=by
 have hf:=zO x.op;have hS:ef x.op=if x.op=16 then 0 else if x.op=3 then 6 else if x.op=1\/x.op=2 then 7 else(cn x.op).level:=rfl
 rw[hS];clear hS;simp only[Po]at hf;generalize cn x.op=b at *;rw[bq];refine aR IQ ?_;intro Q aB aC aD;repeat' first|refine au ?_|refine aq ?_ ?_<;>intro hw<;>try omega|fail
 all_goals (refine aU ?_ rfl;simp_all)
def acf(x:Expr): Prop:= ∀(lv:Int) (σ : ae) (l:Nat) (s:aO),oz TW σ l s->s.length+(kS x lv).length<=2 ^ 38 ->
 dZ aH 57 [.ref l 0,.agg [I x.op,I x.v.kind,I x.v.n,.str x.v.s,.str x.s,.aN false EX (x.l.map aT)],I lv] σ fun o σ'=>o = .ret (.bH [])/\oz TW σ' l (s++kS x lv)/\jI l σ σ'
def Vj(x:Expr): cq x=true->ig x->acf x:=by
 induction x using Expr.ind with
 | h op v s l ih =>
   intro hr hx;have afa:=wJ hr;have hL:=PU (.mk op v s l);rw[bq]at hL;simp only[ig]at hx;obtain⟨hs,hvs,Te,HT,hl⟩:=hx;have L1:∀ y ∈ l,cq y=true->acf y:=fun y hy XZ=>ih y hy XZ (xI hl hy)
   have Vk:∀ (lv:Int) (σ : ae) (k:Nat) (t:aO),¬ ef op<lv->oz TW σ k t->t.length+(dR (.mk op v s l)).length<=2 ^ 38 ->
    dZ aH 57 [.ref k 0,.agg [I op,I v.kind,I v.n,.str v.s,.str s,.aN false EX (l.map aT)],I lv] σ fun o σ'=>o = .ret (.bH [])/\oz TW σ' k (t++dR (.mk op v s l))/\jI k σ σ':=by
    intro lv σ k t hlv hb hlen;have Df:=hb.lt;have s7:=fun o:bj=>hb.push [o];have pn:∀ {σ':ae} {o:bj},jI k (σ++[o]) σ'->(∀ T xs,o≠ .cj (some T) E1 xs)->σ'[σ.length]? = some o:=fun dV yw=>dV.2 σ.length _ (by simp) (by omega) yw;have Ed:=hL;simp only[Expr.acd,Expr.aeY,Expr.aeZ,Expr.ae0]at Ed;rcases mI hr with⟨rfl,rfl,rfl,h1,_⟩|⟨rfl,rfl,rfl,h1⟩|⟨rfl,rfl,rfl,a,rfl,ha⟩|⟨rfl,rfl,rfl,a,b,c,rfl,ha,hb',hc⟩|⟨o1,o2,rfl,rfl,Ee,Tf,yu,_,_,a,b,rfl,ha,hb'⟩
    ·have ht:=Vi v Te HT h1;have hW:dR (.mk 1 v [] [])=xw v:=by simp[dR,n7]
     rw[hW]at hlen ⊢;generalize xw v=tv at *;generalize ef 1=Ee at *;simp only[bX]at ht;simp only[cJ]at Ed ⊢;refine iU.go ?_;unfold dO;intro Q aB aC aD;repeat' first|refine au ?_|with_reducible refine cI (Builder_WriteString pQ _ k t tv (s7 _) (by omega)) ?_|refine aq ?_ ?_<;>intro hw<;>try omega|fail
     all_goals first
      | (rintro o σ1 ⟨rfl, gG, dV⟩
         repeat' first|refine au ?_|refine aq ?_ ?_<;>intro hw<;>try omega|fail
         exact⟨rfl,gG,dV.rm⟩)
      | exact a_
    ·have hW:dR (.mk 2 v0 s [])=s:=by simp[dR,n7]
     rw[hW]at hlen ⊢;generalize ef 2=Ee at *;simp only[cJ]at Ed ⊢;refine iU.go ?_;unfold dO;intro Q aB aC aD;repeat' first|refine au ?_|with_reducible refine cI (Builder_WriteString pQ _ k t s (s7 _) (by omega)) ?_|refine aq ?_ ?_<;>intro hw<;>try omega|fail
     all_goals first
      | (rintro o σ1 ⟨rfl, gG, dV⟩
         repeat' first|refine au ?_|refine aq ?_ ?_<;>intro hw<;>try omega|fail
         exact⟨rfl,gG,dV.rm⟩)
      | exact a_
    ·have pa:=L1 a (by simp) ha;have hW:dR (.mk 3 v0 [] [a])=45::kS a 6:=by simp[dR,qL,n7,kS]
     rw[hW,List.length_cons]at hlen;rw[hW];have pa:=pa 6;generalize kS a 6=t1 at *;generalize ef 3=Ee at *;simp only[bf,cJ,bq a]at Ed ⊢;refine iU.go ?_;unfold dO;intro Q aB aC aD;repeat' first|refine au ?_|with_reducible refine cI (Builder_WriteByte pQ _ k t 45 45 rfl (s7 _) (by omega)) ?_|refine aq ?_ ?_<;>intro hw<;>try omega|fail
     all_goals first
      | (rintro o σ1 ⟨rfl, gG, dV⟩
         have rC:=pn dV (fun _ _=>by simp);repeat' first|simp (disch:=omega) only[go_sem,aB,aC,aD,rC]|refine au ?_|with_reducible refine cI (pa _ k _ gG (by simp only[List.length_append,List.length_cons,List.length_nil];omega)) ?_|refine aq ?_ ?_<;>intro hw<;>try omega|fail
         rintro o σ2 ⟨rfl,AP,kG⟩;repeat' first|refine au ?_|refine aq ?_ ?_<;>intro hw<;>try omega|fail
         exact⟨rfl,by simpa using AP,(dV.trans kG).rm⟩)
      | exact a_
    ·have pa:=L1 a (by simp) ha 0;have pb:=L1 b (by simp) hb' 0;have pc:=L1 c (by simp) hc 0;have hW:dR (.mk 16 v0 [] [a,b,c])=rJ++kS a 0++ov++kS b 0++ug++kS c 0:=by simp[dR,qL,n7,kS]
     rw[hW]at hlen ⊢;simp only[List.length_append,rJ,ov,ug,List.length_cons,List.length_nil]at hlen;generalize kS a 0=t1 at *;generalize kS b 0=t2 at *;generalize kS c 0=t3 at *;generalize ef 16=Ee at *;simp only[bf,cJ,bq a,bq b,bq c]at Ed ⊢;refine iU.go ?_;unfold dO;intro Q aB aC aD;repeat' first|refine au ?_|refine aq ?_ ?_<;>intro hw<;>try omega|fail
     all_goals try (exfalso;omega)
     obtain⟨C,hC⟩:∃ C,C=bj.cells [I 16,I v0.kind,I v0.n,.str v0.s,.str [],.aN false EX [.agg [I a.op,I a.v.kind,I a.v.n,.str a.v.s,.str a.s,.aN false EX (a.l.map aT)],.agg [I b.op,I b.v.kind,I b.v.n,.str b.v.s,.str b.s,.aN false EX (b.l.map aT)],.agg [I c.op,I c.v.kind,I c.v.n,.str c.v.s,.str c.s,.aN false EX (c.l.map aT)]]]:=⟨_,rfl⟩;have hCn:∀ T xs,C≠ .cj (some T) E1 xs:=by rw[hC];intro T xs h;cases h
     with_reducible refine bE [8,9,98,99,100,101,102,103,104,105,106,107,108,109,110,111,112,113,114] (fun x:Int × ae=>[(98,I x.1)]) (fun x=>x.2) (fun x=>(x.1=0/\oz TW x.2 k t\/x.1=1/\oz TW x.2 k (t++(rJ++t1))\/x.1=2/\oz TW x.2 k (t++(rJ++t1++ov++t2))\/x.1=3/\oz TW x.2 k (t++(rJ++t1++ov++t2++ug++t3)))/\jI k σ x.2/\x.2[σ.length]? = some C) (fun x=>(3-x.1).toNat) (0,σ++[C]) ?_ ?_ ?_ ?_
     ·exact⟨.inl ⟨rfl,hb.push _⟩,(jI.refl k (σ++[C])).rm,by simp⟩
     ·rw[hC]
     ·exact at_
     rintro⟨i,σ1⟩ r ⟨hi,dV,rC⟩;dsimp only at hi dV rC;have keep:∀ {σ2:ae},jI k σ1 σ2->σ2[σ.length]? = some C:=fun h=>h.2 _ _ rC (by omega) hCn;rcases hi with⟨rfl,PV⟩|⟨rfl,PV⟩|⟨rfl,PV⟩|⟨rfl,PV⟩
     ·repeat' first|simp (disch:=omega) only[go_sem,aB,aC,aD,show(0:Int).toNat=0 from rfl]|refine au ?_|with_reducible refine cI (Builder_WriteString pQ _ k _ _ PV (by simp;omega)) ?_|refine aq ?_ ?_<;>intro hw<;>try omega|fail
      all_goals first
       | (rintro o σ2 ⟨rfl, gG, kG⟩
          have lU:=keep kG;rw[hC]at lU;repeat' first|simp (disch:=omega) only[go_sem,aB,aC,aD,lU,show(0:Int).toNat=0 from rfl]|refine au ?_|with_reducible refine cI (pa _ k _ gG (by simp[rJ];omega)) ?_|refine aq ?_ ?_<;>intro hw<;>try omega|fail
          rintro o σ3 ⟨rfl,AP,uh⟩;repeat' first|refine au ?_|refine aq ?_ ?_<;>intro hw<;>try omega|fail
          refine⟨(1,σ3),⟨.inr (.inl ⟨rfl,by simpa[rJ]using AP⟩),dV.trans (kG.trans uh),keep (kG.trans uh)⟩,(by dsimp only;decide),rfl,cZ,at_⟩)
       | exact a_
     ·repeat' first|simp (disch:=omega) only[go_sem,aB,aC,aD,Int.toNat_one]|refine au ?_|with_reducible refine cI (Builder_WriteString pQ _ k _ _ PV (by simp[rJ];omega)) ?_|refine aq ?_ ?_<;>intro hw<;>try omega|fail
      all_goals first
       | (rintro o σ2 ⟨rfl, gG, kG⟩
          have lU:=keep kG;rw[hC]at lU;repeat' first|simp (disch:=omega) only[go_sem,aB,aC,aD,lU,Int.toNat_one]|refine au ?_|with_reducible refine cI (pb _ k _ gG (by simp[rJ,ov];omega)) ?_|refine aq ?_ ?_<;>intro hw<;>try omega|fail
          rintro o σ3 ⟨rfl,AP,uh⟩;repeat' first|refine au ?_|refine aq ?_ ?_<;>intro hw<;>try omega|fail
          refine⟨(2,σ3),⟨.inr (.inr (.inl ⟨rfl,by simpa[rJ,ov]using AP⟩)),dV.trans (kG.trans uh),keep (kG.trans uh)⟩,(by dsimp only;decide),rfl,cZ,at_⟩)
       | exact a_
     ·repeat' first|simp (disch:=omega) only[go_sem,aB,aC,aD,show(2:Int).toNat=2 from rfl]|refine au ?_|with_reducible refine cI (Builder_WriteString pQ _ k _ _ PV (by simp[rJ,ov];omega)) ?_|refine aq ?_ ?_<;>intro hw<;>try omega|fail
      all_goals first
       | (rintro o σ2 ⟨rfl, gG, kG⟩
          have lU:=keep kG;rw[hC]at lU;repeat' first|simp (disch:=omega) only[go_sem,aB,aC,aD,lU,show(2:Int).toNat=2 from rfl]|refine au ?_|with_reducible refine cI (pc _ k _ gG (by simp[rJ,ov,ug];omega)) ?_|refine aq ?_ ?_<;>intro hw<;>try omega|fail
          rintro o σ3 ⟨rfl,AP,uh⟩;repeat' first|refine au ?_|refine aq ?_ ?_<;>intro hw<;>try omega|fail
          refine⟨(3,σ3),⟨.inr (.inr (.inr ⟨rfl,by simpa[rJ,ov,ug]using AP⟩)),dV.trans (kG.trans uh),keep (kG.trans uh)⟩,(by dsimp only;decide),rfl,cZ,at_⟩)
       | exact a_
     ·repeat' first|refine au ?_|refine aq ?_ ?_<;>intro hw<;>try omega|fail
      all_goals first
       | exact⟨rfl,PV,dV⟩
       | exact a_
    ·have pa:=L1 a (by simp) ha;have pb:=L1 b (by simp) hb';have hf:=zO op;have hsl:=PN op
     have hW:dR (.mk op v0 [] [a,b])=kS a (if(cn op).level=3 then 4 else(cn op).level)++[32]++(cn op).sign++[32]++kS b ((cn op).level+1):=by
      simp only[dR,qL,n7];rw[if_neg (by omega),if_neg (by omega),if_neg (by omega),if_neg (by omega)];rfl
     rw[hW]at hlen ⊢;rw[yu]at Ed hlv;clear hW yu afa hL;have hg1:∀ {σ':ae} {o o':bj},jI k (σ++[o]++[o']) σ'->(∀ T xs,o≠ .cj (some T) E1 xs)->σ'[σ.length]? = some o:=fun dV yw=>dV.2 σ.length _ (by simp) (by omega) yw;have Ti:∀ {σ':ae} {o o':bj},jI k (σ++[o]++[o']) σ'->(∀ T xs,o'≠ .cj (some T) E1 xs)->σ'[σ.length+1]? = some o':=fun dV yw=>dV.2 (σ.length+1) _ (by simp) (by omega) yw;simp only[List.length_append,List.length_cons,List.length_nil]at hlen;simp only[Po]at hf;generalize hBB:cn op=B at *;obtain⟨bop,sg,lvl⟩:=B;dsimp only at *;simp only[bf,cJ,bq a,bq b]at Ed ⊢;by_cases h3:lvl=3
     ·subst h3;simp only[if_true]at hlen ⊢;have pa:=pa 4;have pb:=pb (3+1);generalize kS a 4=t1 at *;generalize kS b (3+1)=t2 at *;simp only[Int.reduceAdd]at pb;refine iU.go ?_;unfold dO;intro Q aB aC aD;repeat' first|simp (disch:=omega) only[go_sem,aB,aC,aD,Int.reduceAdd]|refine au ?_|with_reducible refine cI (pa _ k t ((hb.push _).push _) (by omega)) ?_|refine aq ?_ ?_<;>intro hw<;>try omega|fail
      all_goals first
       | (rintro o σ1 ⟨rfl, gG, dV⟩
          have rC:=hg1 dV (fun _ _=>by simp);have lU:=Ti dV (fun _ _=>by simp);repeat' first|simp (disch:=omega) only[go_sem,aB,aC,aD,rC,lU]|refine au ?_|with_reducible refine cI (Builder_WriteString pQ _ k _ _ gG (by simp only[List.length_append,List.length_cons,List.length_nil];omega)) ?_|refine aq ?_ ?_<;>intro hw<;>try omega|fail
          rintro o σ2 ⟨rfl,AP,kG⟩;have rC:=kG.2 _ _ rC (by omega) (fun _ _=>by simp);have lU:=kG.2 _ _ lU (by omega) (fun _ _=>by simp);repeat' first|simp (disch:=omega) only[go_sem,aB,aC,aD,rC,lU,Int.toNat_one,Int.reduceAdd]|refine au ?_|with_reducible refine cI (pb _ k _ AP (by simp only[List.length_append,List.length_cons,List.length_nil];omega)) ?_|refine aq ?_ ?_<;>intro hw<;>try omega|fail
          rintro o σ3 ⟨rfl,X3,uh⟩;repeat' first|refine au ?_|refine aq ?_ ?_<;>intro hw<;>try omega|fail
          exact⟨rfl,by simpa using X3,((dV.trans kG).trans uh).rm.rm⟩)
       | exact a_
     ·simp only[if_neg h3]at hlen ⊢;have pa:=pa lvl;have pb:=pb (lvl+1);generalize kS a lvl=t1 at *;generalize kS b (lvl+1)=t2 at *;refine iU.go ?_;unfold dO;intro Q aB aC aD;repeat' first|simp (disch:=omega) only[go_sem,aB,aC,aD,Int.reduceAdd]|refine au ?_|with_reducible refine cI (pa _ k t ((hb.push _).push _) (by omega)) ?_|refine aq ?_ ?_<;>intro hw<;>try omega|fail
      all_goals first
       | (rintro o σ1 ⟨rfl, gG, dV⟩
          have rC:=hg1 dV (fun _ _=>by simp);have lU:=Ti dV (fun _ _=>by simp);repeat' first|simp (disch:=omega) only[go_sem,aB,aC,aD,rC,lU]|refine au ?_|with_reducible refine cI (Builder_WriteString pQ _ k _ _ gG (by simp only[List.length_append,List.length_cons,List.length_nil];omega)) ?_|refine aq ?_ ?_<;>intro hw<;>try omega|fail
          rintro o σ2 ⟨rfl,AP,kG⟩;have rC:=kG.2 _ _ rC (by omega) (fun _ _=>by simp);have lU:=kG.2 _ _ lU (by omega) (fun _ _=>by simp);repeat' first|simp (disch:=omega) only[go_sem,aB,aC,aD,rC,lU,Int.toNat_one,Int.reduceAdd]|refine au ?_|with_reducible refine cI (pb _ k _ AP (by simp only[List.length_append,List.length_cons,List.length_nil];omega)) ?_|refine aq ?_ ?_<;>intro hw<;>try omega|fail
          rintro o σ3 ⟨rfl,X3,uh⟩;repeat' first|refine au ?_|refine aq ?_ ?_<;>intro hw<;>try omega|fail
          exact⟨rfl,by simpa using X3,((dV.trans kG).trans uh).rm.rm⟩)
       | exact a_
   intro lv σ k t hb hlen;by_cases hlv:ef op<lv
   ·rw[PO (x:= .mk op v s l) hlv]at hlen ⊢;rw[List.length_cons,List.length_append,List.length_cons,List.length_nil]at hlen;have Df:=hb.lt;have pn:∀ {σ':ae} {o:bj},jI k (σ++[o]) σ'->(∀ T xs,o≠ .cj (some T) E1 xs)->σ'[σ.length]? = some o:=fun dV yw=>dV.2 σ.length _ (by simp) (by omega) yw;have sA:=fun σ t h1 h2=>Vk 0 σ k t (by show ¬ ef op<0;have:0<=ef op:=afa;omega) h1 h2;clear Vk;generalize dR (.mk op v s l)=w at *;simp only[Expr.acd,Expr.aeY,Expr.aeZ,Expr.ae0]at hL ⊢;generalize ef op=Ee at *;refine iU.go ?_;unfold dO;intro Q aB aC aD;repeat' first|refine au ?_|with_reducible refine cI (Builder_WriteByte pQ _ k t 40 40 rfl (hb.push _) (by omega)) ?_|refine aq ?_ ?_<;>intro hw<;>try omega|fail
    all_goals first
     | (rintro o σ1 ⟨rfl, gG, dV⟩
        have rC:=pn dV (fun _ _=>by simp);repeat' first|simp (disch:=omega) only[go_sem,aB,aC,aD,rC]|refine au ?_|with_reducible refine cI (sA _ _ gG (by simp only[List.length_append,List.length_cons,List.length_nil];omega)) ?_|refine aq ?_ ?_<;>intro hw<;>try omega|fail
        rintro o σ2 ⟨rfl,AP,kG⟩;repeat' first|refine au ?_|with_reducible refine cI (Builder_WriteByte pQ _ k _ 41 41 rfl AP (by simp only[List.length_append,List.length_cons,List.length_nil];omega)) ?_|refine aq ?_ ?_<;>intro hw<;>try omega|fail
        rintro o σ3 ⟨rfl,X3,uh⟩;repeat' first|refine au ?_|refine aq ?_ ?_<;>intro hw<;>try omega|fail
        exact⟨rfl,by simpa using X3,((dV.trans kG).trans uh).rm⟩)
     | exact a_
   ·rw[Hu (x:= .mk op v s l) hlv]at hlen ⊢;exact Vk lv σ k t hlv hb hlen
def Gg(x:Expr)(hx:ig x)(hz:fW x<=2 ^ 30): aM aH 27 [aT x] (.bH [.str (nK x).1,I (nK x).2]):=by
 have h1:=D4 x hx (by omega);have h2:=zP x (by omega);have h3:=fun hr=>Vj x hr hx 0;have hT:nK x=if cq x=false then([],2)else if 12<kV x then([],12)else if ow x=true then([],5)else (dR x,0):=rfl
 rw[hT];unfold ow;cases hr:cq x with
 | false =>
   rw[if_pos rfl];rw[hr]at h1;rw[bq]at h1 ⊢;refine aR Ar ?_;intro Q aB aC aD;repeat' first|refine au ?_|refine aq ?_ ?_<;>intro hw<;>try omega|fail
   all_goals exact bx rfl rfl
 | true =>
   have h3:=h3 hr;rw[aaC hr]at h3;have hlen:=Vh x hr hx;rw[if_neg (by simp)];rw[hr]at h1;generalize dR x=t at *;generalize kV x=d at *;rw[bq]at h1 h2 ⊢;have hb0:∀ C:bj,oz TW [C,.bM (some TW) [.jA,.aA]] 1 []:=fun C=>⟨_,_,rfl,.inl rfl,.inl ⟨rfl,rfl⟩⟩;refine aR Ar ?_;intro Q aB aC aD;by_cases hd:12<d
   ·simp only[if_pos hd]at aB aC aD;repeat' first|refine au ?_|refine aq ?_ ?_<;>intro hw<;>try omega|fail
    all_goals first|exact bx rfl rfl|exact a_
   ·simp only[if_neg hd,decide_eq_true_eq]at aB aC aD;have Vl:t.length<=2 ^ 38:=by omega
    repeat' first|refine au ?_|with_reducible refine cI (h3 _ 1 [] (hb0 _) (by simpa using Vl)) ?_|refine aq ?_ ?_<;>intro hw<;>try omega|fail
    all_goals first
     | (rintro o σ1 ⟨rfl, gG, _⟩
        try rw[cz]at gG
        repeat' first|refine au ?_|with_reducible refine cI (Builder_Len _ 1 _ gG) ?_|refine aq ?_ ?_<;>intro hw<;>try omega|fail
        rintro o s' ⟨rfl,rfl⟩;by_cases hb:200<t.length
        ·simp only[if_pos hb]at aB aC aD;repeat' first|refine au ?_|refine aq ?_ ?_<;>intro hw<;>try omega|fail
         all_goals first|exact bx rfl rfl|exact a_
        ·simp only[if_neg hb]at aB aC aD;repeat' first|refine au ?_|with_reducible refine cI (Builder_String _ 1 _ gG (by omega)) ?_|refine aq ?_ ?_<;>intro hw<;>try omega|fail
         all_goals first
          | (rintro o σ2 ⟨rfl, _⟩
             repeat' first|refine au ?_|refine aq ?_ ?_<;>intro hw<;>try omega|fail
             exact bx rfl rfl)
          | exact a_)
     | exact a_
