/- Part. -/
import Derived.Test.YtoldfccfpameeaaGreatDoorV09
set_option linter.all false
set_option maxHeartbeats 4000000
namespace Go.Proofs.YtoldfccfpameeaaGreatDoor
open Go.AM
set_option maxRecDepth 4000
abbrev TB: TypeId:=162
abbrev TU: TypeId:=5
def o_(T:TypeId)(σ : ai)(l:Nat)(s:aT): Prop:= ∃ p v,σ[l]? = some (.bV (some T) [p,v])/\(p = .ik\/p = .ref l 0) /\
 ((s=[]/\v = .aU)\/(s≠[]/\ ∃ k,k≠l/\v = .own E1 k s.length 0 s.length/\σ[k]? = some (.dh (some TU) E1 (sS s))))
def j9(l:Nat)(σ σ':ai): Prop:=σ.length<=σ'.length/\ ∀ j o,σ[j]? = some o->j≠l->(∀ T xs,o≠ .dh (some T) E1 xs)->σ'[j]? = some o
def j9.refl(l:Nat)(σ : ai): j9 l σ σ:=⟨bf _,fun _ _ h _ _=>h⟩
def jZ{σ : ai}{l:Nat}{o:aX}(h : σ[l]? = some o): l < σ.length:=(aE.1 h).1
def adh : ∃ fn, Tryz.prog.funcs[174]? = some fn ∧ (fn.name == "runtime.NumGoroutine") = false ∧ fn.body.isNone = true ∧ Extern.findNext fn = none ∧ Extern.find fn = some Extern.AbiNoEscape.same :=
 ⟨_,Tryz.func174,iQ,iQ,iQ,iQ⟩
def FU(T:TypeId): Prop:=liesAt Tryz.prog Tryz.prog.depth T (2 / Tryz.prog.cellsOf T) 0 TB 1=true
def B9: FU TB:=by unfold FU;kernel_rfl
def Builder_copyCheck {T : TypeId} (hT : FU T) (σ : ai) (l : Nat) (p v : AV) (h : σ[l]? = some (.bV (some T) [p, v])) (hp : p = .ik \/ p = .ref l 0) :
    cK aI 132 [.ref l 0] σ fun o σ'=>o = .ret (.bR [])/\σ' = σ.set l (.bV (some T) [.ref l 0,v]):=by
 have sE : σ.set l (.bV (some T) [.ref l 0,v]) = σ\/p = .ik:=by
  rcases hp with rfl|rfl
  ·exact .inr rfl
  left;apply jA;intro k;by_cases e:k=l
  ·subst e;rw[bw (jZ h)];exact h.symm
  rw[aF (Ne.symm e)]
 refine vG.go ?_;unfold dO;intro Q aJ aK aL;rcases hp with rfl|rfl
 ·repeat' first|refine cB h ?_|refine aC ?_|refine ajG h aR ?_|refine afJ adh ?_|refine ajH h hT ?_|refine aB ?_ ?_<;>intro hw<;>try omega|fail
  exact⟨by trivial,by trivial⟩
 rcases sE with sE|sE
 ·repeat' first|refine cB h ?_|refine aC ?_|refine ajI h ?_|refine aB ?_ ?_<;>intro hw<;>try omega|fail
  exact⟨rfl,sE.symm⟩
 ·cases sE
def Builder_Len{T:TypeId}(σ : ai)(l:Nat)(s:aT)(h:o_ T σ l s): cK aI 90 [.ref l 0] σ fun o σ'=>o = .ret (I s.length)/\σ' = σ:=by
 obtain⟨p,v,h1,h2,h3⟩:=h;refine A5.go ?_;unfold dO;intro Q aJ aK aL;rcases h3 with⟨rfl,rfl⟩|⟨h3,k,h4,rfl,h5⟩
 ·repeat' first|refine cB h1 ?_|refine aC ?_|refine aB ?_ ?_<;>intro hw<;>try omega|fail
  exact⟨rfl,trivial⟩
 repeat' first|refine cB h1 ?_|refine aC ?_|refine aB ?_ ?_<;>intro hw<;>try omega|fail
 exact⟨rfl,trivial⟩
def Builder_WriteString {T : TypeId} (hT : FU T) (σ : ai) (l : Nat) (s t : aT) (h : o_ T σ l s) (hlen : s.length + t.length <= 2 ^ 38) :
    cK aI 89 [.ref l 0,.str t] σ fun o σ'=>o = .ret (.bR [I t.length,.jR])/\o_ T σ' l (s++t)/\j9 l σ σ':=by
 obtain⟨p,v,h1,h2,h3⟩:=h;have hl:=jZ h1;refine uB.go ?_;unfold dO;intro Q aJ aK aL;have iJ:=Builder_copyCheck hT σ l p v h1 h2;have sY:(σ.set l (.bV (some T) [.ref l 0,v]))[l]? = some (.bV (some T) [.ref l 0,v]):=by simp[hl]
 have beside:∀ (o:aX),j9 l σ (σ.set l o):=fun o=>⟨aR,fun j o' hj hne _=>by rw[aF (Ne.symm hne)];exact hj⟩;rcases h3 with⟨rfl,rfl⟩|⟨h3,k,h4,rfl,h5⟩
 ·cases t with
  | nil =>
    repeat' first|refine cB sY ?_|refine aC ?_|with_reducible refine bS iJ ?_|refine aB ?_ ?_<;>intro hw<;>try omega|fail
    rintro o s ⟨rfl,rfl⟩;repeat' first|simp (disch:=omega) only[go_sem,aJ,aK,aL,sY,d_]|refine aC ?_|refine aB ?_ ?_<;>intro hw<;>try omega|fail
    exact⟨rfl,⟨_,_,sY,.inr rfl,.inl ⟨rfl,rfl⟩⟩,beside _⟩
  | cons c t =>
    simp only[bu,aO]at hlen;repeat' first|refine cB sY ?_|refine aC ?_|with_reducible refine bS iJ ?_|refine aB ?_ ?_<;>intro hw<;>try omega|fail
    rintro o s ⟨rfl,rfl⟩
    have Dq:∀ o,((σ.set l (.bV (some T) [.ref l 0,.aU]))++[o])[l]? = some (.bV (some T) [.ref l 0,.aU]):=fun o=>by
     rw[aH (by simpa using hl)];exact sY
    repeat' first|simp (disch:=omega) only[go_sem,aJ,aK,aL,sY,Dq,d_]|refine aC ?_|refine aB ?_ ?_<;>intro hw<;>try omega|fail
    rw[iM _ _ (by simpa using hl),d_];refine⟨rfl,⟨.ref l 0,.own E1 σ.length (t.length+1) 0 (t.length+1),?_,.inr rfl,.inr ⟨aR,σ.length,ae,aR,?_⟩⟩,aR,fun j o' hj hne _=>?_⟩
    ·rw[aH (by simpa using hl)];simp[hl]
    ·rw[bq aR];simp
    rw[aH (by simpa using jZ hj),aF (Ne.symm hne)];exact hj
 have hk:=jZ h5;have H_:∀ o,(σ.set l o)[k]? = some (.dh (some TU) E1 (sS s)):=fun o=>by rw[aF (Ne.symm h4)];exact h5
 repeat' first|refine cB sY ?_|refine aC ?_|with_reducible refine bS iJ ?_|refine aB ?_ ?_<;>intro hw<;>try omega|fail
 rintro o s' ⟨rfl,rfl⟩
 have Dq:∀ o,((σ.set l (.bV (some T) [.ref l 0,.own E1 k s.length 0 s.length])).set k o)[l]? = some (.bV (some T) [.ref l 0,.own E1 k s.length 0 s.length]):=fun o=>by
  rw[aF h4];exact sY
 repeat' first|simp (disch:=omega) only[go_sem,aJ,aK,aL,sY,Dq,H_,d_]|refine aC ?_|refine aB ?_ ?_<;>intro hw<;>try omega|fail
 refine⟨rfl,⟨.ref l 0,.own E1 k (s.length+t.length) 0 (s.length+t.length),?_,.inr rfl,.inr ⟨by simp[h3],k,h4,aR,?_⟩⟩,aR,fun j o' hj hne za=>?_⟩
 ·simp[hl]
 ·rw[aF (Ne.symm h4)];simp[hk]
 have Fc:j≠k:=fun e=>by subst e;rw[h5]at hj;cases hj;exact za _ _ rfl
 rw[aF (Ne.symm hne),aF (Ne.symm Fc),aF (Ne.symm hne)];exact hj
def Builder_String{T:TypeId}(σ : ai)(l:Nat)(s:aT)(h:o_ T σ l s)(hs:s.length<=2 ^ 62): cK aI 91 [.ref l 0] σ fun o σ'=>o = .ret (.str s)/\j9 l σ σ':=by
 obtain⟨p,v,h1,h2,h3⟩:=h;refine x4.go ?_;unfold dO;intro Q aJ aK aL;rcases h3 with⟨rfl,rfl⟩|⟨h3,k,h4,rfl,h5⟩
 ·repeat' first|refine cB h1 ?_|refine aC ?_|refine aB ?_ ?_<;>intro hw<;>try omega|fail
  exact⟨rfl,.refl _ _⟩
 have h0:0<s.length:=iR.2 h3;repeat' first|refine cB h1 ?_|refine aC ?_|refine ajJ h5 aR h0 ?_|refine ahG s h5 aR rfl h3 hs rfl ?_|refine aB ?_ ?_<;>intro hw<;>try omega|fail
 refine⟨rfl,aR,fun j o' hj hne za=>?_⟩;have Fc:j≠k:=fun e=>by subst e;rw[h5]at hj;cases hj;exact za _ _ rfl
 rw[aF (Ne.symm Fc)];exact hj
def o_.push{T:TypeId}{σ : ai}{l:Nat}{s:aT}(h:o_ T σ l s)(ρ : ai): o_ T (σ++ ρ) l s:=by
 obtain⟨p,v,h1,h2,h3⟩:=h;refine⟨p,v,by rw[aH (jZ h1)];exact h1,h2,?_⟩;rcases h3 with h3|⟨h3,k,h4,h5,h6⟩
 ·exact .inl h3
 exact .inr ⟨h3,k,h4,h5,by rw[aH (jZ h6)];exact h6⟩
def o_.lt{T:TypeId}{σ : ai}{l:Nat}{s:aT}(h:o_ T σ l s): l < σ.length:=by
 obtain⟨p,v,h1,_⟩:=h;exact jZ h1
def o_.adi{T:TypeId}{σ : ai}{l q:Nat}{s u:aT}{i:Nat}(h:o_ T σ l s)(hq : σ[q]? = some (.jC u i))(o:aX): o_ T (σ.set q o) l s:=by
 obtain⟨p,v,h1,h2,h3⟩:=h;have n1:q≠l:=fun e=>by subst e;rw[hq]at h1;cases h1
 refine⟨p,v,by rw[aF n1];exact h1,h2,?_⟩;rcases h3 with h3|⟨h3,k,h4,h5,h6⟩
 ·exact .inl h3
 have n2:q≠k:=fun e=>by subst e;rw[hq]at h6;cases h6
 exact .inr ⟨h3,k,h4,h5,by rw[aF n2];exact h6⟩
def j9.trans{l:Nat}{σ1 σ2 σ3:ai}(h:j9 l σ1 σ2)(k:j9 l σ2 σ3): j9 l σ1 σ3 :=
 ⟨cZ h.1 k.1,fun j o h1 h2 h3=>k.2 j o (h.2 j o h1 h2 h3) h2 h3⟩
def j9.r9{l:Nat}{σ ρ σ2:ai}(h:j9 l (σ++ ρ) σ2): j9 l σ σ2 :=
 ⟨cZ aR h.1,fun j o h1 h2 h3=>h.2 j o (by rw[aH (jZ h1)];exact h1) h2 h3⟩
def aaz{n:Int}(h:0<=n)(h':n<=4294967295): di .u32 n=n:=by
 show IntKind.wrap .u32 n=n;simp[IntKind.wrap,IntKind.bits,IntKind.signed];omega
def Builder_WriteByte {T : TypeId} (hT : FU T) (σ : ai) (l : Nat) (s : aT) (c : UInt8) (k : Int) (hk : k = c.toNat) (h : o_ T σ l s) (hlen : s.length <= 2 ^ 38) :
    cK aI 170 [.ref l 0,.int .u8 k] σ fun o σ'=>o = .ret .jR/\o_ T σ' l (s++[c])/\j9 l σ σ':=by
 subst hk;obtain⟨p,v,h1,h2,h3⟩:=h;have hl:=jZ h1;refine vE.go ?_;unfold dO;intro Q aJ aK aL;have iJ:=Builder_copyCheck hT σ l p v h1 h2;have sY:(σ.set l (.bV (some T) [.ref l 0,v]))[l]? = some (.bV (some T) [.ref l 0,v]):=by simp[hl]
 rcases h3 with⟨rfl,rfl⟩|⟨h3,k,h4,rfl,h5⟩
 ·repeat' first|refine cB sY ?_|refine aC ?_|with_reducible refine bS iJ ?_|refine aB ?_ ?_<;>intro hw<;>try omega|fail
  rintro o s' ⟨rfl,rfl⟩
  have Dq:∀ o,((σ.set l (.bV (some T) [.ref l 0,.aU]))++[o])[l]? = some (.bV (some T) [.ref l 0,.aU]):=fun o=>by
   rw[aH (by simpa using hl)];exact sY
  repeat' first|simp (disch:=omega) only[go_sem,aJ,aK,aL,sY,Dq,d_]|refine aC ?_|refine aB ?_ ?_<;>intro hw<;>try omega|fail
  rw[iM _ _ (by simpa using hl),d_];refine⟨rfl,⟨.ref l 0,.own E1 σ.length 1 0 1,?_,.inr rfl,.inr ⟨aR,σ.length,ae,aR,?_⟩⟩,aR,fun j o' hj hne _=>?_⟩
  ·rw[aH (by simpa using hl)];simp[hl]
  ·rw[bq aR];simp
  rw[aH (by simpa using jZ hj),aF (Ne.symm hne)];exact hj
 have hk:=jZ h5;have H_:∀ o,(σ.set l o)[k]? = some (.dh (some TU) E1 (sS s)):=fun o=>by rw[aF (Ne.symm h4)];exact h5
 repeat' first|refine cB sY ?_|refine aC ?_|with_reducible refine bS iJ ?_|refine aB ?_ ?_<;>intro hw<;>try omega|fail
 rintro o s' ⟨rfl,rfl⟩
 have Dq:∀ o,((σ.set l (.bV (some T) [.ref l 0,.own E1 k s.length 0 s.length])).set k o)[l]? = some (.bV (some T) [.ref l 0,.own E1 k s.length 0 s.length]):=fun o=>by
  rw[aF h4];exact sY
 repeat' first|simp (disch:=omega) only[go_sem,aJ,aK,aL,sY,Dq,H_,d_]|refine aC ?_|refine aB ?_ ?_<;>intro hw<;>try omega|fail
 refine⟨rfl,⟨.ref l 0,.own E1 k (s.length+1) 0 (s.length+1),?_,.inr rfl,.inr ⟨aR,k,h4,aR,?_⟩⟩,aR,fun j o' hj hne za=>?_⟩
 ·simp[hl]
 ·rw[aF (Ne.symm h4)];simp[hk]
 have Fc:j≠k:=fun e=>by subst e;rw[h5]at hj;cases hj;exact za _ _ rfl
 rw[aF (Ne.symm hne),aF (Ne.symm Fc),aF (Ne.symm hne)];exact hj
def M7 (σ : ai) (k : Nat) (s : aT) (c : UInt8) (hc : c.toNat < 128) (h : σ[k]? = some (.dh (some TU) E1 (sS s))) (hlen : s.length <= 2 ^ 38) :
    cK aI 269 [.own E1 k s.length 0 s.length,.int .i32 c.toNat] σ fun o σ'=>o = .ret (.own E1 k (s.length+1) 0 (s.length+1))/\σ' = σ.set k (.dh (some TU) E1 (sS (s++[c]))):=by
 refine xA.go ?_;unfold dO;intro Q aJ aK aL;repeat' first|simp (disch:=omega) only[go_sem,aJ,aK,aL,h,aaz]|refine aC ?_|refine aB ?_ ?_<;>intro hw<;>try omega|fail
 all_goals first|(refine⟨rfl,?_⟩;simp;done)|exact bI
def xO {T : TypeId} (hT : FU T) (σ : ai) (l : Nat) (s : aT) (c : UInt8) (hc : c.toNat < 128) (h : o_ T σ l s) (hs : s ≠ []) (hlen : s.length <= 2 ^ 38) :
    cK aI 248 [.ref l 0,.int .i32 c.toNat] σ fun o σ'=>(∃ r,o = .ret r)/\o_ T σ' l (s++[c])/\j9 l σ σ':=by
 obtain⟨p,v,h1,h2,h3⟩:=h;have hl:=jZ h1;refine vF.go ?_;unfold dO;intro Q aJ aK aL;have iJ:=Builder_copyCheck hT σ l p v h1 h2;have sY:(σ.set l (.bV (some T) [.ref l 0,v]))[l]? = some (.bV (some T) [.ref l 0,v]):=by simp[hl]
 rcases h3 with⟨rfl,rfl⟩|⟨h3,k,h4,rfl,h5⟩
 ·exact absurd rfl hs
 have hk:=jZ h5;have H_:∀ o,(σ.set l o)[k]? = some (.dh (some TU) E1 (sS s)):=fun o=>by rw[aF (Ne.symm h4)];exact h5
 repeat' first|refine cB sY ?_|refine aC ?_|with_reducible refine bS iJ ?_|refine aB ?_ ?_<;>intro hw<;>try omega|fail
 rintro o s' ⟨rfl,rfl⟩;repeat' first|refine cB sY ?_|refine aC ?_|with_reducible refine bS (M7 _ k s c hc (H_ _) hlen) ?_|refine aB ?_ ?_<;>intro hw<;>try omega|fail
 rintro o s' ⟨rfl,rfl⟩
 have Dq:∀ o,((σ.set l (.bV (some T) [.ref l 0,.own E1 k s.length 0 s.length])).set k o)[l]? = some (.bV (some T) [.ref l 0,.own E1 k s.length 0 s.length]):=fun o=>by
  rw[aF h4];exact sY
 have h1a:∀ o o',(((σ.set l (.bV (some T) [.ref l 0,.own E1 k s.length 0 s.length])).set k o).set l o')[l]? = some o':=fun o o'=>by
  rw[bw (by simpa using hl)]
 repeat' first|simp (disch:=omega) only[go_sem,aJ,aK,aL,sY,Dq,h1a,H_,d_]|refine aC ?_|refine aB ?_ ?_<;>intro hw<;>try omega|fail
 refine⟨⟨_,rfl⟩,⟨.ref l 0,.own E1 k (s.length+1) 0 (s.length+1),?_,.inr rfl,.inr ⟨aR,k,h4,aR,?_⟩⟩,aR,fun j o' hj hne za=>?_⟩
 ·simp[hl]
 ·rw[aF (Ne.symm h4)];simp[hk]
 have Fc:j≠k:=fun e=>by subst e;rw[h5]at hj;cases hj;exact za _ _ rfl
 rw[aF (Ne.symm hne),aF (Ne.symm Fc),aF (Ne.symm hne)];exact hj
def UH(s:aT)(ha:∀ i,i<s.length->(s.getD i 0).toNat<128)(hs:s.length<=2 ^ 36): aQ aI 213 [.str s] (.str (y9 s)):=by
 refine aY MX ?_;intro Q aJ aK aL;have hb0:o_ TB [.bV (some TB) [.ik,.aU]] 0 []:=⟨_,_,rfl,.inl rfl,.inl ⟨rfl,rfl⟩⟩;repeat' first|refine aC ?_|with_reducible refine bS (Builder_WriteByte B9 _ 0 _ 34 34 rfl hb0 aR) ?_|refine aB ?_ ?_<;>intro hw<;>try omega|fail
 rintro o σ ⟨rfl,t_,_⟩;repeat' first|refine aC ?_|refine aB ?_ ?_<;>intro hw<;>try omega|fail
 generalize hq : σ.length=q at *;with_reducible refine bG [5,1,9,11] (fun x:Nat × ai=>[]) (fun x=>x.2) (fun x=>x.1<=s.length/\o_ TB x.2 0 (34::(s.take x.1).flatMap o9)/\x.2[q]? = some (.jC s x.1)) (fun x=>s.length-x.1) (0,σ++[.jC s 0]) ?_ ?_ ?_ ?_
 ·exact⟨ew _,by simpa using t_.push _,by rw[<-hq];simp⟩
 ·rfl
 ·exact at_
 clear t_ hb0 hq;rintro⟨i,σ⟩ r ⟨h1,h2,h3⟩;dsimp only at h1 h2 h3;have hql:=OG (s.take i);rw[dL]at hql;have Od:(34::(s.take i).flatMap o9).length<=2 ^ 37+1:=by rw[aO];omega
 by_cases hi:i<s.length
 ·have hai:=ha i hi;have ht:=X5 hi;have hb:=h2.adi h3 (.jC s (i+1));have hne:(34::(s.take i).flatMap o9:aT)≠[]:=aR;have h3':(σ.set q (.jC s (i+1)))[q]? = some (.jC s (i+1)):=by rw[bw (jZ h3)]
  have hq0:q≠0:=fun e=>by
   obtain⟨p,v,k1,_⟩:=h2;rw[e,k1]at h3;cases h3
  generalize (s.take i).flatMap o9=acc at *;by_cases hc:(s.getD i 0).toNat=34\/(s.getD i 0).toNat=92
  ·rw[o9,au hc]at ht;repeat' first|refine cB h3 ?_|refine aC ?_|with_reducible refine bS (Builder_WriteByte B9 _ 0 _ 92 92 rfl hb ae) ?_|refine aB ?_ ?_<;>intro hw<;>try omega|fail
   all_goals first
    | (rintro o σ1 ⟨rfl, t_, eF⟩
       have h3a:=eF.2 q _ h3' hq0 (fun _ _=>by simp);repeat' first|refine aC ?_|with_reducible refine bS (xO B9 _ 0 _ (s.getD i 0) hai t_ aR (by simp only[aA,aO,bu];omega)) ?_|refine aB ?_ ?_<;>intro hw<;>try omega|fail
       rintro o σ2 ⟨⟨rr,rfl⟩,iE,kZ⟩;repeat' first|refine aC ?_|refine aB ?_ ?_<;>intro hw<;>try omega|fail
       refine⟨(i+1,σ2),⟨?_,?_,?_⟩,?_,rfl,c8,at_⟩
       ·dsimp only;omega
       ·dsimp only;rw[ht];simpa using iE
       ·exact kZ.2 q _ h3a hq0 (fun _ _=>by simp)
       ·dsimp only;omega)
    | exact bI
  rw[o9,aj hc]at ht;repeat' first|refine cB h3 ?_|refine aC ?_|with_reducible refine bS (xO B9 _ 0 _ (s.getD i 0) hai hb hne ae) ?_|refine aB ?_ ?_<;>intro hw<;>try omega|fail
  all_goals first
   | (rintro o σ2 ⟨⟨rr, rfl⟩, iE, kZ⟩
      repeat' first|refine aC ?_|refine aB ?_ ?_<;>intro hw<;>try omega|fail
      refine⟨(i+1,σ2),⟨?_,?_,?_⟩,?_,rfl,c8,at_⟩
      ·dsimp only;omega
      ·dsimp only;rw[ht];simpa using iE
      ·exact kZ.2 q _ h3' hq0 (fun _ _=>by simp)
      ·dsimp only;omega)
   | exact bI
 have mg:i=s.length:=ae;have zQ:s.take i=s:=bH ae;rw[zQ]at h2 Od;simp only[aO]at Od;repeat' first|refine cB h3 ?_|refine aC ?_|with_reducible refine bS (Builder_WriteByte B9 _ 0 _ 34 34 rfl h2 (by simp only[aO];omega)) ?_|refine aB ?_ ?_<;>intro hw<;>try omega|fail
 rintro o σ1 ⟨rfl,t_,_⟩;repeat' first|refine aC ?_|with_reducible refine bS (Builder_String _ 0 _ t_ (by simp only[aA,aO,bu];omega)) ?_|refine aB ?_ ?_<;>intro hw<;>try omega|fail
 rintro o σ2 ⟨rfl,_⟩;repeat' first|refine aC ?_|refine aB ?_ ?_<;>intro hw<;>try omega|fail
 refine a_ ?_ rfl;simp[y9]
def Sz{s:aT}(h:mj s=true): ∀ i,i<s.length->(s.getD i 0).toNat<128:=by
 intro i hi;simp only[mj,aD,aZ]at h;have:=h.2 (s.getD i 0) (by rw[aq,aG hi];exact dK hi);rw[Dg]at this;omega
def X8(v:aW)(h0 : -9223372036854775808<=v.n)(h1:v.n<=9223372036854775807)(hr:bZ v=true): aQ aI 171 [cR v] (.bR [.str (Dp v),I 0]):=by
 obtain⟨k,n,s⟩:=v;dsimp only at h0 h1;have c1:=lR k n s h0 h1;rw[hr]at c1;simp only[ji,if_true]at c1;have c2:=strconv_Itoa n h0 h1
 have c3:k=2->aQ aI 213 [.str s] (.str (y9 s)):=fun hk=>by
  unfold bZ at hr;dsimp only at hr;rw[aj ae,aj ae,au hk]at hr;simp only[aD]at hr;have hp:=hr.2;refine UH s (Sz hp) ?_;simp only[mj,aD,aM]at hp;omega
 have c4:=fun b=>strconv_FormatBool b;clear hr;have hS:Dp ⟨k,n,s⟩=if k=1 then Lib.itoa n else if k=2 then y9 s else if k=3 then(if n=1 then Ah else wV)else Le:=rfl
 rw[hS];clear hS;generalize Lib.itoa n=t1 at *;generalize y9 s=t2 at *;simp only[cR];by_cases k2:k=2
 ·have c5:=c3 k2;clear c3;subst k2;refine aY D9 ?_;intro Q aJ aK aL;repeat' first|refine aC ?_|refine aB ?_ ?_<;>intro hw<;>try omega|fail
  all_goals (refine cg ?_ rfl;simp)
 clear c3;refine aY D9 ?_;intro Q aJ aK aL;repeat' first|refine aC ?_|refine eS (c4 _) ?_|refine aB ?_ ?_<;>intro hw<;>try omega|fail
 all_goals (refine cg ?_ rfl;simp_all[Ah,wV,Le])
abbrev TW: TypeId:=206
def qA: FU TW:=by unfold FU;kernel_rfl
def SA(x:Expr): aQ aI 169 [bt x] (I (fJ x.op)):=by
 have hf:=Bb x.op;have hS:fJ x.op=if x.op=16 then 0 else if x.op=3 then 6 else if x.op=1\/x.op=2 then 7 else(fg x.op).level:=rfl
 rw[hS];clear hS;simp only[Sb]at hf;generalize fg x.op=b at *;rw[bK];refine aY K0 ?_;intro Q aJ aK aL;repeat' first|refine aC ?_|refine aB ?_ ?_<;>intro hw<;>try omega|fail
 all_goals (refine a_ ?_ rfl;simp_all)
def aeQ(x:Expr): Prop:= ∀(lv:Int) (σ : ai) (l:Nat) (s:aT),o_ TW σ l s->s.length+(lC x lv).length<=2 ^ 38 ->
 cK aI 124 [.ref l 0,.agg [I x.op,I x.v.kind,I x.v.n,.str x.v.s,.str x.s,.aS false EX (x.l.map bt)],I lv] σ fun o σ'=>o = .ret (.bR [])/\o_ TW σ' l (s++lC x lv)/\j9 l σ σ'
def X9(x:Expr): dY x=true->jj x->aeQ x:=by
 induction x using Expr.ind with
 | h op v s l ih =>
   intro hr hx;have ahX:=Ef hr;have hL:=SA (.mk op v s l);rw[bK]at hL;simp only[jj]at hx;obtain⟨hs,hvs,hv1,hv2,hl⟩:=hx;have Oi:∀ y ∈ l,dY y=true->aeQ y:=fun y hy hry=>ih y hy hry (B6 hl hy)
   have X_:∀ (lv:Int) (σ : ai) (k:Nat) (t:aT),¬ fJ op<lv->o_ TW σ k t->t.length+(fV (.mk op v s l)).length<=2 ^ 38 ->
    cK aI 124 [.ref k 0,.agg [I op,I v.kind,I v.n,.str v.s,.str s,.aS false EX (l.map bt)],I lv] σ fun o σ'=>o = .ret (.bR [])/\o_ TW σ' k (t++fV (.mk op v s l))/\j9 k σ σ':=by
    intro lv σ k t hlv hb hlen;have zO:=hb.lt;have t_:=fun o:aX=>hb.push [o];have wU:∀ {σ':ai} {o:aX},j9 k (σ++[o]) σ'->(∀ T xs,o≠ .dh (some T) E1 xs)->σ'[σ.length]? = some o:=fun eF za=>eF.2 σ.length _ aR ae za;have FV:=hL;simp only[Expr.aeO,Expr.ahI,Expr.ahJ,Expr.ahK]at FV;rcases wu hr with⟨rfl,rfl,rfl,h1,_⟩|⟨rfl,rfl,rfl,h1⟩|⟨rfl,rfl,rfl,a,rfl,ha⟩|⟨rfl,rfl,rfl,a,b,c,rfl,ha,hb',hc⟩|⟨o1,o2,rfl,rfl,lv1,lv5,X6,_,_,a,b,rfl,ha,hb'⟩
    ·have ht:=X8 v hv1 hv2 h1;have hW:fV (.mk 1 v [] [])=Dp v:=by simp[fV,uJ]
     rw[hW]at hlen ⊢;generalize Dp v=tv at *;generalize fJ 1=lv1 at *;simp only[cR]at ht;simp only[cY]at FV ⊢;refine jD.go ?_;unfold dO;intro Q aJ aK aL;repeat' first|refine aC ?_|with_reducible refine bS (Builder_WriteString qA _ k t tv (t_ _) ae) ?_|refine aB ?_ ?_<;>intro hw<;>try omega|fail
     all_goals first
      | (rintro o σ1 ⟨rfl, iE, eF⟩
         repeat' first|refine aC ?_|refine aB ?_ ?_<;>intro hw<;>try omega|fail
         exact⟨rfl,iE,eF.r9⟩)
      | exact bI
    ·have hW:fV (.mk 2 v0 s [])=s:=by simp[fV,uJ]
     rw[hW]at hlen ⊢;generalize fJ 2=lv1 at *;simp only[cY]at FV ⊢;refine jD.go ?_;unfold dO;intro Q aJ aK aL;repeat' first|refine aC ?_|with_reducible refine bS (Builder_WriteString qA _ k t s (t_ _) ae) ?_|refine aB ?_ ?_<;>intro hw<;>try omega|fail
     all_goals first
      | (rintro o σ1 ⟨rfl, iE, eF⟩
         repeat' first|refine aC ?_|refine aB ?_ ?_<;>intro hw<;>try omega|fail
         exact⟨rfl,iE,eF.r9⟩)
      | exact bI
    ·have pa:=Oi a aR ha;have hW:fV (.mk 3 v0 [] [a])=45::lC a 6:=by simp[fV,wW,uJ,lC]
     rw[hW,aO]at hlen;rw[hW];have pa:=pa 6;generalize lC a 6=t1 at *;generalize fJ 3=lv1 at *;simp only[bB,cY,bK a]at FV ⊢;refine jD.go ?_;unfold dO;intro Q aJ aK aL;repeat' first|refine aC ?_|with_reducible refine bS (Builder_WriteByte qA _ k t 45 45 rfl (t_ _) ae) ?_|refine aB ?_ ?_<;>intro hw<;>try omega|fail
     all_goals first
      | (rintro o σ1 ⟨rfl, iE, eF⟩
         have sx:=wU eF (fun _ _=>by simp);repeat' first|refine cB sx ?_|refine aC ?_|with_reducible refine bS (pa _ k _ iE (by simp only[aA,aO,bu];omega)) ?_|refine aB ?_ ?_<;>intro hw<;>try omega|fail
         rintro o σ2 ⟨rfl,B_,kZ⟩;repeat' first|refine aC ?_|refine aB ?_ ?_<;>intro hw<;>try omega|fail
         exact⟨rfl,by simpa using B_,(eF.trans kZ).r9⟩)
      | exact bI
    ·have pa:=Oi a aR ha 0;have pb:=Oi b aR hb' 0;have pc:=Oi c aR hc 0;have hW:fV (.mk 16 v0 [] [a,b,c])=tQ++lC a 0++rD++lC b 0++y_++lC c 0:=by simp[fV,wW,uJ,lC]
     rw[hW]at hlen ⊢;simp only[aA,tQ,rD,y_,aO,bu]at hlen;generalize lC a 0=t1 at *;generalize lC b 0=t2 at *;generalize lC c 0=t3 at *;generalize fJ 16=lv1 at *;simp only[bB,cY,bK a,bK b,bK c]at FV ⊢;refine jD.go ?_;unfold dO;intro Q aJ aK aL;repeat' first|refine aC ?_|refine aB ?_ ?_<;>intro hw<;>try omega|fail
     all_goals try (exfalso;omega)
     obtain⟨C,hC⟩:∃ C,C=aX.cells [I 16,I v0.kind,I v0.n,.str v0.s,.str [],.aS false EX [.agg [I a.op,I a.v.kind,I a.v.n,.str a.v.s,.str a.s,.aS false EX (a.l.map bt)],.agg [I b.op,I b.v.kind,I b.v.n,.str b.v.s,.str b.s,.aS false EX (b.l.map bt)],.agg [I c.op,I c.v.kind,I c.v.n,.str c.v.s,.str c.s,.aS false EX (c.l.map bt)]]]:=⟨_,rfl⟩;have hCn:∀ T xs,C≠ .dh (some T) E1 xs:=by rw[hC];intro T xs h;cases h
     with_reducible refine bG [8,2,98,17] (fun x:Int × ai=>[(98,I x.1)]) (fun x=>x.2) (fun x=>(x.1=0/\o_ TW x.2 k t\/x.1=1/\o_ TW x.2 k (t++(tQ++t1))\/x.1=2/\o_ TW x.2 k (t++(tQ++t1++rD++t2))\/x.1=3/\o_ TW x.2 k (t++(tQ++t1++rD++t2++y_++t3)))/\j9 k σ x.2/\x.2[σ.length]? = some C) (fun x=>(3-x.1).toNat) (0,σ++[C]) ?_ ?_ ?_ ?_
     ·exact⟨.inl ⟨rfl,hb.push _⟩,(j9.refl k (σ++[C])).r9,aR⟩
     ·rw[hC]
     ·exact at_
     rintro⟨i,σ1⟩ r ⟨hi,eF,sx⟩;dsimp only at hi eF sx;have keep:∀ {σ2:ai},j9 k σ1 σ2->σ2[σ.length]? = some C:=fun h=>h.2 _ _ sx ae hCn;rcases hi with⟨rfl,Kv⟩|⟨rfl,Kv⟩|⟨rfl,Kv⟩|⟨rfl,Kv⟩
     ·repeat' first|simp (disch:=omega) only[go_sem,aJ,aK,aL,show(0:Int).toNat=0 from rfl]|refine aC ?_|with_reducible refine bS (Builder_WriteString qA _ k _ _ Kv (by simp;omega)) ?_|refine aB ?_ ?_<;>intro hw<;>try omega|fail
      all_goals first
       | (rintro o σ2 ⟨rfl, iE, kZ⟩
          have nM:=keep kZ;rw[hC]at nM;repeat' first|simp (disch:=omega) only[go_sem,aJ,aK,aL,nM,show(0:Int).toNat=0 from rfl]|refine aC ?_|with_reducible refine bS (pa _ k _ iE (by simp[tQ];omega)) ?_|refine aB ?_ ?_<;>intro hw<;>try omega|fail
          rintro o σ3 ⟨rfl,B_,uK⟩;repeat' first|refine aC ?_|refine aB ?_ ?_<;>intro hw<;>try omega|fail
          refine⟨(1,σ3),⟨.inr (.inl ⟨rfl,by simpa[tQ]using B_⟩),eF.trans (kZ.trans uK),keep (kZ.trans uK)⟩,(by dsimp only;decide),rfl,c8,at_⟩)
       | exact bI
     ·repeat' first|simp (disch:=omega) only[go_sem,aJ,aK,aL,Int.toNat_one]|refine aC ?_|with_reducible refine bS (Builder_WriteString qA _ k _ _ Kv (by simp[tQ];omega)) ?_|refine aB ?_ ?_<;>intro hw<;>try omega|fail
      all_goals first
       | (rintro o σ2 ⟨rfl, iE, kZ⟩
          have nM:=keep kZ;rw[hC]at nM;repeat' first|simp (disch:=omega) only[go_sem,aJ,aK,aL,nM,Int.toNat_one]|refine aC ?_|with_reducible refine bS (pb _ k _ iE (by simp[tQ,rD];omega)) ?_|refine aB ?_ ?_<;>intro hw<;>try omega|fail
          rintro o σ3 ⟨rfl,B_,uK⟩;repeat' first|refine aC ?_|refine aB ?_ ?_<;>intro hw<;>try omega|fail
          refine⟨(2,σ3),⟨.inr (.inr (.inl ⟨rfl,by simpa[tQ,rD]using B_⟩)),eF.trans (kZ.trans uK),keep (kZ.trans uK)⟩,(by dsimp only;decide),rfl,c8,at_⟩)
       | exact bI
     ·repeat' first|simp (disch:=omega) only[go_sem,aJ,aK,aL,show(2:Int).toNat=2 from rfl]|refine aC ?_|with_reducible refine bS (Builder_WriteString qA _ k _ _ Kv (by simp[tQ,rD];omega)) ?_|refine aB ?_ ?_<;>intro hw<;>try omega|fail
      all_goals first
       | (rintro o σ2 ⟨rfl, iE, kZ⟩
          have nM:=keep kZ;rw[hC]at nM;repeat' first|simp (disch:=omega) only[go_sem,aJ,aK,aL,nM,show(2:Int).toNat=2 from rfl]|refine aC ?_|with_reducible refine bS (pc _ k _ iE (by simp[tQ,rD,y_];omega)) ?_|refine aB ?_ ?_<;>intro hw<;>try omega|fail
          rintro o σ3 ⟨rfl,B_,uK⟩;repeat' first|refine aC ?_|refine aB ?_ ?_<;>intro hw<;>try omega|fail
          refine⟨(3,σ3),⟨.inr (.inr (.inr ⟨rfl,by simpa[tQ,rD,y_]using B_⟩)),eF.trans (kZ.trans uK),keep (kZ.trans uK)⟩,(by dsimp only;decide),rfl,c8,at_⟩)
       | exact bI
     repeat' first|refine aC ?_|refine aB ?_ ?_<;>intro hw<;>try omega|fail
     all_goals first
      | exact⟨rfl,Kv,eF⟩
      | exact bI
    have pa:=Oi a aR ha;have pb:=Oi b aR hb';have hf:=Bb op;have hsl:=Sx op
    have hW:fV (.mk op v0 [] [a,b])=lC a (if(fg op).level=3 then 4 else(fg op).level)++[32]++(fg op).sign++[32]++lC b ((fg op).level+1):=by
     simp only[fV,wW,uJ];rw[aj ae,aj ae,aj ae,aj ae];rfl
    rw[hW]at hlen ⊢;rw[X6]at FV hlv;clear hW X6 ahX hL;have hg1:∀ {σ':ai} {o o':aX},j9 k (σ++[o]++[o']) σ'->(∀ T xs,o≠ .dh (some T) E1 xs)->σ'[σ.length]? = some o:=fun eF za=>eF.2 σ.length _ aR ae za;have hg2:∀ {σ':ai} {o o':aX},j9 k (σ++[o]++[o']) σ'->(∀ T xs,o'≠ .dh (some T) E1 xs)->σ'[σ.length+1]? = some o':=fun eF za=>eF.2 (σ.length+1) _ aR ae za;simp only[aA,aO,bu]at hlen;simp only[Sb]at hf;generalize hBB:fg op=B at *;obtain⟨bop,sg,lvl⟩:=B;dsimp only at *;simp only[bB,cY,bK a,bK b]at FV ⊢;by_cases h3:lvl=3
    ·subst h3;simp only[if_true]at hlen ⊢;have pa:=pa 4;have pb:=pb (3+1);generalize lC a 4=t1 at *;generalize lC b (3+1)=t2 at *;simp only[Int.reduceAdd]at pb;refine jD.go ?_;unfold dO;intro Q aJ aK aL;repeat' first|simp (disch:=omega) only[go_sem,aJ,aK,aL,Int.reduceAdd]|refine aC ?_|with_reducible refine bS (pa _ k t ((hb.push _).push _) ae) ?_|refine aB ?_ ?_<;>intro hw<;>try omega|fail
     all_goals first
      | (rintro o σ1 ⟨rfl, iE, eF⟩
         have sx:=hg1 eF (fun _ _=>by simp);have nM:=hg2 eF (fun _ _=>by simp);repeat' first|refine cB (zA sx nM) ?_|refine aC ?_|with_reducible refine bS (Builder_WriteString qA _ k _ _ iE (by simp only[aA,aO,bu];omega)) ?_|refine aB ?_ ?_<;>intro hw<;>try omega|fail
         rintro o σ2 ⟨rfl,B_,kZ⟩;have sx:=kZ.2 _ _ sx ae (fun _ _=>by simp);have nM:=kZ.2 _ _ nM ae (fun _ _=>by simp);repeat' first|simp (disch:=omega) only[go_sem,aJ,aK,aL,sx,nM,Int.toNat_one,Int.reduceAdd]|refine aC ?_|with_reducible refine bS (pb _ k _ B_ (by simp only[aA,aO,bu];omega)) ?_|refine aB ?_ ?_<;>intro hw<;>try omega|fail
         rintro o σ3 ⟨rfl,hb4,uK⟩;repeat' first|refine aC ?_|refine aB ?_ ?_<;>intro hw<;>try omega|fail
         exact⟨rfl,by simpa using hb4,((eF.trans kZ).trans uK).r9.r9⟩)
      | exact bI
    simp only[aj h3]at hlen ⊢;have pa:=pa lvl;have pb:=pb (lvl+1);generalize lC a lvl=t1 at *;generalize lC b (lvl+1)=t2 at *;refine jD.go ?_;unfold dO;intro Q aJ aK aL;repeat' first|simp (disch:=omega) only[go_sem,aJ,aK,aL,Int.reduceAdd]|refine aC ?_|with_reducible refine bS (pa _ k t ((hb.push _).push _) ae) ?_|refine aB ?_ ?_<;>intro hw<;>try omega|fail
    all_goals first
     | (rintro o σ1 ⟨rfl, iE, eF⟩
        have sx:=hg1 eF (fun _ _=>by simp);have nM:=hg2 eF (fun _ _=>by simp);repeat' first|refine cB (zA sx nM) ?_|refine aC ?_|with_reducible refine bS (Builder_WriteString qA _ k _ _ iE (by simp only[aA,aO,bu];omega)) ?_|refine aB ?_ ?_<;>intro hw<;>try omega|fail
        rintro o σ2 ⟨rfl,B_,kZ⟩;have sx:=kZ.2 _ _ sx ae (fun _ _=>by simp);have nM:=kZ.2 _ _ nM ae (fun _ _=>by simp);repeat' first|simp (disch:=omega) only[go_sem,aJ,aK,aL,sx,nM,Int.toNat_one,Int.reduceAdd]|refine aC ?_|with_reducible refine bS (pb _ k _ B_ (by simp only[aA,aO,bu];omega)) ?_|refine aB ?_ ?_<;>intro hw<;>try omega|fail
        rintro o σ3 ⟨rfl,hb4,uK⟩;repeat' first|refine aC ?_|refine aB ?_ ?_<;>intro hw<;>try omega|fail
        exact⟨rfl,by simpa using hb4,((eF.trans kZ).trans uK).r9.r9⟩)
     | exact bI
   intro lv σ k t hb hlen;by_cases hlv:fJ op<lv
   ·rw[Sy (x:= .mk op v s l) hlv]at hlen ⊢;rw[aO,aA,aO,bu]at hlen;have zO:=hb.lt;have wU:∀ {σ':ai} {o:aX},j9 k (σ++[o]) σ'->(∀ T xs,o≠ .dh (some T) E1 xs)->σ'[σ.length]? = some o:=fun eF za=>eF.2 σ.length _ aR ae za;have sA:=fun σ t h1 h2=>X_ 0 σ k t (by show ¬ fJ op<0;have:0<=fJ op:=ahX;omega) h1 h2;clear X_;generalize fV (.mk op v s l)=w at *;simp only[Expr.aeO,Expr.ahI,Expr.ahJ,Expr.ahK]at hL ⊢;generalize fJ op=lv1 at *;refine jD.go ?_;unfold dO;intro Q aJ aK aL;repeat' first|refine aC ?_|with_reducible refine bS (Builder_WriteByte qA _ k t 40 40 rfl (hb.push _) ae) ?_|refine aB ?_ ?_<;>intro hw<;>try omega|fail
    all_goals first
     | (rintro o σ1 ⟨rfl, iE, eF⟩
        have sx:=wU eF (fun _ _=>by simp);repeat' first|refine cB sx ?_|refine aC ?_|with_reducible refine bS (sA _ _ iE (by simp only[aA,aO,bu];omega)) ?_|refine aB ?_ ?_<;>intro hw<;>try omega|fail
        rintro o σ2 ⟨rfl,B_,kZ⟩;repeat' first|refine aC ?_|with_reducible refine bS (Builder_WriteByte qA _ k _ 41 41 rfl B_ (by simp only[aA,aO,bu];omega)) ?_|refine aB ?_ ?_<;>intro hw<;>try omega|fail
        rintro o σ3 ⟨rfl,hb4,uK⟩;repeat' first|refine aC ?_|refine aB ?_ ?_<;>intro hw<;>try omega|fail
        exact⟨rfl,by simpa using hb4,((eF.trans kZ).trans uK).r9⟩)
     | exact bI
   rw[Jz (x:= .mk op v s l) hlv]at hlen ⊢;exact X_ lv σ k t hlv hb hlen
def Ia(x:Expr)(hx:jj x)(hz:gM x<=2 ^ 30): aQ aI 80 [bt x] (.bR [.str (Ak x).1,I (Ak x).2]):=by
 have h1:=FJ x hx ae;have h2:=Bc x ae;have h3:=fun hr=>X9 x hr hx 0;have hT:Ak x=if dY x=false then([],2)else if 12<mH x then([],12)else if qF x=true then([],5)else (fV x,0):=rfl
 rw[hT];unfold qF;cases hr:dY x with
 | false =>
   rw[au rfl];rw[hr]at h1;rw[bK]at h1 ⊢;refine aY BU ?_;intro Q aJ aK aL;repeat' first|refine aC ?_|refine aB ?_ ?_<;>intro hw<;>try omega|fail
   all_goals exact cg rfl rfl
 | true =>
   have h3:=h3 hr;rw[adg hr]at h3;have hlen:=X7 x hr hx;rw[aj aR];rw[hr]at h1;generalize fV x=t at *;generalize mH x=d at *;rw[bK]at h1 h2 ⊢;have hb0:∀ C:aX,o_ TW [C,.bV (some TW) [.ik,.aU]] 1 []:=fun C=>⟨_,_,rfl,.inl rfl,.inl ⟨rfl,rfl⟩⟩;refine aY BU ?_;intro Q aJ aK aL;by_cases hd:12<d
   ·simp only[au hd]at aJ aK aL;repeat' first|refine aC ?_|refine aB ?_ ?_<;>intro hw<;>try omega|fail
    all_goals first|exact cg rfl rfl|exact bI
   simp only[aj hd,aM]at aJ aK aL;have aeR:t.length<=2 ^ 38:=ae;repeat' first|refine aC ?_|with_reducible refine bS (h3 _ 1 [] (hb0 _) (by simpa using aeR)) ?_|refine aB ?_ ?_<;>intro hw<;>try omega|fail
   all_goals first
    | (rintro o σ1 ⟨rfl, iE, _⟩
       try rw[bX]at iE
       repeat' first|refine aC ?_|with_reducible refine bS (Builder_Len _ 1 _ iE) ?_|refine aB ?_ ?_<;>intro hw<;>try omega|fail
       rintro o s' ⟨rfl,rfl⟩;by_cases hb:200<t.length
       ·simp only[au hb]at aJ aK aL;repeat' first|refine aC ?_|refine aB ?_ ?_<;>intro hw<;>try omega|fail
        all_goals first|exact cg rfl rfl|exact bI
       ·simp only[aj hb]at aJ aK aL;repeat' first|refine aC ?_|with_reducible refine bS (Builder_String _ 1 _ iE ae) ?_|refine aB ?_ ?_<;>intro hw<;>try omega|fail
        all_goals first
         | (rintro o σ2 ⟨rfl, _⟩
            repeat' first|refine aC ?_|refine aB ?_ ?_<;>intro hw<;>try omega|fail
            exact cg rfl rfl)
         | exact bI)
    | exact bI
def loW(t:Test): aT:=if t.lo then [93]else [91]
def hiW(t:Test): aT:=if t.hi then [91]else [93]
def testW(t:Test): aT:=if t.kind=1 then lC t.a 4 else if t.kind=6 then loW t++lC t.a 4++[46,46]++lC t.b 4++hiW t else mI t.kind++[32]++lC t.a 4
def sG(t:Test): Bool:=qF t.a ||(decide (t.kind=6) && qF t.b)
def Bi: aT:=[44,32]
def Lo(l:List Test): aT:=Lib.join (l.map testW) Bi
def M8(n:Bool)(s:aT): aT:=if n then [110,111,116,40]++s++[41]else s
def Hg(c:Cell): aT × Int:=if jJ c=false then([],2)else if c.any=true then([45],0)else if c.tests.any sG=true then([],5)
 else if 200<(M8 c.neg (Lo c.tests)).length then([],5)else (M8 c.neg (Lo c.tests),0)
def zb(t:Test): Prop:=(jj t.a/\gM t.a<=2 ^ 30)/\jj t.b/\gM t.b<=2 ^ 30
def pS(c:Cell): Prop:=c.tests.length<=2 ^ 30/\ ∀ t ∈ c.tests,zb t
def pS.ok{c:Cell}(h:pS c): OC c:=⟨by have:=h.1;omega,fun t ht=>by
 obtain⟨⟨a,b⟩,c,d⟩:=h.2 t ht;exact⟨⟨a,ae⟩,c,ae⟩⟩
def ahY{x:Expr}(h:dY x=true): fJ x.op<4↔8<=x.op/\x.op<=16:=by
 obtain⟨op,v,s,l⟩:=x;rcases wu h with⟨rfl,_⟩|⟨rfl,_⟩|⟨rfl,_⟩|⟨rfl,_⟩|⟨_,_,_,_,_,_,h1,h2,h3,_⟩
 ·show fJ 1<4↔8<=(1:Int)/\(1:Int)<=16;decide
 ·show fJ 2<4↔8<=(2:Int)/\(2:Int)<=16;decide
 ·show fJ 3<4↔8<=(3:Int)/\(3:Int)<=16;decide
 ·show fJ 16<4↔8<=(16:Int)/\(16:Int)<=16;decide
 show fJ op<4↔8<=op/\op<=16;rw[h1];generalize fg op=b at *;simp only[lf,fY,fF,or_false]at h3;rcases h3 with rfl|rfl|rfl|rfl|rfl|rfl|rfl|rfl|rfl|rfl|rfl|rfl<;>(dsimp only at h2 ⊢;omega)
def aaA{x:Expr}(h:pR x=true): dY x=true/\Ak x=if qF x=true then([],5)else (fV x,0):=by
 simp only[pR,aD,aM]at h;refine⟨h.1,?_⟩;unfold Ak;rw[aj (by simp[h.1]),aj ae]
def wX{x:Expr}(h:qF x=false)(lv:Int): (lC x lv).length<=202:=by
 simp only[qF,decide_eq_false_iff_not]at h;have:=Ln (fJ x.op,fV x) lv;dsimp only at this;unfold lC;omega
def Lr(x:Expr)(hp:pR x=true)(hx:jj x)(hz:gM x<=2 ^ 30): aQ aI 164 [bt x] (.bR [.str (if qF x=true then []else lC x 4),I (if qF x=true then 5 else 0)]):=by
 obtain⟨hr,ht⟩:=aaA hp;have h1:=Ia x hx hz;have h4:=ahY hr;have hsm:=fun h=>wX (x:=x) h 4;rw[ht]at h1;cases hb:qF x with
 | true =>
   rw[hb]at h1;simp only[if_true]at h1 ⊢;rw[bK]at h1 ⊢;refine aY xo ?_;intro Q aJ aK aL;repeat' first|refine aC ?_|refine aB ?_ ?_<;>intro hw<;>try omega|fail
   all_goals exact cg rfl rfl
 | false =>
   have hsm:=hsm hb;rw[hb]at h1;simp only[aP,if_false]at h1 ⊢;by_cases hl:fJ x.op<4
   ·have ho:=h4.1 hl;rw[Sy hl]at hsm ⊢;rw[aO,aA]at hsm;generalize fV x=t at *;rw[bK]at h1 ⊢;refine aY xo ?_;intro Q aJ aK aL;repeat' first|refine aC ?_|refine aB ?_ ?_<;>intro hw<;>try omega|fail
    all_goals first|(refine cg ?_ rfl;simp;done)|exact bI
   have ho:¬ (8<=x.op/\x.op<=16):=fun h=>hl (h4.2 h);rw[Jz hl]at hsm ⊢;generalize fV x=t at *;rw[bK]at h1 ⊢;refine aY xo ?_;intro Q aJ aK aL;repeat' first|refine aC ?_|refine aB ?_ ?_<;>intro hw<;>try omega|fail
   all_goals first|(refine cg ?_ rfl;simp;done)|exact bI
def UI{t:Test}(h:o8 t=true): pR t.a=true/\1<=t.kind/\t.kind<=6/\(t.kind=6->pR t.b=true):=by
 unfold o8 at h;split at h
 ·rename_i h6;simp only[aD]at h;exact⟨h.1,ae,ae,fun _=>h.2⟩
 rename_i h6;simp only[aD,aM]at h;exact⟨h.1.1.1.2,h.1.1.1.1.1,ae,fun h=>absurd h h6⟩
def OH{t:Test}(h:sG t=false): (testW t).length<=420:=by
 simp only[sG,Bool.or_eq_false_iff,Bool.and_eq_false_iff,decide_eq_false_iff_not]at h;have ha:=wX h.1 4;have hs:(mI t.kind).length<=2:=by unfold mI;split;simp;split;simp;split;simp;split<;>simp
 unfold testW;split
 ·omega
 split
 ·rename_i h6;have hb:=wX (x:=t.b) (by rcases h.2 with h|h;exact absurd h6 h;exact h) 4;have l1:(loW t).length=1:=by unfold loW;split<;>rfl
  have l2:(hiW t).length=1:=by unfold hiW;split<;>rfl
  simp only[aA,aO,bu];omega
 simp only[aA,aO,bu];omega
def aaB(t:Test)(hs:o8 t=true)(h:zb t): aQ aI 120 [dR t] (.bR [.str (if sG t=true then []else testW t),I (if sG t=true then 5 else 0)]):=by
 obtain⟨p1,k1,k6,p2⟩:=UI hs;have wa:=Lr t.a p1 h.1.1 h.1.2;have hsg:=OD t.kind;have la:=fun hb=>wX (x:=t.a) hb 4;have lb:=fun hb=>wX (x:=t.b) hb 4;by_cases h6:t.kind=6
 ·have wb:=Lr t.b (p2 h6) h.2.1 h.2.2;have hW:testW t=loW t++lC t.a 4++[46,46]++lC t.b 4++hiW t:=by unfold testW;rw[if_neg ae,if_pos h6]
  have hB:sG t=(qF t.a || qF t.b):=by unfold sG;rw[decide_eq_true h6,Bool.true_and]
  rw[hW,hB];unfold loW hiW;clear hW hB p1 p2 hs;generalize lC t.a 4=ta at *;generalize lC t.b 4=tb at *;generalize qF t.a=ba at *;generalize qF t.b=bb at *;rw[bK]at wa wb;simp only[dR,eA];cases ba<;>simp only[Bool.false_eq_true,if_false,if_true,Bool.true_or,Bool.false_or]at wa la ⊢
  ·have la:=la trivial;cases bb<;>simp only[Bool.false_eq_true,if_false,if_true]at wb lb ⊢
   ·have lb:=lb trivial;refine aY rh ?_;intro Q aJ aK aL;repeat' first|refine aC ?_|refine aB ?_ ?_<;>intro hw<;>try omega|fail
    all_goals first|(refine cg ?_ rfl;simp_all;done)|exact bI
   refine aY rh ?_;intro Q aJ aK aL;repeat' first|refine aC ?_|refine aB ?_ ?_<;>intro hw<;>try omega|fail
   all_goals first|(refine cg ?_ rfl;simp_all;done)|exact bI
  refine aY rh ?_;intro Q aJ aK aL;repeat' first|refine aC ?_|refine aB ?_ ?_<;>intro hw<;>try omega|fail
  all_goals first|(refine cg ?_ rfl;simp_all;done)|exact bI
 have hW:testW t=if t.kind=1 then lC t.a 4 else mI t.kind++[32]++lC t.a 4:=by unfold testW;rw[if_neg h6]
 have hB:sG t=qF t.a:=by unfold sG;rw[decide_eq_false h6,Bool.false_and,Bool.or_false]
 have hsl:(mI t.kind).length<=2:=by unfold mI;split;simp;split;simp;split;simp;split<;>simp
 rw[hW,hB];clear hW hB p1 p2 hs;generalize lC t.a 4=ta at *;generalize qF t.a=ba at *;generalize mI t.kind=sg at *;rw[bK]at wa;simp only[dR,eA];cases ba<;>simp only[Bool.false_eq_true,if_false,if_true]at wa la ⊢
 ·have la:=la trivial;refine aY rh ?_;intro Q aJ aK aL;repeat' first|refine aC ?_|refine aB ?_ ?_<;>intro hw<;>try omega|fail
  all_goals first|(refine cg ?_ rfl;simp_all;done)|exact bI
 refine aY rh ?_;intro Q aJ aK aL;repeat' first|refine aC ?_|refine aB ?_ ?_<;>intro hw<;>try omega|fail
 all_goals first|(refine cg ?_ rfl;simp_all;done)|exact bI
def FW{sep:aT}{B:Nat}: ∀(r:List aT),(∀ x ∈ r,x.length<=B)->(Lib.joinTail sep r).length<=r.length*(B+sep.length)
 | [],_=>by simp[Lib.joinTail]
 | x :: r, h => by
   have h1:=h x aR;have h2:=FW (sep:=sep) r (fun y hy=>h y (dm _ hy));have e:Lib.joinTail sep (x::r)=sep++x++Lib.joinTail sep r:=by simp[Lib.joinTail]
   rw[e,aA,aA,aO,cj];omega
def adj{sep:aT}{B:Nat}(l:List aT)(h:∀ x ∈ l,x.length<=B): (Lib.join l sep).length<=l.length*(B+sep.length):=by
 cases l with
 | nil=>simp[Lib.join_nil]
 | cons x r =>
   have h1:=h x aR;have h2:=FW (sep:=sep) r (fun y hy=>h y (dm _ hy));rw[Lib.join_cons,aA,aO,cj];omega
def ahZ{l:List Test}{i:Nat}(h:i<l.length): (l.map testW).take (i+1)=(l.map testW).take i++[testW (l.getD i default)]:=by
 rw[dz (by simpa using h)];simp[h]
def afX{l:List Test}{n:Nat}(h:∀ k,k<n->k<l.length->sG (l.getD k default)=false): ∀ x ∈ (l.map testW).take n,x.length<=420:=by
 intro x hx;obtain⟨k,hk,rfl⟩:=bP hx;simp only[dL,dF]at hk;have:=OH (h k ae ae);have e:l.getD k default=l[k]'ae:=by simp[aq,show k<l.length by omega]
 rw[e]at this;simpa using this
def aaC(c:Cell)(h:pS c): aQ aI 79 [ei c] (.bR [.str (Hg c).1,I (Hg c).2]):=by
 have SB:=ya c h.ok
 have hT:Hg c=if jJ c=false then([],2)else if c.any=true then([45],0)else if c.tests.any sG=true then([],5)
  else if 200<(M8 c.neg (Lo c.tests)).length then([],5)else (M8 c.neg (Lo c.tests),0):=rfl
 rw[hT];clear hT;cases hr:jJ c with
 | false =>
   rw[hr]at SB;simp only[ji,aP,if_false]at SB;rw[au rfl];simp only[ei,jt]at SB ⊢;refine aY yU ?_;intro Q aJ aK aL;repeat' first|refine aC ?_|refine aB ?_ ?_<;>intro hw<;>try omega|fail
   all_goals exact cg rfl rfl
 | true =>
   rw[hr]at SB;simp only[ji,if_true]at SB;rw[aj aR];cases ha:c.any with
   | true =>
     rw[au rfl];simp only[ei,jt,ha]at SB ⊢;refine aY yU ?_;intro Q aJ aK aL;repeat' first|refine aC ?_|refine aB ?_ ?_<;>intro hw<;>try omega|fail
     all_goals exact cg rfl rfl
   | false =>
     rw[aj aR];have Eg:=hr;unfold jJ at Eg;rw[aj (by simp[ha])]at Eg;simp only[aD,aM,ey,List.any_eq_false]at Eg;obtain⟨⟨l1,l12⟩,hsd⟩:=Eg;have hsd:∀ t ∈ c.tests,o8 t=true:=fun t ht=>by have:=hsd t ht;simpa using this
     simp only[ei,jt,ha]at SB ⊢;refine aY yU ?_;intro Q aJ aK aL;repeat' first|refine aC ?_|refine aB ?_ ?_<;>intro hw<;>try omega|fail
     with_reducible refine bG [2,2,5,1,7,3,21,17] (fun q:Nat × List aX=>[(21,I q.1),(5,.own E1 1 q.1 0 q.1)]) (fun q=> .cells [.bool false,.bool c.neg,.aS false ES (c.tests.map dR)]:: .vec E1 (((c.tests.map testW).take q.1).map eZ)::q.2) (fun q=>q.1<=c.tests.length/\ ∀ k,k<q.1->sG (c.tests.getD k default)=false) (fun q=>c.tests.length-q.1) (0,[]) ?_ ?_ ?_ ?_
     ·simp
     ·simp
     ·exact at_
     rintro⟨i,τ⟩ r ⟨h1,h2⟩;dsimp only at h1 h2;by_cases hi:i<c.tests.length
     ·have hmem:=bx hi;have ht:=aaB _ (hsd _ hmem) (h.2 _ hmem);have hwt:=ahZ hi;have eF:=fun he=>cn h2 (i:=i) he;have JA:=fun hb=>aah (p:=sG) hi hb;have hwl:=fun hb=>OH (t:=c.tests.getD i default) hb;have hvl:((c.tests.map testW).take i).length=i:=by rw[dL,dF];omega
      generalize hVV:(c.tests.map testW).take i=V at *;obtain⟨t,Jy⟩:=cq (c.tests.getD i default);rw[Jy]at ht hwt eF JA hwl;simp only[dR,eA]at ht;generalize testW t=tw at *;cases hb:sG t with
      | true =>
        rw[hb]at ht;simp only[if_true]at ht;have JA:=JA hb;simp only[JA,if_true]at aJ aK aL;repeat' first|refine cB Jy ?_|refine aC ?_|refine aB ?_ ?_<;>intro hw<;>try omega|fail
        all_goals first|exact cg rfl rfl|exact bI
      | false =>
        rw[hb]at ht;simp only[aP,if_false]at ht;have eF:=eF hb;repeat' first|refine cB (zA Jy hvl) ?_|refine aC ?_|refine aB ?_ ?_<;>intro hw<;>try omega|fail
        all_goals first
         | (refine ⟨(i + 1, τ ++ [.cells [I t.kind, I t.a.op, I t.a.v.kind, I t.a.v.n, .str t.a.v.s, .str t.a.s, .aS false EX (t.a.l.map bt), I t.b.op, I t.b.v.kind, I t.b.v.n, .str t.b.v.s, .str t.b.s, .aS false EX (t.b.l.map bt), .bool t.lo, .bool t.hi]]), ?_, ?_, ?_, c8, at_⟩ <;> (try dsimp only)
            ·exact⟨ae,eF⟩
            ·omega
            all_goals (rw[hwt];simp[eZ]))
         | exact bI
     have zQ:(c.tests.map testW).take i=c.tests.map testW:=bH (by simp;omega);have mg:i=c.tests.length:=ae;have hnb:c.tests.any sG=false:=VM (p:=sG) (fun k hk=>h2 k ae);have hws:=afX (l:=c.tests) (n:=i) (fun k hk _=>h2 k hk);rw[zQ]at hws ⊢;have sy:=adj (sep:=Bi) _ hws;rw[dF]at sy;have hj:=strings_Join (c.tests.map testW) Bi (by simp;omega) (by simp only[Bi,List.length_cons,List.length_nil]at sy;have:c.tests.length*(420+(0+1+1))<=12*422:=Nat.mul_le_mul l12 (Nat.le_refl _);unfold Bi;omega)
     have al4:(Lib.join (c.tests.map testW) Bi).length<=12*422:=by
      simp only[Bi,aO,bu]at sy;have:c.tests.length*(420+(0+1+1))<=12*422:=Nat.mul_le_mul l12 (bf _);unfold Bi;omega
     have hlw:(c.tests.map testW).length=i:=by rw[dF];omega
     simp only[hnb,aP,if_false,Lo]at aJ aK aL;clear sy;obtain⟨J,hJ⟩:=cq (Lib.join (c.tests.map testW) Bi);rw[hJ]at hj al4;simp only[hJ]at aJ aK aL;clear hJ;simp only[jL,Bi]at hj;have hvw:∀ σ : ai,σ[1]? = some (.vec E1 ((c.tests.map testW).map eZ))->cN σ [.own E1 1 i 0 i,.str [44,32]] [.aS false E1 ((c.tests.map testW).map eZ),.str [44,32]]:=fun σ iz=> .cons (View.vec iz (by rw[dF,hlw]) (by rw[dF,hlw]) (uF _)) (.cons (.refl _ rfl) (.nil _));cases hn:c.neg with
     | true =>
       simp only[hn,M8,if_true]at aJ aK aL;by_cases hbig:200<([110,111,116,40]++J++[41]:aT).length
       ·simp only[au hbig]at aJ aK aL;simp only[aA,aO,bu]at hbig;repeat' first|refine aC ?_|(with_reducible refine vD hj (hvw _ rfl) rfl ?_)|refine aB ?_ ?_<;>intro hw<;>try omega|fail
        all_goals first|exact cg rfl rfl|exact bI
       simp only[aj hbig]at aJ aK aL;simp only[aA,aO,bu]at hbig;repeat' first|refine aC ?_|(with_reducible refine vD hj (hvw _ rfl) rfl ?_)|refine aB ?_ ?_<;>intro hw<;>try omega|fail
       all_goals first|(refine cg ?_ rfl;simp;done)|exact bI
     | false =>
       simp only[hn,M8,aP,if_false]at aJ aK aL;by_cases hbig:200<J.length
       ·simp only[au hbig]at aJ aK aL;repeat' first|refine aC ?_|(with_reducible refine vD hj (hvw _ rfl) rfl ?_)|refine aB ?_ ?_<;>intro hw<;>try omega|fail
        all_goals first|exact cg rfl rfl|exact bI
       simp only[aj hbig]at aJ aK aL;repeat' first|refine aC ?_|(with_reducible refine vD hj (hvw _ rfl) rfl ?_)|refine aB ?_ ?_<;>intro hw<;>try omega|fail
       all_goals first|exact cg rfl rfl|exact bI
def xD (fn : FuncId) (cap : List AV) (hcap : AV.cE cap = true) (p : cJ -> Bool) (l : List cJ) (h : ∀ k, k < l.length -> aQ aI fn (dU (l.getD k default) :: cap) (.bool (p (l.getD k default)))) (hl : l.length <= 2 ^ 62) :
    aQ aI 179 [b_ l,.fn (.func fn) [] cap] (.bool (l.any p)):=by
 refine aY ve ?_ (by simp[AV.dy,AV.cE,hcap,j7]);intro Q aJ aK aL;have hc:=sB fn cap hcap p l h hl;simp only[b_]at hc;repeat' first|refine aC ?_|refine aB ?_ ?_<;>intro hw<;>try omega|fail
 all_goals refine a_ ?_ rfl
 all_goals rw[<-vS]
def sC (fn : FuncId) (cap : List AV) (hcap : AV.cE cap = true) (p : cJ -> cJ -> Bool) (l m : List cJ)
    (h:∀ k,k<l.length->k<m.length->aQ aI fn (dU (l.getD k default)::dU (m.getD k default)::cap) (.bool (p (l.getD k default) (m.getD k default)))) (hl:l.length<=2 ^ 62) (hm:m.length<=2 ^ 62) :
    aQ aI 125 [b_ l,b_ m,.fn (.func fn) [] cap] (.bool (fq p l m)):=by
 refine aY xu ?_ (by simp[AV.dy,AV.cE,hcap,j7]);intro Q aJ aK aL;repeat' first|refine aC ?_|refine aB ?_ ?_<;>intro hw<;>try omega|fail
 ·refine a_ ?_ rfl;rw[oW ae]
 have rq:l.length=m.length:=ae;with_reducible refine bG [6,4,17,15] (fun p:Nat × List aX=>[(17,I p.1)]) (fun p=>p.2) (fun q=>q.1<=l.length/\ ∀ k,k<q.1->p (l.getD k default) (m.getD k default)=true) (fun p=>l.length-p.1) (0,[]) ?_ ?_ ?_ ?_
 ·simp
 ·rfl
 ·exact at_
 rintro⟨i,τ⟩ r ⟨h1,h2⟩;dsimp only at h1 h2;by_cases hi:i<l.length
 ·have hy:=h i hi ae;simp only[dR,dU,fZ,mF,ei,eA,jt,br,jL,sR]at hy;repeat' first|refine aC ?_|refine aB ?_ ?_<;>intro hw<;>try omega|fail
  ·refine a_ ?_ rfl;rw[rj hi hw ae]
  refine⟨(i+1,τ++[.cells [.str (l.getD i default).name,I (l.getD i default).kind,.aS false EV ((l.getD i default).order.map cR)]]++[.cells [.str (m.getD i default).name,I (m.getD i default).kind,.aS false EV ((m.getD i default).order.map cR)]]),?_,?_,by first|rfl|(simp[go_sem];done),c8,at_⟩<;>(try dsimp only)
  ·exact⟨ae,cn h2 hw⟩
  omega
 repeat' first|refine aC ?_|refine aB ?_ ?_<;>intro hw<;>try omega|fail
 refine a_ ?_ rfl;rw[oX rq (fun k hk=>h2 k ae)]
def Ca (fn : FuncId) (cap : List AV) (hcap : AV.cE cap = true) (p : h_ -> h_ -> Bool) (l m : List h_)
    (h:∀ k,k<l.length->k<m.length->aQ aI fn (fZ (l.getD k default)::fZ (m.getD k default)::cap) (.bool (p (l.getD k default) (m.getD k default)))) (hl:l.length<=2 ^ 62) (hm:m.length<=2 ^ 62) :
    aQ aI 127 [eL l,eL m,.fn (.func fn) [] cap] (.bool (fq p l m)):=by
 refine aY yX ?_ (by simp[AV.dy,AV.cE,hcap,rZ]);intro Q aJ aK aL;repeat' first|refine aC ?_|refine aB ?_ ?_<;>intro hw<;>try omega|fail
 ·refine a_ ?_ rfl;rw[oW ae]
 have rq:l.length=m.length:=ae;with_reducible refine bG [6,4,17,15] (fun p:Nat × List aX=>[(17,I p.1)]) (fun p=>p.2) (fun q=>q.1<=l.length/\ ∀ k,k<q.1->p (l.getD k default) (m.getD k default)=true) (fun p=>l.length-p.1) (0,[]) ?_ ?_ ?_ ?_
 ·simp
 ·rfl
 ·exact at_
 rintro⟨i,τ⟩ r ⟨h1,h2⟩;dsimp only at h1 h2;by_cases hi:i<l.length
 ·have hy:=h i hi ae;simp only[dR,dU,fZ,mF,ei,eA,jt,br,jL,sR]at hy;repeat' first|refine aC ?_|refine aB ?_ ?_<;>intro hw<;>try omega|fail
  ·refine a_ ?_ rfl;rw[rj hi hw ae]
  refine⟨(i+1,τ++[.cells [.aS false E1 ((l.getD i default).cells.map eZ),.aS false E1 ((l.getD i default).outs.map eZ)]]++[.cells [.aS false E1 ((m.getD i default).cells.map eZ),.aS false E1 ((m.getD i default).outs.map eZ)]]),?_,?_,by first|rfl|(simp[go_sem];done),c8,at_⟩<;>(try dsimp only)
  ·exact⟨ae,cn h2 hw⟩
  omega
 repeat' first|refine aC ?_|refine aB ?_ ?_<;>intro hw<;>try omega|fail
 refine a_ ?_ rfl;rw[oX rq (fun k hk=>h2 k ae)]
def M9(v u:aW): (v==u)=((v.kind==u.kind) && (v.n==u.n) && (v.s==u.s)):=by
 obtain⟨a,b,c⟩:=v;obtain⟨d,e,f⟩:=u;rw[cQ];simp[and_assoc]
def rF(l:List aW)(v:aW)(hl:l.length<=2 ^ 60): aQ aI 218 [br l,cR v] (I (kP (fun x=>x==v) l)):=by
 simp only[br,cR];refine aY B0 ?_;intro Q aJ aK aL;repeat' first|refine aC ?_|refine aB ?_ ?_<;>intro hw<;>try omega|fail
 with_reducible refine bG [4,2,8,11] (fun i:Nat=>[(8,I i)]) (fun _=>[.cells [I v.kind,I v.n,.str v.s]]) (fun i=>i<=l.length/\ ∀ k,k<i->(l.getD k default==v)=false) (fun i=>l.length-i) (0) ?_ ?_ ?_ ?_
 ·simp
 ·rfl
 ·exact at_
 rintro i r ⟨h1,h2⟩;by_cases hi:i<l.length
 ·obtain⟨u,hu⟩:=cq (l.getD i default);have hb:=M9 u v;repeat' first|refine cB hu ?_|refine aC ?_|refine aB ?_ ?_<;>intro hw<;>try omega|fail
  ·refine a_ ?_ rfl;refine bj I ?_;exact(qz (p:=fun x=>x==v) hi h2 (by rw[hu,hb];simp_all)).symm
  refine⟨i+1,?_,?_,by first|rfl|(simp[go_sem];done),c8,at_⟩<;>(try dsimp only)
  ·exact⟨ae,cn h2 (by rw[hu,hb,<-Bool.not_eq_true];simp only[<-Bool.not_eq_true,aD,beq_iff_eq,not_and]at hw ⊢;intro c;exact fun d=>hw ⟨c.1.symm,c.2.symm⟩ d.symm)⟩
  omega
 repeat' first|refine aC ?_|refine aB ?_ ?_<;>intro hw<;>try omega|fail
 refine a_ ?_ rfl;refine bj I ?_;exact(nu (p:=fun x=>x==v) fun k hk=>h2 k ae).symm
def oq(l m:List aW)(hl:l.length<=2 ^ 60)(hm:m.length<=2 ^ 60): aQ aI 66 [br l,br m] (.bool (fq (fun a b=>a==b) l m)):=by
 simp only[br];refine aY BZ ?_;intro Q aJ aK aL;repeat' first|refine aC ?_|refine aB ?_ ?_<;>intro hw<;>try omega|fail
 ·refine a_ ?_ rfl;rw[oW ae]
 have rq:l.length=m.length:=ae;with_reducible refine bG [4,2,13,13] (fun i:Nat=>[(13,I i)]) (fun _=>[]) (fun i=>i<=l.length/\ ∀ k,k<i->(l.getD k default==m.getD k default)=true) (fun i=>l.length-i) (0) ?_ ?_ ?_ ?_
 ·simp
 ·rfl
 ·exact at_
 rintro i r ⟨h1,h2⟩;by_cases hi:i<l.length
 ·have hb:=M9 (l.getD i default) (m.getD i default);repeat' first|refine aC ?_|refine aB ?_ ?_<;>intro hw<;>try omega|fail
  ·refine a_ ?_ rfl;rw[rj (p:=fun a b=>a==b) hi (by rw[hb,<-Bool.not_eq_true];simp_all) ae]
  refine⟨i+1,?_,?_,by first|rfl|(simp[go_sem];done),c8,at_⟩<;>(try dsimp only)
  ·exact⟨ae,cn h2 (by rw[hb];simp_all)⟩
  omega
 repeat' first|refine aC ?_|refine aB ?_ ?_<;>intro hw<;>try omega|fail
 refine a_ ?_ rfl;rw[oX (p:=fun a b=>a==b) rq (fun k hk=>h2 k ae)]
def vt(l m:List aT)(hl:l.length<=2 ^ 60)(hm:m.length<=2 ^ 60): aQ aI 173 [jL l,jL m] (.bool (fq (fun a b=>a==b) l m)):=by
 simp only[jL];refine aY A_ ?_;intro Q aJ aK aL;repeat' first|refine aC ?_|refine aB ?_ ?_<;>intro hw<;>try omega|fail
 ·refine a_ ?_ rfl;rw[oW ae]
 have rq:l.length=m.length:=ae;with_reducible refine bG [4,2,13,13] (fun i:Nat=>[(13,I i)]) (fun _=>[]) (fun i=>i<=l.length/\ ∀ k,k<i->(l.getD k default==m.getD k default)=true) (fun i=>l.length-i) (0) ?_ ?_ ?_ ?_
 ·simp
 ·rfl
 ·exact at_
 rintro i r ⟨h1,h2⟩;by_cases hi:i<l.length
 ·repeat' first|refine aC ?_|refine aB ?_ ?_<;>intro hw<;>try omega|fail
  ·refine a_ ?_ rfl;rw[rj (p:=fun a b=>a==b) hi (by rw[<-Bool.not_eq_true];simp_all) ae]
  refine⟨i+1,?_,?_,by first|rfl|(simp[go_sem];done),c8,at_⟩<;>(try dsimp only)
  ·exact⟨ae,cn h2 (by simp_all)⟩
  omega
 repeat' first|refine aC ?_|refine aB ?_ ?_<;>intro hw<;>try omega|fail
 refine a_ ?_ rfl;rw[oX (p:=fun a b=>a==b) rq (fun k hk=>h2 k ae)]
def Eh(l m:List aW)(hl:l.length<=2 ^ 60)(hm:m.length<=2 ^ 60): aQ aI 71 [br l,br m] (.bool (fq (fun a b=>a==b) l m)):=by
 simp only[br];refine aY Ji ?_;intro Q aJ aK aL;repeat' first|refine aC ?_|refine aB ?_ ?_<;>intro hw<;>try omega|fail
 ·refine a_ ?_ rfl;rw[oW ae]
 have rq:l.length=m.length:=ae;with_reducible refine bG [4,2,11,15] (fun i:Nat=>[(5,I i)]) (fun _=>[]) (fun i=>i<=l.length/\ ∀ k,k<i->(l.getD k default==m.getD k default)=true) (fun i=>l.length-i) (0) ?_ ?_ ?_ ?_
 ·simp
 ·rfl
 ·exact at_
 rintro i r ⟨h1,h2⟩;by_cases hi:i<l.length
 ·have hb:=M9 (l.getD i default) (m.getD i default);repeat' first|refine aC ?_|refine aB ?_ ?_<;>intro hw<;>try omega|fail
  ·refine a_ ?_ rfl;rw[rj (p:=fun a b=>a==b) hi (by rw[hb,<-Bool.not_eq_true];simp_all) ae]
  refine⟨i+1,?_,?_,by first|rfl|(simp[go_sem];done),c8,at_⟩<;>(try dsimp only)
  ·exact⟨ae,cn h2 (by rw[hb];simp_all)⟩
  omega
 repeat' first|refine aC ?_|refine aB ?_ ?_<;>intro hw<;>try omega|fail
 refine a_ ?_ rfl;rw[oX (p:=fun a b=>a==b) rq (fun k hk=>h2 k ae)]
def FX(c:cJ)(k:Nat): Bool:=bZ (c.order.getD k default) && decide ((c.order.getD k default).kind=c.kind) && decide (kP (fun x=>x==c.order.getD k default) c.order=k)
def lD(c:cJ)(asked:Bool): Bool :=
 if asked then(List.range c.order.length).all (FX c) && decide (1<=c.order.length/\c.order.length<=8)else decide (c.order.length=0)
def wv(c:cJ): Prop:=c.name.length<=2 ^ 62/\c.order.length<=2 ^ 60/\ ∀ v ∈ c.order,(-9223372036854775808<=v.n/\v.n<=9223372036854775807)/\v.s.length<=2 ^ 62
def OI{c:cJ}{i:Nat}(hi:i<c.order.length)(h:FX c i=false): lD c true=false:=by
 unfold lD;rw[au rfl]
 have:(List.range c.order.length).all (FX c)=false:=by
  rw[g_];exact⟨i,by simpa using hi,by simp[h]⟩
 rw[this];rfl
def Ya{c:cJ}(h:∀ k,k<c.order.length->FX c k=true): lD c true=decide (1<=c.order.length/\c.order.length<=8):=by
 unfold lD;rw[au rfl]
 have:(List.range c.order.length).all (FX c)=true:=by
  rw[aZ];intro k hk;exact h k (by simpa using hk)
 rw[this];rfl
def SC(c:cJ)(b:Bool)(h:wv c): aQ aI 181 [dU c,.bool b] (.bool (lD c b)):=by
 obtain⟨_,hl,hv⟩:=h;simp only[dU,br];cases b with
 | false =>
   have hS:lD c false=decide (c.order.length=0):=rfl;rw[hS];refine aY Aa ?_;intro Q aJ aK aL;repeat' first|refine aC ?_|refine aB ?_ ?_<;>intro hw<;>try omega|fail
   refine a_ ?_ rfl;refine bj AV.bool ?_;rw[cQ];simp_all
 | true =>
   refine aY Aa ?_;intro Q aJ aK aL;repeat' first|refine aC ?_|refine aB ?_ ?_<;>intro hw<;>try omega|fail
   with_reducible refine bG [4,3,16,24] (fun q:Nat × List aX=>[(16,I q.1)]) (fun q=> .cells [.str c.name,I c.kind,.aS false EV (c.order.map cR)]::q.2) (fun q=>q.1<=c.order.length/\ ∀ k,k<q.1->FX c k=true) (fun q=>c.order.length-q.1) (0,[]) ?_ ?_ ?_ ?_
   ·simp
   ·rfl
   ·exact at_
   rintro⟨i,τ⟩ r ⟨h1,h2⟩;dsimp only at h1 h2;by_cases hi:i<c.order.length
   ·have hvi:=hv _ (bx hi);have hO:FX c i=(bZ (c.order.getD i default) && decide ((c.order.getD i default).kind=c.kind) && decide (kP (fun x=>x==c.order.getD i default) c.order=i)):=rfl;obtain⟨v,adk⟩:=cq (c.order.getD i default);rw[adk]at hvi hO;have c1:=lR v.kind v.n v.s hvi.1.1 hvi.1.2;have c2:=rF c.order v hl;rw[show (⟨v.kind,v.n,v.s⟩:aW)=v from rfl]at c1;simp only[br,cR]at c2;generalize kP (fun x=>x==v) c.order=ix at *;cases SD:bZ v;all_goals (rw[SD]at c1 hO;simp only[ji,aP,if_false,if_true]at c1)
    ·repeat' first|refine cB adk ?_|refine aC ?_|refine aB ?_ ?_<;>intro hw<;>try omega|fail
     all_goals (refine a_ ?_ rfl;rw[OI hi (by rw[hO];rfl)])
    repeat' first|refine cB adk ?_|refine aC ?_|refine aB ?_ ?_<;>intro hw<;>try omega|fail
    all_goals first
     |(refine a_ ?_ rfl;rw[OI hi (by rw[hO];simp_all;done)])
     | (refine ⟨(i + 1, τ ++ [.cells [I v.kind, I v.n, .str v.s]]), ?_, ?_, by first | rfl | (simp [go_sem]; done), c8, at_⟩ <;> (try dsimp only)
        ·exact⟨ae,cn h2 (by rw[hO];simp_all)⟩
        ·omega)
   repeat' first|refine aC ?_|refine aB ?_ ?_<;>intro hw<;>try omega|fail
   all_goals (refine a_ ?_ rfl;rw[Ya (fun k hk=>h2 k ae)];refine bj AV.bool ?_;rw[cQ];simp_all)
   all_goals (try omega)
def mq(l:List cJ)(b:Bool): Int:=if lg l≠0 then lg l else if l.length=0\/(l.any fun c=> !(lD c b))=true then 17 else 0
def JB(c:cJ)(b:Bool)(h:wv c): aQ aI 180 [dU c,.eY E1 (.bool b) 0] (.bool (!(lD c b))):=by
 have h1:=SC c b h;simp only[dU,br]at h1 ⊢;generalize lD c b=o at *;refine aY Ey ?_;intro Q aJ aK aL;repeat' first|refine aC ?_|refine aB ?_ ?_<;>intro hw<;>try omega|fail
 all_goals exact a_ rfl rfl
def Cb(l:List cJ)(b:Bool)(hl:l.length<=2 ^ 60)(h:∀ c ∈ l,wv c): aQ aI 138 [b_ l,.bool b] (I (mq l b)):=by
 have h1:=M5 l (fun k hk=>(h _ (bx hk)).1);have h2:=xD 180 [.eY E1 (.bool b) 0] rfl (fun c=> !(lD c b)) l (fun k hk=>JB _ b (h _ (bx hk))) ae;have hS:mq l b=if lg l≠0 then lg l else if l.length=0\/(l.any fun c=> !(lD c b))=true then 17 else 0:=rfl
 rw[hS];clear hS;simp only[b_]at h1 h2 ⊢;generalize (l.any fun c=> !(lD c b))=an at *;generalize lg l=cs at *;refine aY HB ?_;intro Q aJ aK aL;repeat' first|refine aC ?_|refine HZ h2 ?_|refine aB ?_ ?_<;>intro hw<;>try omega|fail
 all_goals (refine a_ ?_ rfl;refine bj I ?_;simp_all[<-List.length_eq_zero_iff])
 all_goals (try omega)
def mJ(t:Table): Bool :=
 if t.bY<1\/6<t.bY then false else if t.agg=0 then true
 else if t.bY≠5\/t.agg<1\/4<t.agg\/t.outs.length≠1 then false
 else decide (t.agg=4\/(t.outs.getD 0 default).kind=1\/(t.outs.getD 0 default).kind=2/\t.agg≠1)
def jU(t:Table): Int :=
 if iL t.name=false then 13 else if mq t.ins false≠0 then mq t.ins false
 else if mq t.outs (decide (t.bY=3))≠0 then mq t.outs (decide (t.bY=3))
 else if mJ t=false then 17 else if 24<t.rules.length then 24 else 0
def jV(t:Table): Prop:=t.name.length<=2 ^ 30/\(t.ins.length<=2 ^ 30/\ ∀ c ∈ t.ins,wv c)/\(t.outs.length<=2 ^ 30/\ ∀ c ∈ t.outs,wv c) /\
 t.rules.length<=2 ^ 30/\ ∀ r ∈ t.rules,(r.cells.length<=2 ^ 30/\ ∀ s ∈ r.cells,s.length<=2 ^ 30)/\r.outs.length<=2 ^ 30/\ ∀ s ∈ r.outs,s.length<=2 ^ 30
def Dr{l:List cJ}(h:lg l=0){i:Nat}(hi:i<l.length): 1<=(l.getD i default).kind/\(l.getD i default).kind<=3:=by
 by_cases h6:6<l.length
 ·unfold lg at h;rw[if_pos h6]at h;omega
 by_cases hc:∀ k,k<l.length->vT l k=0
 ·have:=hc i hi;unfold vT at this;split at this
  ·omega
  split at this
  ·omega
  omega
 exfalso;unfold lg at h;rw[aj h6]at h;split at h
 ·rename_i j hj;have:=fA hj;simp[h]at this
 rename_i hn;apply hc;intro k hk;have:=fC.1 hn k (by simpa using hk);simpa using this
def rG{l:List cJ}{b:Bool}(h:mq l b=0): lg l=0/\0<l.length:=by
 unfold mq at h;split at h
 ·omega
 split at h
 ·omega
 rename_i h1 h2;refine⟨ae,?_⟩;rcases Nat.eq_zero_or_pos l.length with h3|h3
 ·exact absurd (.inl h3) h2
 exact h3
def Qh(t:Table)(ho:lg t.outs=0): aQ aI 139 [dP t] (.bool (mJ t)):=by
 have hk:=fun h=>Dr ho (i:=0) h;have hS:mJ t=if t.bY<1\/6<t.bY then false else if t.agg=0 then true else if t.bY≠5\/t.agg<1\/4<t.agg\/t.outs.length≠1 then false else decide (t.agg=4\/(t.outs.getD 0 default).kind=1\/(t.outs.getD 0 default).kind=2/\t.agg≠1):=rfl
 rw[hS];clear hS ho;simp only[dP,fU,b_,eL];obtain⟨c,ah0⟩:=cq (t.outs.getD 0 default);rw[ah0]at hk ⊢;refine aY Jk ?_;intro Q aJ aK aL;repeat' first|refine cB ah0 ?_|refine aC ?_|refine aB ?_ ?_<;>intro hw<;>try omega|fail
 all_goals (refine a_ ?_ rfl;refine bj AV.bool ?_;rw[cQ];simp_all)
 all_goals (try omega)
def SE(t:Table)(h:jV t): aQ aI 103 [dP t] (I (jU t)):=by
 obtain⟨h1,h2,h3,h4,_⟩:=h;have c1:=vP t.name ae;have c2:=Cb t.ins false ae h2.2;have c3:=Cb t.outs (decide (t.bY=3)) ae h3.2;have c4:mq t.outs (decide (t.bY=3))=0->aQ aI 139 [dP t] (.bool (mJ t)):=fun hb=>Qh t (rG hb).1;have hS:jU t=if iL t.name=false then 13 else if mq t.ins false≠0 then mq t.ins false else if mq t.outs (decide (t.bY=3))≠0 then mq t.outs (decide (t.bY=3))else if mJ t=false then 17 else if 24<t.rules.length then 24 else 0:=rfl
 rw[hS];clear hS;simp only[dP,fU,b_,eL]at c2 c3 c4 ⊢;generalize iL t.name=n at *;generalize mq t.ins false=a at *;generalize mq t.outs (decide (t.bY=3))=b at *;generalize mJ t=p at *;by_cases hb:b=0
 ·have c5:=c4 hb;clear c4;refine aY z_ ?_;intro Q aJ aK aL;repeat' first|refine aC ?_|refine aB ?_ ?_<;>intro hw<;>try omega|fail
  all_goals (refine a_ ?_ rfl;refine bj I ?_;simp_all)
  all_goals (try omega)
 clear c4;refine aY z_ ?_;intro Q aJ aK aL;repeat' first|refine aC ?_|refine aB ?_ ?_<;>intro hw<;>try omega|fail
 all_goals first
  | exact bI
  |(refine a_ ?_ rfl;refine bj I ?_;simp_all;done)
  |(refine a_ ?_ rfl;refine bj I ?_;simp_all;omega)
def aaD{T:List Tok}(hT:Bg T)(hl:T.length<=2 ^ 20)(p:Nat)(b:Bool): zb (iu T p b).t:=by
 have hx:∀ p b,jj (jY T p b).x/\gM (jY T p b).x<=2 ^ 30:=fun p b=>⟨(Dm hT p b).1,by have:=(Dm hT p b).2;omega⟩;have h0:jj x0/\gM x0<=2 ^ 30:=⟨sX,by simp[x0,gM,nD]⟩;have h1:∀ k p b,zb (tP k (jY T p b)).t:=fun k p b=>⟨hx p b,h0⟩;have h2:∀ lo,zb (OE T p lo).t:=fun lo=>⟨hx _ _,hx _ _⟩;unfold iu;split
 ·exact h1 _ _ _
 split
 ·exact h1 _ _ _
 split
 ·exact h1 _ _ _
 split
 ·exact h1 _ _ _
 split
 ·exact h2 _
 split
 ·exact h2 _
 exact h1 _ _ _
def aaE{T:List Tok}(hT:Bg T)(hl:T.length<=2 ^ 20)(f:Nat): ∀(acc:List Test) (p:Nat) (b:Bool),(∀ t ∈ acc,zb t)->(∀ t ∈ (sW T f acc p b).ts,zb t)/\(sW T f acc p b).ts.length<=acc.length+f:=by
 induction f with
 | zero=>intro acc p b h;exact⟨h,bf _⟩
 | succ f ih =>
   intro acc p b h
   have h2:∀ t ∈ acc++[(iu T p b).t],zb t:=fun t ht=>by
    rcases List.mem_append.1 ht with ht|ht
    ·exact h t ht
    simp only[fY,fF,or_false]at ht;subst ht;exact aaD hT hl p b
   rw[wq];split
   ·have:=ih _ ((iu T p b).p+1) (iu T p b).bad h2;rw[aA,aO,bu]at this;exact⟨this.1,ae⟩
   exact⟨h2,by rw[aA,aO,bu];omega⟩
def Ls(s:aT): pS (mo s).1:=by
 have h:pS ⟨false,sF (dQ s).1,(kV (dQ s).1).ts⟩:=by
  have hf:=(r8 s).1;have:=aaE (Hf s) ae ((dQ s).1.length+1) [] (VY (dQ s).1) false (fun t ht=>by cases ht);unfold kV pS;rw[V6];exact⟨by have:=this.2;simp only[List.length_nil]at this;dsimp only;omega,this.1⟩
 have h0:pS c0:=⟨Nat.zero_le _,fun t ht=>by cases ht⟩;have h1:pS Jx:=⟨Nat.zero_le _,fun t ht=>by cases ht⟩;unfold mo;repeat' split
 all_goals first|exact h0|exact h1|exact h
def Al(s:aT): jj (jS s).1/\gM (jS s).1<=2 ^ 30:=by
 have h:jj (jq (dQ s).1 0 0).1/\gM (jq (dQ s).1 0 0).1<=2 ^ 30:=by
  have hf:=(r8 s).1;have:=Jv (dQ s).1 0 0;exact⟨Ss (Hf s) _ _,ae⟩
 have h0:jj x0/\gM x0<=2 ^ 30:=⟨sX,by simp[x0,gM,nD]⟩;unfold jS;repeat' split
 all_goals first|exact h0|exact h
def SG(t:Table)(k:Nat)(s:aT): Cell × Int:=((mo s).1,if(mo s).2.2=0 then Bh t.ins (t.ins.getD k default).kind (mo s).1 else(mo s).2.2)
def yb(t:Table)(k:Nat)(s:aT): Expr × Int:=((jS s).1,if(jS s).2.2≠0 then(jS s).2.2 else if(jT t.ins (jS s).1).2=0/\cG (jT t.ins (jS s).1).1 (t.outs.getD k default).kind=false then 14 else(jT t.ins (jS s).1).2)
def Yb(t:Table)(k:Nat)(s:aT)(ht:t.ins.length<=2 ^ 30)(hk:k<t.ins.length)(hs:s.length<=2 ^ 30): aQ aI 140 [dP t,I k,.str s] (.bR [ei (SG t k s).1,I (SG t k s).2]):=by
 have c1:=X3 s hs;have c2:=X4 t.ins ae (t.ins.getD k default).kind (mo s).1 (aau s);have hS:SG t k s=((mo s).1,if(mo s).2.2=0 then Bh t.ins (t.ins.getD k default).kind (mo s).1 else(mo s).2.2):=rfl;rw[hS];clear hS;dsimp only;obtain⟨cc,iJ⟩:∃ c,t.ins.getD k default=c:=⟨_,rfl⟩;rw[iJ]at c2 ⊢;generalize Bh t.ins cc.kind (mo s).1=ty at *;generalize mo s=P at *;obtain⟨c,n,e⟩:=P;dsimp only at c1 c2 ⊢;simp only[eC3]at c1;obtain⟨C,hC⟩:=cq (ei c);have hC2:C = .agg [.bool c.any,.bool c.neg,.aS false ES (c.tests.map dR)]:=by rw[<-hC];rfl
 simp only[ei,jt,dP,fU,b_,eL]at c1 c2 ⊢;refine aY PY ?_;intro Q aJ aK aL;repeat' first|refine cB iJ ?_|refine aC ?_|refine aB ?_ ?_<;>intro hw<;>try omega|fail
 all_goals (refine cg ?_ aR;simp_all)
def UJ(t:Table)(k:Nat)(s:aT)(ht:t.ins.length<=2 ^ 30)(ho:t.outs.length<=2 ^ 30)(hk:k<t.outs.length)(hs:s.length<=2 ^ 30): aQ aI 141 [dP t,I k,.str s] (.bR [bt (yb t k s).1,I (yb t k s).2]):=by
 have c1:=Sj s hs;have hp:=Al s;have c2:=y8 t.ins ae (jS s).1 hp.1 (by have:=hp.2;omega);have c3:=oI (jT t.ins (jS s).1).1 (t.outs.getD k default).kind;have hS:yb t k s=((jS s).1,if(jS s).2.2≠0 then(jS s).2.2 else if(jT t.ins (jS s).1).2=0/\cG (jT t.ins (jS s).1).1 (t.outs.getD k default).kind=false then 14 else(jT t.ins (jS s).1).2):=rfl;rw[hS];clear hS hp;dsimp only;obtain⟨cc,iJ⟩:∃ c,t.outs.getD k default=c:=⟨_,rfl⟩;rw[iJ]at c3 ⊢;generalize cG (jT t.ins (jS s).1).1 cc.kind=fi at *;generalize jT t.ins (jS s).1=ki at *;generalize jS s=P at *;obtain⟨x,n,e⟩:=P;dsimp only at c1 c2 ⊢;simp only[Oy]at c1;rw[bK]at c1 c2 ⊢;simp only[eA,dP,fU,b_,eL]at c1 c2 ⊢;refine aY MJ ?_;intro Q aJ aK aL;repeat' first|refine cB iJ ?_|refine aC ?_|refine aB ?_ ?_<;>intro hw<;>try omega|fail
 all_goals (refine cg ?_ aR;simp_all)
def rH(t:Table)(r:h_)(k:Nat): Cell × Int:=SG t k (r.cells.getD k default)
def lA(t:Table)(r:h_)(k:Nat): Expr × Int:=yb t k (r.outs.getD k default)
def mK(t:Table)(r:h_)(n:Nat): List Cell:=(List.range n).map fun k=>(rH t r k).1
def pT(t:Table)(r:h_)(n:Nat): List Expr:=(List.range n).map fun k=>(lA t r k).1
def lU(t:Table)(r:h_): kF × Int × Int :=
 if r.cells.length≠t.ins.length\/r.outs.length≠t.outs.length then(⟨[],[]⟩,0,17)
 else match(List.range r.cells.length).find? (fun k=>(rH t r k).2 != 0)with
 | some k=>(⟨mK t r k,[]⟩,k,(rH t r k).2)
 | none => match (List.range r.outs.length).find? (fun k => (lA t r k).2 != 0) with
   | some k=>(⟨mK t r r.cells.length,pT t r k⟩,t.ins.length+k,(lA t r k).2)
   | none=>(⟨mK t r r.cells.length,pT t r r.outs.length⟩,0,0)
def Lt(t:Table)(r:h_)(n:Nat): mK t r (n+1)=mK t r n++[(rH t r n).1]:=by simp[mK,List.range_succ]
def OJ(t:Table)(r:h_)(n:Nat): pT t r (n+1)=pT t r n++[(lA t r n).1]:=by simp[pT,List.range_succ]
def Am(t:Table)(r:h_)(n:Nat): (mK t r n).length=n:=by simp[mK]
def JC(t:Table)(r:h_)(n:Nat): (pT t r n).length=n:=by simp[pT]
def vU{n i:Nat}{p:Nat->Bool}(hi:i<n)(h:∀ k,k<i->p k=false)(hp:p i=true): (List.range n).find? p=some i:=by
 have:=yp (p:=p) (l:=List.range n) (i:=i) (by simpa using hi) (fun k hk=>by rw[oh ae];exact h k hk) (by rw[oh hi];exact hp);rwa[oh hi]at this
def ot{n:Nat}{p:Nat->Bool}(h:∀ k,k<n->p k=false): (List.range n).find? p=none :=
 vR (fun k hk=>by rw[List.length_range]at hk;rw[oh hk];exact h k hk)
def OL{t:Table}{r:h_}(h:r.cells.length≠t.ins.length\/r.outs.length≠t.outs.length): lU t r=(⟨[],[]⟩,0,17):=by
 unfold lU;rw[if_pos h]
def OM{t:Table}{r:h_}(h1:r.cells.length=t.ins.length)(h2:r.outs.length=t.outs.length){k:Nat}(hk:k<r.cells.length)(h:∀ j,j<k->(rH t r j).2=0)(he:(rH t r k).2≠0): lU t r=((⟨mK t r k,[]⟩:kF),(k:Int),(rH t r k).2):=by
 unfold lU;rw[aj ae,vU (i:=k) hk (fun j hj=>by simp[h j hj]) (by simp[he])]
def Yc{t:Table}{r:h_}(h1:r.cells.length=t.ins.length)(h2:r.outs.length=t.outs.length)(hc:∀ j,j<r.cells.length->(rH t r j).2=0){k:Nat}(hk:k<r.outs.length)(h:∀ j,j<k->(lA t r j).2=0)(he:(lA t r k).2≠0): lU t r=((⟨mK t r r.cells.length,pT t r k⟩:kF),(t.ins.length:Int)+k,(lA t r k).2):=by
 unfold lU;rw[aj ae,ot (fun j hj=>by simp[hc j hj])];dsimp only;rw[vU (i:=k) hk (fun j hj=>by simp[h j hj]) (by simp[he])]
def SH{t:Table}{r:h_}(h1:r.cells.length=t.ins.length)(h2:r.outs.length=t.outs.length)(hc:∀ j,j<r.cells.length->(rH t r j).2=0)(h:∀ j,j<r.outs.length->(lA t r j).2=0): lU t r=(⟨mK t r r.cells.length,pT t r r.outs.length⟩,0,0):=by
 unfold lU;rw[aj ae,ot (fun j hj=>by simp[hc j hj])];dsimp only;rw[ot (fun j hj=>by simp[h j hj])]
def eLn(r:kF × Int × Int): AV:= .bR [mF r.1,I r.2.1,I r.2.2]
def vV{σ : ai}{a b:AV}{cs:List Cell}{xs:List Expr}{n m:Int}(ha:View σ a (sR cs))(hb:View σ b (eA xs)): cN σ [.agg [a,b],I n,I m] [mF ⟨cs,xs⟩,I n,I m] :=
 oO (View.nO (.cons ha (.cons hb (.nil _))))
def UK(t:Table)(r:h_)(ht:t.ins.length<=2 ^ 30)(ho:t.outs.length<=2 ^ 30)(ht0:0<t.ins.length)(hr:(r.cells.length<=2 ^ 30/\ ∀ s ∈ r.cells,s.length<=2 ^ 30)/\r.outs.length<=2 ^ 30/\ ∀ s ∈ r.outs,s.length<=2 ^ 30): aQ aI 104 [dP t,fZ r] (eLn (lU t r)):=by
 obtain⟨⟨hr1,Eg⟩,hr3,hr4⟩:=hr;obtain⟨E,hE⟩:=cq (eLn (lU t r));rw[hE];have ca:=fun k (h1:k<t.ins.length) (h2:k<r.cells.length)=>Yb t k (r.cells.getD k default) ht h1 (Eg _ (bx h2));have ce:=fun k (h1:k<t.outs.length) (h2:k<r.outs.length)=>UJ t k (r.outs.getD k default) ht ho h1 (hr4 _ (bx h2));simp only[show ∀ k,SG t k (r.cells.getD k default)=rH t r k from fun _=>rfl]at ca;simp only[show ∀ k,yb t k (r.outs.getD k default)=lA t r k from fun _=>rfl]at ce;simp only[dP,fU,b_,eL,fZ,jL]at ca ce ⊢;by_cases hb:r.cells.length≠t.ins.length\/r.outs.length≠t.outs.length
 ·refine aY BP ?_;intro Q aJ aK aL;repeat' first|refine aC ?_|refine aB ?_ ?_<;>intro hw<;>try omega|fail
  all_goals first
   | exact bI
   |(rw[<-hE,OL hb];exact gN (vV (.aU _) (.aU _)))
 have q1:r.cells.length=t.ins.length:=ae;have q2:r.outs.length=t.outs.length:=ae;clear hb;refine aY BP ?_;intro Q aJ aK aL;repeat' first|refine aC ?_|refine aB ?_ ?_<;>intro hw<;>try omega|fail
 all_goals first|exact bI|skip
 with_reducible refine bG [5,6,35,24] (fun q:Nat × ai=>[(35,I q.1)]) (fun q=>q.2) (fun q=>q.1<=r.cells.length/\(∀ k,k<q.1->(rH t r k).2=0)/\(q.1=0/\q.2=[.cells [.str t.name,.aS false EC (t.ins.map dU),.aS false EC (t.outs.map dU),I t.bY,I t.agg,.aS false ER (t.rules.map fZ)],.cells [.aS false E1 (r.cells.map eZ),.aS false E1 (r.outs.map eZ)],.cells [.aU,.aU]]\/0<q.1/\ ∃ c1 τ,q.2 = .cells [.str t.name,.aS false EC (t.ins.map dU),.aS false EC (t.outs.map dU),I t.bY,I t.agg,.aS false ER (t.rules.map fZ)]:: .cells [.aS false E1 (r.cells.map eZ),.aS false E1 (r.outs.map eZ)]:: .cells [.own EC 4 q.1 0 q.1,.aU]::c1:: .vec EC ((mK t r q.1).map ei):: τ)) (fun q=>r.cells.length-q.1) (0,_) ⟨ew _,fun k hk=>by omega,.inl ⟨rfl,rfl⟩⟩ rfl ?_ ?_
 ·exact at_
 rintro⟨k,S⟩ rr ⟨h1,h2,h3⟩;dsimp only at h1 h2 h3;rcases h3 with⟨rfl,rfl⟩|⟨hk,c1,τ,rfl⟩
 ·have c:=ca 0 ae ae;obtain⟨a,ha⟩:=cq (rH t r 0);rw[ha]at c;have wY:=fun he=>OM q1 q2 (k:=0) ae h2 he;rw[ha]at wY;have lM:=Lt t r 0;rw[ha]at lM;simp only[ei,jt]at c;repeat' first|refine aC ?_|refine eS c ?_|refine aB ?_ ?_<;>intro hw<;>try omega|fail
  ·rw[<-hE,wY (by assumption)];exact gN (vV (.aU _) (.aU _))
  refine⟨(1,[.cells [.str t.name,.aS false EC (t.ins.map dU),.aS false EC (t.outs.map dU),I t.bY,I t.agg,.aS false ER (t.rules.map fZ)],.cells [.aS false E1 (r.cells.map eZ),.aS false E1 (r.outs.map eZ)],.cells [.own EC 4 1 0 1,.aU],.cells [.bool a.1.any,.bool a.1.neg,.aS false ES (a.1.tests.map dR)],.vec EC [.agg [.bool a.1.any,.bool a.1.neg,.aS false ES (a.1.tests.map dR)]]]),?_,?_,?_,c8,at_⟩<;>(try dsimp only)
  ·refine⟨ae,fun j hj=>?_,.inr ⟨ae,.cells [.bool a.1.any,.bool a.1.neg,.aS false ES (a.1.tests.map dR)],[],?_⟩⟩
   ·obtain rfl:j=0:=ae;rw[ha];assumption
   rw[lM];rfl
  ·omega
  all_goals rfl
 by_cases zO:k<r.cells.length
 ·have c:=ca k ae ae;have wY:=fun he=>OM q1 q2 (k:=k) ae h2 he;have lM:=Lt t r k;obtain⟨a,ha⟩:=cq (rH t r k);rw[ha]at c wY lM;have iX:=Am t r k;have iE:=fun he=>cn (q:=fun j=>(rH t r j).2=0) h2 he;obtain⟨L,hL⟩:=cq (mK t r k);rw[hL]at iX lM;simp only[hL]at wY ⊢;simp only[ei,jt]at c;repeat' first|refine cB iX ?_|refine aC ?_|refine eS c ?_|refine aB ?_ ?_<;>intro hw<;>try omega|fail
  ·rw[<-hE,wY (by assumption)];exact gN (vV (View.vec rfl (by simp[iX]) (by simp[iX]) (ud _)) (.aU _))
  refine⟨(k+1,.cells [.str t.name,.aS false EC (t.ins.map dU),.aS false EC (t.outs.map dU),I t.bY,I t.agg,.aS false ER (t.rules.map fZ)]:: .cells [.aS false E1 (r.cells.map eZ),.aS false E1 (r.outs.map eZ)]:: .cells [.own EC 4 (k+1) 0 (k+1),.aU]::c1:: .vec EC (L.map ei++[.agg [.bool a.1.any,.bool a.1.neg,.aS false ES (a.1.tests.map dR)]])::(τ++[.cells [.bool a.1.any,.bool a.1.neg,.aS false ES (a.1.tests.map dR)]])),?_,?_,?_,c8,at_⟩<;>(try dsimp only)
  ·refine⟨ae,iE (by rw[ha];assumption),.inr ⟨ae,c1,τ++[.cells [.bool a.1.any,.bool a.1.neg,.aS false ES (a.1.tests.map dR)]],?_⟩⟩;rw[lM,fH];rfl
  ·omega
  all_goals rfl
 have hkn:k=r.cells.length:=ae;subst hkn;have iX:=Am t r r.cells.length;have hok:=fun h=>SH q1 q2 h2 h;have hte:=fun k (hk:k<r.outs.length) h he=>Yc q1 q2 h2 (k:=k) hk h he;obtain⟨L,hL⟩:=cq (mK t r r.cells.length);rw[hL]at iX;simp only[hL]at hok hte ⊢;repeat' first|refine aC ?_|refine aB ?_ ?_<;>intro hw<;>try omega|fail
 with_reducible refine bG [5,2,11,4,62,28] (fun q:Nat × ai=>[(62,I q.1)]) (fun q=>q.2) (fun q=>q.1<=r.outs.length/\(∀ k,k<q.1->(lA t r k).2=0)/\(q.1=0/\q.2 = .cells [.str t.name,.aS false EC (t.ins.map dU),.aS false EC (t.outs.map dU),I t.bY,I t.agg,.aS false ER (t.rules.map fZ)]:: .cells [.aS false E1 (r.cells.map eZ),.aS false E1 (r.outs.map eZ)]:: .cells [.own EC 4 r.cells.length 0 r.cells.length,.aU]::c1:: .vec EC (L.map ei):: τ\/0<q.1/\ ∃ p ρ,q.2 = .cells [.str t.name,.aS false EC (t.ins.map dU),.aS false EC (t.outs.map dU),I t.bY,I t.agg,.aS false ER (t.rules.map fZ)]:: .cells [.aS false E1 (r.cells.map eZ),.aS false E1 (r.outs.map eZ)]:: .cells [.own EC 4 r.cells.length 0 r.cells.length,.own EX (p+1+1+1+1+1) q.1 0 q.1]::c1:: .vec EC (L.map ei):: ρ/\ ρ[p]? = some (.vec EX ((pT t r q.1).map bt)))) (fun q=>r.outs.length-q.1) (0,_) ⟨ew _,fun k hk=>by omega,.inl ⟨rfl,rfl⟩⟩ rfl ?_ ?_
 ·exact at_
 rintro⟨m,S⟩ rr ⟨g1,g2,g3⟩;dsimp only at g1 g2 g3;rcases g3 with⟨rfl,rfl⟩|⟨hm,p,ρ,rfl,hk⟩
 ·by_cases hml:0<r.outs.length
  ·have c:=ce 0 ae ae;have wY:=fun he=>hte 0 hml g2 he;have lM:=OJ t r 0;obtain⟨a,ha⟩:=cq (lA t r 0);rw[ha]at c wY lM;rw[bK]at c;try simp only[eA]at c
   repeat' first|refine cB iX ?_|refine aC ?_|refine eS c ?_|refine aB ?_ ?_<;>intro hw<;>try omega|fail
   ·rw[<-hE,wY (by assumption)];refine gN (vV (View.vec rfl (by simp[iX]) (by simp[iX]) (ud _)) (.aU _))
   refine⟨(1,.cells [.str t.name,.aS false EC (t.ins.map dU),.aS false EC (t.outs.map dU),I t.bY,I t.agg,.aS false ER (t.rules.map fZ)]:: .cells [.aS false E1 (r.cells.map eZ),.aS false E1 (r.outs.map eZ)]:: .cells [.own EC 4 r.cells.length 0 r.cells.length,.own EX (τ.length+1+1+1+1+1+1) 1 0 1]::c1:: .vec EC (L.map ei)::(τ++[.cells [I a.1.op,I a.1.v.kind,I a.1.v.n,.str a.1.v.s,.str a.1.s,.aS false EX (a.1.l.map bt)]]++[.vec EX [.agg [I a.1.op,I a.1.v.kind,I a.1.v.n,.str a.1.v.s,.str a.1.s,.aS false EX (a.1.l.map bt)]]])),?_,?_,?_,c8,at_⟩<;>(try dsimp only)
   ·refine⟨ae,fun j hj=>?_,.inr ⟨ae,τ.length+1,_,rfl,?_⟩⟩
    ·obtain rfl:j=0:=ae;rw[ha];assumption
    rw[lM,show ∀ x,[x]=[]++[x] from fun _=>rfl];simp[pT,bK,eA]
   ·omega
   all_goals first|rfl|(simp[go_sem];done)
  repeat' first|refine cB iX ?_|refine aC ?_|refine aB ?_ ?_<;>intro hw<;>try omega|fail
  rw[<-hE,hok (fun j hj=>by omega)];have h0:r.outs.length=0:=ae;rw[h0];exact gN (vV (View.vec rfl (by simp[iX]) (by simp[iX]) (ud _)) (.aU _))
 have hlt:=(aE.1 hk).1;have JD:=JC t r m;have k8:=fun d:aX=>(aH (l₁:= ρ) (l₂:=[d]) hlt).trans hk;by_cases hml:m<r.outs.length
 ·have c:=ce m ae ae;have wY:=fun he=>hte m hml g2 he;have lM:=OJ t r m;have iE:=fun he=>cn (q:=fun j=>(lA t r j).2=0) g2 he;have Vl:=fun(d w:aX)=>iM (s:= ρ) (t:=[d]) p w hlt;obtain⟨a,ha⟩:=cq (lA t r m);rw[ha]at c wY lM;obtain⟨X,hX⟩:=cq (pT t r m);rw[hX]at JD lM hk wY;simp only[hX]at k8;rw[bK]at c;try simp only[eA]at c
  repeat' first|refine cB (zC iX JD hk (zA k8 Vl)) ?_|refine aC ?_|refine eS c ?_|refine aB ?_ ?_<;>intro hw<;>try omega|fail
  ·rw[<-hE,wY (by assumption)];refine gN (vV (View.vec rfl (by simp[iX]) (by simp[iX]) (ud _)) (View.vec (k8 _) (by simp[JD]) (by simp[JD]) (RW _)))
  refine⟨(m+1,.cells [.str t.name,.aS false EC (t.ins.map dU),.aS false EC (t.outs.map dU),I t.bY,I t.agg,.aS false ER (t.rules.map fZ)]:: .cells [.aS false E1 (r.cells.map eZ),.aS false E1 (r.outs.map eZ)]:: .cells [.own EC 4 r.cells.length 0 r.cells.length,.own EX (p+1+1+1+1+1) (m+1) 0 (m+1)]::c1:: .vec EC (L.map ei)::(ρ.set p (.vec EX (X.map bt++[.agg [I a.1.op,I a.1.v.kind,I a.1.v.n,.str a.1.v.s,.str a.1.s,.aS false EX (a.1.l.map bt)]]))++[.cells [I a.1.op,I a.1.v.kind,I a.1.v.n,.str a.1.v.s,.str a.1.s,.aS false EX (a.1.l.map bt)]])),?_,?_,?_,c8,at_⟩<;>(try dsimp only)
  ·refine⟨ae,iE (by rw[ha];assumption),.inr ⟨ae,p,_,rfl,?_⟩⟩;rw[lM,fH,aH (by simpa using hlt),bw (by simpa using hlt)];simp[bK,eA]
  ·omega
  all_goals first|rfl|(simp[go_sem];done)
 obtain rfl:m=r.outs.length:=ae;repeat' first|refine cB (zC iX JD hk k8) ?_|refine aC ?_|refine aB ?_ ?_<;>intro hw<;>try omega|fail
 rw[<-hE,hok g2];exact gN (vV (View.vec rfl (by simp[iX]) (by simp[iX]) (ud _)) (View.vec hk (by simp[JD]) (by simp[JD]) (RW _)))
def kW(t:Table)(k:Nat): kF × Int × Int:=lU t (t.rules.getD k default)
def m_(t:Table)(n:Nat): List kF:=(List.range n).map fun k=>(kW t k).1
def FY: Ready:=⟨⟨[],[],[],0,0,[]⟩,[]⟩
def er(t:Table): Ready × Int × Int × Int :=
 if jU t≠0 then(FY,-1,0,jU t)
 else match(List.range t.rules.length).find? (fun k=>(kW t k).2.2 != 0)with
 | some k=>(FY,k,(kW t k).2.1,(kW t k).2.2)
 | none=>(⟨t,m_ t t.rules.length⟩,0,0,0)
def eR4(r:Ready × Int × Int × Int): AV:= .bR [lB r.1,I r.2.1,I r.2.2.1,I r.2.2.2]
def Yd(t:Table)(n:Nat): m_ t (n+1)=m_ t n++[(kW t n).1]:=by simp[m_,List.range_succ]
def wZ(t:Table)(n:Nat): (m_ t n).length=n:=by simp[m_]
def Bj{t:Table}(h:jU t≠0): er t=(FY,(-1:Int),(0:Int),jU t):=by unfold er;rw[if_pos h]
def Ye{t:Table}(h0:jU t=0){k:Nat}(hk:k<t.rules.length)(h:∀ j,j<k->(kW t j).2.2=0)(he:(kW t k).2.2≠0): er t=(FY,(k:Int),(kW t k).2.1,(kW t k).2.2):=by
 unfold er;rw[aj ae,vU (i:=k) hk (fun j hj=>by simp[h j hj]) (by simp[he])]
def SI{t:Table}(h0:jU t=0)(h:∀ j,j<t.rules.length->(kW t j).2.2=0): er t=((⟨t,m_ t t.rules.length⟩:Ready),(0:Int),(0:Int),(0:Int)):=by
 unfold er;rw[aj ae,ot (fun j hj=>by simp[h j hj])]
def Yf{t:Table}(h:jU t=0): 0<t.ins.length:=by
 unfold jU at h;split at h
 ·omega
 split at h
 ·omega
 rename_i h1 h2;exact(rG (by omega:mq t.ins false=0)).2
def uL{σ : ai}{a E:AV}{n m k:Int}(h:View σ a E): cN σ [a,I n,I m,I k] [E,I n,I m,I k]:= .cons h (.cons (.refl _ rfl) (.cons (.refl _ rfl) (.cons (.refl _ rfl) (.nil _))))
def M_(σ : ai): View σ (.agg [.str [],.aU,.aU,I 0,I 0,.aU,.aU]) (lB FY) :=
 View.nO (.cons (.refl _ rfl) (.cons (.aU _) (.cons (.aU _) (.cons (.refl _ rfl) (.cons (.refl _ rfl) (.cons (.aU _) (.cons (.aU _) (.nil _))))))))
def Ib(t:Table)(h:jV t): aQ aI 64 [dP t] (eR4 (er t)):=by
 have cf:=SE t h;obtain⟨E,hE⟩:=cq (eR4 (er t));rw[hE];have hl:=fun(h0:0<t.ins.length) k (hk:k<t.rules.length)=>UK t (t.rules.getD k default) h.2.1.1 h.2.2.1.1 h0 (h.2.2.2.2 _ (bx hk));have al5:=h.2.2.2.1;simp only[dP,fU,b_,eL]at cf hl ⊢;by_cases hf:jU t≠0
 ·have hm:=Bj hf;obtain⟨f,HV⟩:=cq (jU t);rw[HV]at cf hm hf;refine aY BO ?_;intro Q aJ aK aL;repeat' first|refine aC ?_|refine aB ?_ ?_<;>intro hw<;>try omega|fail
  all_goals first
   | exact bI
   |(rw[<-hE,hm];exact gN (uL (M_ _)))
 have DY:jU t=0:=ae;have hi0:0<t.ins.length:=Yf DY;rw[DY]at cf
 replace hl:=hl hi0
 clear hf;refine aY BO ?_;intro Q aJ aK aL;repeat' first|refine aC ?_|refine aB ?_ ?_<;>intro hw<;>try omega|fail
 all_goals first|exact bI|skip
 with_reducible refine bG [3,3,8,5,24,25] (fun q:Nat × ai=>[(24,I q.1)]) (fun q=>q.2) (fun q=>q.1<=t.rules.length/\(∀ k,k<q.1->(kW t k).2.2=0)/\(q.1=0/\q.2=[.cells [.str t.name,.aS false EC (t.ins.map dU),.aS false EC (t.outs.map dU),I t.bY,I t.agg,.aS false ER (t.rules.map fZ)],.cells [.str [],.aU,.aU,I 0,I 0,.aU,.aU],.cells [.str t.name,.aS false EC (t.ins.map dU),.aS false EC (t.outs.map dU),I t.bY,I t.agg,.aS false ER (t.rules.map fZ),.aU]]\/0<q.1/\ ∃ b1 b2 τ,q.2 = .cells [.str t.name,.aS false EC (t.ins.map dU),.aS false EC (t.outs.map dU),I t.bY,I t.agg,.aS false ER (t.rules.map fZ)]:: .cells [.str [],.aU,.aU,I 0,I 0,.aU,.aU]:: .cells [.str t.name,.aS false EC (t.ins.map dU),.aS false EC (t.outs.map dU),I t.bY,I t.agg,.aS false ER (t.rules.map fZ),.own ER 5 q.1 0 q.1]::b1::b2:: .vec ER ((m_ t q.1).map mF):: τ)) (fun q=>t.rules.length-q.1) (0,_) ⟨ew _,fun k hk=>by omega,.inl ⟨rfl,rfl⟩⟩ rfl ?_ ?_
 ·exact at_
 rintro⟨k,S⟩ rr ⟨h1,h2,h3⟩;dsimp only at h1 h2 h3;by_cases zO:k<t.rules.length
 ·have c:=hl k zO;have wY:=fun he=>Ye DY zO h2 he;have lM:=Yd t k;have iX:=wZ t k;have iE:=fun he=>cn (q:=fun j=>(kW t j).2.2=0) h2 he;have hlr:kW t k=lU t (t.rules.getD k default):=rfl;obtain⟨a,ha⟩:=cq (kW t k);rw[ha]at wY lM iE hlr;rw[<-hlr]at c;obtain⟨ru,V8⟩:=cq (t.rules.getD k default);rw[V8]at c;clear hlr;simp only[eLn,mF,sR,eA,fZ,jL]at c;rcases h3 with⟨rfl,rfl⟩|⟨hk,b1,b2,τ,rfl⟩
  ·repeat' first|refine cB V8 ?_|refine aC ?_|refine eS c ?_|refine aB ?_ ?_<;>intro hw<;>try omega|fail
   ·rw[<-hE,wY (by assumption)];exact gN (uL (M_ _))
   refine⟨(1,[.cells [.str t.name,.aS false EC (t.ins.map dU),.aS false EC (t.outs.map dU),I t.bY,I t.agg,.aS false ER (t.rules.map fZ)],.cells [.str [],.aU,.aU,I 0,I 0,.aU,.aU],.cells [.str t.name,.aS false EC (t.ins.map dU),.aS false EC (t.outs.map dU),I t.bY,I t.agg,.aS false ER (t.rules.map fZ),.own ER 5 1 0 1],.cells [.aS false E1 (ru.cells.map eZ),.aS false E1 (ru.outs.map eZ)],.cells [.aS false EC (a.1.cells.map ei),.aS false EX (a.1.outs.map bt)],.vec ER [.agg [.aS false EC (a.1.cells.map ei),.aS false EX (a.1.outs.map bt)]]]),?_,?_,?_,c8,at_⟩<;>(try dsimp only)
   ·refine⟨ae,iE (by assumption),.inr ⟨ae,.cells [.aS false E1 (ru.cells.map eZ),.aS false E1 (ru.outs.map eZ)],.cells [.aS false EC (a.1.cells.map ei),.aS false EX (a.1.outs.map bt)],[],?_⟩⟩;rw[lM];rfl
   ·omega
   all_goals first|rfl|(simp[go_sem];done)
  obtain⟨L,hL⟩:=cq (m_ t k);rw[hL]at iX lM;simp only[hL];repeat' first|refine cB (zA V8 iX) ?_|refine aC ?_|refine eS c ?_|refine aB ?_ ?_<;>intro hw<;>try omega|fail
  ·rw[<-hE,wY (by assumption)];exact gN (uL (M_ _))
  refine⟨(k+1,.cells [.str t.name,.aS false EC (t.ins.map dU),.aS false EC (t.outs.map dU),I t.bY,I t.agg,.aS false ER (t.rules.map fZ)]:: .cells [.str [],.aU,.aU,I 0,I 0,.aU,.aU]:: .cells [.str t.name,.aS false EC (t.ins.map dU),.aS false EC (t.outs.map dU),I t.bY,I t.agg,.aS false ER (t.rules.map fZ),.own ER 5 (k+1) 0 (k+1)]::b1::b2:: .vec ER (L.map mF++[.agg [.aS false EC (a.1.cells.map ei),.aS false EX (a.1.outs.map bt)]])::(τ++[.cells [.aS false E1 (ru.cells.map eZ),.aS false E1 (ru.outs.map eZ)]]++[.cells [.aS false EC (a.1.cells.map ei),.aS false EX (a.1.outs.map bt)]])),?_,?_,?_,c8,at_⟩<;>(try dsimp only)
  ·refine⟨ae,iE (by assumption),.inr ⟨ae,b1,b2,τ++[.cells [.aS false E1 (ru.cells.map eZ),.aS false E1 (ru.outs.map eZ)]]++[.cells [.aS false EC (a.1.cells.map ei),.aS false EX (a.1.outs.map bt)]],?_⟩⟩;rw[lM,fH];(first|rfl|(simp[mF,sR,eA];done))
  ·omega
  all_goals first|rfl|(simp[go_sem];done)
 obtain rfl:k=t.rules.length:=ae;have hok:=SI DY h2;rcases h3 with⟨h0,rfl⟩|⟨hk,b1,b2,τ,rfl⟩
 ·repeat' first|refine aC ?_|refine aB ?_ ?_<;>intro hw<;>try omega|fail
  rw[<-hE,hok,h0];exact gN (uL (View.nO (.cons (.refl _ rfl) (.cons (.refl _ (j7 _)) (.cons (.refl _ (j7 _)) (.cons (.refl _ rfl) (.cons (.refl _ rfl) (.cons (.refl _ (rZ _)) (.cons (.aU _) (.nil _))))))))))
 have iX:=wZ t t.rules.length;obtain⟨L,hL⟩:=cq (m_ t t.rules.length);rw[hL]at iX hok;simp only[hL];repeat' first|refine cB iX ?_|refine aC ?_|refine aB ?_ ?_<;>intro hw<;>try omega|fail
 rw[<-hE,hok];exact gN (uL (View.nO (.cons (.refl _ rfl) (.cons (.refl _ (j7 _)) (.cons (.refl _ (j7 _)) (.cons (.refl _ rfl) (.cons (.refl _ rfl) (.cons (.refl _ (rZ _)) (.cons (View.vec rfl (by simp[iX]) (by simp[iX]) (On _)) (.nil _))))))))))
def qB(a b:cJ): Bool:=a.name==b.name && decide (a.kind=b.kind) && fq (fun x y=>x==y) a.order b.order
def vW(a b:h_): Bool:=fq (fun x y=>x==y) a.cells b.cells && fq (fun x y=>x==y) a.outs b.outs
def yq(a b:Table): Bool:=a.name==b.name && decide (a.bY=b.bY) && decide (a.agg=b.agg) && fq qB a.ins b.ins && fq qB a.outs b.outs && fq vW a.rules b.rules
def SJ(l:List cJ): Prop:=l.length<=2 ^ 60/\ ∀ c ∈ l,c.order.length<=2 ^ 60
def SK(r:h_): Prop:=r.cells.length<=2 ^ 60/\r.outs.length<=2 ^ 60
def Lu(t:Table): Prop:=SJ t.ins/\SJ t.outs/\t.rules.length<=2 ^ 60/\ ∀ r ∈ t.rules,SK r
def xP(a b:cJ)(ha:a.order.length<=2 ^ 60)(hb:b.order.length<=2 ^ 60): aQ aI 126 [dU a,dU b] (.bool (qB a b)):=by
 have c:=oq a.order b.order ha hb;have hS:qB a b=(a.name==b.name && decide (a.kind=b.kind) && fq (fun x y=>x==y) a.order b.order):=rfl;rw[hS];clear hS;generalize fq (fun x y=>x==y) a.order b.order=v at *;simp only[dU,br]at c ⊢;refine aY C9 ?_;intro Q aJ aK aL;repeat' first|refine aC ?_|refine eS c ?_|refine aB ?_ ?_<;>intro hw<;>try omega|fail
 all_goals (refine a_ ?_ rfl;refine bj AV.bool ?_;rw[cQ];simp_all)
def Lv(a b:h_)(ha:SK a)(hb:SK b): aQ aI 128 [fZ a,fZ b] (.bool (vW a b)):=by
 have c1:=vt a.cells b.cells ha.1 hb.1;have c2:=vt a.outs b.outs ha.2 hb.2;have hS:vW a b=(fq (fun x y=>x==y) a.cells b.cells && fq (fun x y=>x==y) a.outs b.outs):=rfl;rw[hS];clear hS;generalize fq (fun x y=>x==y) a.cells b.cells=v at *;generalize fq (fun x y=>x==y) a.outs b.outs=u at *;simp only[fZ,jL]at c1 c2 ⊢;refine aY Fv ?_;intro Q aJ aK aL;repeat' first|refine aC ?_|refine aB ?_ ?_<;>intro hw<;>try omega|fail
 all_goals (refine a_ ?_ rfl;refine bj AV.bool ?_;rw[cQ];simp_all)
def UL(a b:Table)(ha:Lu a)(hb:Lu b): aQ aI 81 [dP a,dP b] (.bool (yq a b)):=by
 have c1:=sC 126 [] rfl qB a.ins b.ins (fun k h1 h2=>xP _ _ (ha.1.2 _ (bx h1)) (hb.1.2 _ (bx h2))) (by have:=ha.1.1;omega) (by have:=hb.1.1;omega);have c2:=sC 126 [] rfl qB a.outs b.outs (fun k h1 h2=>xP _ _ (ha.2.1.2 _ (bx h1)) (hb.2.1.2 _ (bx h2))) (by have:=ha.2.1.1;omega) (by have:=hb.2.1.1;omega);have c3:=Ca 128 [] rfl vW a.rules b.rules (fun k h1 h2=>Lv _ _ (ha.2.2.2 _ (bx h1)) (hb.2.2.2 _ (bx h2))) (by have:=ha.2.2.1;omega) (by have:=hb.2.2.1;omega);have hS:yq a b=(a.name==b.name && decide (a.bY=b.bY) && decide (a.agg=b.agg) && fq qB a.ins b.ins && fq qB a.outs b.outs && fq vW a.rules b.rules):=rfl;generalize fq qB a.ins b.ins=v1 at *;generalize fq qB a.outs b.outs=v2 at *;generalize fq vW a.rules b.rules=v3 at *;obtain⟨E,hE⟩:=cq (yq a b);rw[hE]at hS ⊢;clear hE;simp only[dP,fU,b_,eL]at c1 c2 c3 ⊢;refine aY MI ?_;intro Q aJ aK aL;dsimp (config:= { zeta:=true }) only;repeat' first|refine aC ?_|refine aB ?_ ?_<;>intro hw<;>try omega|fail
 all_goals first
  | exact bI
  |(refine a_ ?_ rfl;refine bj AV.bool ?_;rw[hS,cQ];simp_all;done)
