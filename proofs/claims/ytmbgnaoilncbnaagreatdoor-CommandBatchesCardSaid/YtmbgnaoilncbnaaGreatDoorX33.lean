/- Part. -/
import Derived.Test.YtmbgnaoilncbnaaGreatDoorX32
set_option linter.all false
set_option maxHeartbeats 4000000
namespace Go.Proofs.YtmbgnaoilncbnaaGreatDoor
open Go.AM
set_option maxRecDepth 4000
def wrap_u64(x:Int): cR .u64 x=x % 18446744073709551616:=rfl
def wrap_u8(x:Int): cR .u8 x=x % 256:=rfl
def wrap_i64(x:Int): cR .i64 x=if 9223372036854775808<=x % 18446744073709551616 then x % 18446744073709551616-18446744073709551616 else x % 18446744073709551616:=by
 show IntKind.wrap .i64 x=_;simp[IntKind.wrap,IntKind.bits,IntKind.signed]
def xor_zero(k:IntKind)(x:Nat)(h:x<2 ^ k.bits): ((BitVec.ofInt k.bits (x:Int)) ^^^ (BitVec.ofInt k.bits 0)).toNat=x:=by
 have:BitVec.ofInt k.bits 0=0#k.bits:=by simp
 rw[this,BitVec.xor_zero];simp[fZ h]
def Rb(x:Nat)(h:x<18446744073709551616)(y:Int)(hy:y % 18446744073709551616=18446744073709551615): ((BitVec.ofInt 64 (x:Int)) ^^^ (BitVec.ofInt 64 y)).toNat=18446744073709551615-x:=by
 have e:BitVec.ofInt 64 y=BitVec.allOnes 64:=by
  apply BitVec.eq_of_toNat_eq;rw[BitVec.toNat_ofInt,BitVec.toNat_allOnes];omega
 rw[e,BitVec.xor_allOnes,BitVec.toNat_not];have:(BitVec.ofInt 64 (x:Int)).toNat=x:=by rw[BitVec.toNat_ofInt];omega
 rw[this]
def ace{n:Int}(h : -9223372036854775808<=n/\n<=9223372036854775807): cU .xor .u64 (cR .u64 (cR .u64 n*2)) (cR .u64 (n.fdiv 9223372036854775808))=pE n:=by
 rw[kf];show cR .u64 (((BitVec.ofInt 64 (cR .u64 (cR .u64 n*2))) ^^^ (BitVec.ofInt 64 (cR .u64 (n.fdiv 9223372036854775808)))).toNat:Int)=pE n;rw[Int.fdiv_eq_ediv_of_nonneg _ (by decide)];simp only[wrap_u64];unfold pE;by_cases hn:n<0
 ·rw[if_pos hn];have e1:(n % 18446744073709551616*2 % 18446744073709551616:Int)=((2*n+18446744073709551616).toNat:Int):=by omega
  rw[e1,Rb _ (by omega) _ (by omega)];omega
 ·rw[if_neg hn];have e1:(n % 18446744073709551616*2 % 18446744073709551616:Int)=((2*n).toNat:Int):=by omega
  have e2:(n / 9223372036854775808 % 18446744073709551616:Int)=0:=by omega
  rw[e1,e2];have:=xor_zero .u64 (2*n).toNat (by show _<18446744073709551616;omega);have e3:IntKind.u64.bits=64:=rfl;rw[e3]at this;rw[this];omega
def WZ(w k x:Nat)(hx:x<2 ^ w)(hk:k<=w): ((BitVec.ofInt w (x:Int)) &&& (BitVec.ofInt w ((2 ^ k-1:Nat):Int))).toNat=x % 2 ^ k:=by
 have h2:2 ^ k-1<2 ^ w:=da (Nat.sub_lt (Nat.pow_pos (by decide)) (by decide)) (iy (by decide) hk);rw[BitVec.toNat_and];have e1:(BitVec.ofInt w (x:Int)).toNat=x:=by rw[BitVec.ofInt_natCast,BitVec.toNat_ofNat,fZ hx]
 have e2:(BitVec.ofInt w ((2 ^ k-1:Nat):Int)).toNat=2 ^ k-1:=by rw[BitVec.ofInt_natCast,BitVec.toNat_ofNat,fZ h2]
 rw[e1,e2,Nat.and_two_pow_sub_one_eq_mod]
def adN{c:Nat}(h:c<18446744073709551616): cU .xor .i64 (cR .i64 ((c:Int).fdiv 2)) (cR .i64 (0-cR .i64 (cU .and .u64 (c:Int) 1)))=uQ c:=by
 rw[kf]
 have ha:nI .and .u64 (c:Int) 1=((c % 2:Nat):Int):=by
  show cR .u64 (((BitVec.ofInt 64 (c:Int)) &&& (BitVec.ofInt 64 1)).toNat:Int)=_;have:=WZ 64 1 c h (by decide);have e:((2 ^ 1-1:Nat):Int)=1:=by decide
  rw[e]at this;rw[this,wrap_u64];omega
 rw[ha,Int.fdiv_eq_ediv_of_nonneg _ (by decide)];show cR .i64 (((BitVec.ofInt 64 (cR .i64 ((c:Int) / 2))) ^^^ (BitVec.ofInt 64 (cR .i64 (0-cR .i64 ((c % 2:Nat):Int))))).toNat:Int)=uQ c;have e1:cR .i64 ((c:Int) / 2)=((c / 2:Nat):Int):=by rw[wrap_i64];split<;>omega
 have e2:cR .i64 ((c % 2:Nat):Int)=((c % 2:Nat):Int):=by rw[wrap_i64];split<;>omega
 rw[e1,e2];unfold uQ;by_cases hn:c % 2=1
 ·rw[if_pos hn,Rb _ (by omega) _ (by rw[wrap_i64];split<;>omega),wrap_i64];split<;>omega
 ·rw[if_neg hn];have e3:cR .i64 (0-((c % 2:Nat):Int))=0:=by rw[wrap_i64];split<;>omega
  rw[e3];have:=xor_zero .i64 (c / 2) (by show _<18446744073709551616;omega);have e3:IntKind.i64.bits=64:=rfl;rw[e3]at this;rw[this,wrap_i64];split<;>omega
def W0{x:Int}{c:Nat}(h:x % 256=((c % 256:Nat):Int)): cU .and .u8 (cR .u8 x) 127=((c % 128:Nat):Int):=by
 rw[kf];show cR .u8 (((BitVec.ofInt 8 (cR .u8 x)) &&& (BitVec.ofInt 8 127)).toNat:Int)=_;have:=WZ 8 7 (c % 256) (by omega) (by decide);have e:((2 ^ 7-1:Nat):Int)=127:=by decide
 rw[e]at this;rw[wrap_u8 x,h,this,wrap_u8];omega
def acf{w k x:Nat}{y:Nat}(hx:x<2 ^ k)(hw:2 ^ k*y+x<2 ^ w): ((BitVec.ofInt w (x:Int)) |||(BitVec.ofInt w ((2 ^ k*y:Nat):Int))).toNat=2 ^ k*y+x:=by
 rw[BitVec.toNat_or];have e1:(BitVec.ofInt w (x:Int)).toNat=x:=by rw[BitVec.ofInt_natCast,BitVec.toNat_ofNat,fZ (by omega)]
 have e2:(BitVec.ofInt w ((2 ^ k*y:Nat):Int)).toNat=2 ^ k*y:=by rw[BitVec.ofInt_natCast,BitVec.toNat_ofNat,fZ (by omega)]
 rw[e1,e2,Nat.or_comm,Nat.two_pow_add_eq_or_of_lt hx]
def acg{d:Nat}(h:d<128): cU .or .u8 (d:Int) 128=((128+d:Nat):Int):=by
 rw[kf];show cR .u8 (((BitVec.ofInt 8 (d:Int)) |||(BitVec.ofInt 8 128)).toNat:Int)=_;have:=acf (w:=8) (k:=7) (x:=d) (y:=1) (by omega) (by omega);have e:((2 ^ 7*1:Nat):Int)=128:=by decide
 rw[e]at this;rw[this,wrap_u8];omega
def adO{c d i:Nat}(hc:c<128 ^ i)(h:c+d*128 ^ i<18446744073709551616): cU .or .u64 (c:Int) (cR .u64 ((d:Int)*2 ^ (7*i)))=((c+d*128 ^ i:Nat):Int):=by
 have e0:(2:Nat) ^ (7*i)=128 ^ i:=by rw[Nat.pow_mul]
 have e1:((d:Int)*2 ^ (7*i))=((2 ^ (7*i)*d:Nat):Int):=by push_cast;rw[Int.mul_comm]
 rw[kf,e1];have h2:2 ^ (7*i)*d<18446744073709551616:=by rw[e0,eP];omega
 have e2:cR .u64 ((2 ^ (7*i)*d:Nat):Int)=((2 ^ (7*i)*d:Nat):Int):=by rw[wrap_u64];omega
 rw[e2];show cR .u64 (((BitVec.ofInt 64 (c:Int)) |||(BitVec.ofInt 64 ((2 ^ (7*i)*d:Nat):Int))).toNat:Int)=_;rw[acf (by rw[e0];exact hc) (by rw[e0,eP];omega),wrap_u64,e0,eP];omega
def FN(c:Nat): UInt8:=UInt8.ofNat (c % 128)
def Cf(c:Nat): UInt8:=UInt8.ofNat (128+c % 128)
def wu(c:Nat): ((c % 128:Nat):Int)=((FN c).toNat:Int):=by rw[FN,u8 _ (by omega)]
def ach(c:Nat): cU .or .u8 ((FN c).toNat:Int) 128=((Cf c).toNat:Int):=by
 rw[<-wu,acg (by omega),Cf,u8 _ (by omega)]
def Mu(s:aJ)(b:UInt8): nC s++[AV.int .u8 b.toNat]=nC (s++[b]):=by simp
def W1{k c:Nat}(h:c<128): qN k c=[FN c]:=by
 rw[FN,Nat.mod_eq_of_lt h];cases k with
 | zero=>rfl
 | succ k=>rw[qN,if_pos h]
def TE{k c:Nat}(h:128<=c): qN (k+1) c=Cf c::qN k (c / 128):=by rw[qN,if_neg (by omega)];rfl
def aaU(n:Int)(h:jG n): ai Tryz.prog CR [I n] (.int .u64 (pE n)):=by
 refine ai.aG (Uf (by simp) ?_) rfl;unfold Kz aP;intro Q au aA aB;repeat' first|refine aq ?_|refine ak ?_ ?_<;>intro hw<;>try omega|fail
 refine aM ?_ rfl;exact congrArg (AV.int .u64) (ace h)
def Yg(c:Nat): ai Tryz.prog oH [.int .u64 c] (.int .u8 ((FN c).toNat)):=by
 refine ai.aG (JL (by simp) ?_) rfl;unfold zV aP;intro Q au aA aB;repeat' first|refine aq ?_|refine ak ?_ ?_<;>intro hw<;>try omega|fail
 refine aM ?_ rfl;refine congrArg (AV.int .u8) ?_;rw[<-wu];exact W0 (by omega)
def aaV(c:Nat): ai Tryz.prog xq [I c] (.int .u8 ((FN c).toNat)):=by
 refine ai.aG (Ou (by simp) ?_) rfl;unfold EK aP;intro Q au aA aB;repeat' first|refine aq ?_|refine ak ?_ ?_<;>intro hw<;>try omega|fail
 refine aM ?_ rfl;refine congrArg (AV.int .u8) ?_;rw[<-wu];exact W0 (by omega)
def W2(c:Nat)(h:c<18446744073709551616): ai Tryz.prog yZ [.int .u64 c] (I (uQ c)):=by
 refine ai.aG (P4 (by simp) ?_) rfl;unfold Gs aP;intro Q au aA aB;repeat' first|refine aq ?_|refine ak ?_ ?_<;>intro hw<;>try omega|fail
 refine aM ?_ rfl;exact congrArg I (adN h)
def jw(n:Int)(h:jG n): ai Tryz.prog gw [I n] (.str (cG n)):=by
 have hc:=O1 h.1 h.2;obtain⟨E,hE⟩:∃ E,cG n=E:=⟨_,rfl⟩;rw[hE];unfold cG at hE;have h1:=aaU n h;generalize pE n=c0 at *;refine ai.aG (VH (by simp) ?_) rfl;unfold M7 aP;intro Q au aA aB;repeat' first|refine aq ?_|refine aC h1 ?_|refine ak ?_ ?_<;>intro hw<;>try omega|fail
 with_reducible refine bn [3,4,8,9,10,11,12,13,14,15,16,17] (fun q:Nat × aJ × Nat=>[(3,.int .u64 q.2.2),(4,.own E1 0 q.2.1.length 0 q.2.1.length)]) (fun q=>[.vec E1 (nC q.2.1)]) (fun q=>q.1<=9/\q.2.1.length=q.1/\q.2.2*128 ^ q.1<18446744073709551616/\E=q.2.1++qN (9-q.1) q.2.2) (fun q=>10-q.1) ((0,[],c0)) ?_ ?_ ?_ ?_
 ·exact⟨by omega,rfl,by show c0*1<_;omega,by simp[hE]⟩
 ·rfl
 ·exact at_
 rintro⟨i,s,c⟩ r ⟨g1,g2,g3,g4⟩;dsimp only at g1 g2 g3 g4;have hl:=Yg c;have hm:=ach c
 have hq:(c:Int).fdiv (2 ^ (Int.toNat 7).min 64)=((c / 128:Nat):Int):=by
  show(c:Int).fdiv 128=_;rw[Int.fdiv_eq_ediv_of_nonneg _ (by decide)];omega
 by_cases hb:128<=c
 ·have hi : i < 9 := by
   rcases Nat.lt_or_ge i 9 with h|h
   ·exact h
   ·obtain rfl:i=9:=by omega
    have e:(128:Nat) ^ 9=9223372036854775808:=by decide
    rw[e]at g3;omega
  obtain⟨k,hk⟩:∃ k,9-i=k+1:=⟨8-i,by omega⟩;rw[hk,TE hb]at g4;repeat' first|simp (disch:=omega) only[go_sem,au,aA,aB,hm,hq,Mu]|refine aq ?_|refine aC hl ?_|refine ak ?_ ?_<;>intro hw<;>try omega|fail
  refine⟨(i+1,s++[Cf c],c / 128),?_,?_,?_,bJ,at_⟩<;>(try dsimp only)
  ·refine⟨by omega,by simp[g2],?_,?_⟩
   ·have e2 : c / 128 * 128 ^ (i + 1) = 128 * (c / 128) * 128 ^ i := by
     rw[fL,eP (128 ^ i) 128,<-Nat.mul_assoc,eP (c / 128) 128]
    exact Nat.lt_of_le_of_lt (by rw[e2];exact bG _ (by omega)) g3
   ·have:9-(i+1)=k:=by omega
    rw[this];simp[g4]
  ·omega
  all_goals (simp[g2];done)
 ·rw[W1 (by omega)]at g4;repeat' first|simp (disch:=omega) only[go_sem,au,aA,aB,Mu]|refine aq ?_|refine aC hl ?_|refine ak ?_ ?_<;>intro hw<;>try omega|fail
  exact aM (by rw[g4]) rfl
def eN(t:Int × aJ × Int): AV:= .bX [I t.1,.str t.2.1,I t.2.2]
def eS(t:aJ × aJ × Int): AV:= .bX [.str t.1,.str t.2.1,I t.2.2]
def oz(s:aJ)(hs:s.length<=2 ^ 62): ai Tryz.prog jv [.str s] (eN (takeN s)):=by
 obtain⟨E,hE⟩:∃ E,takeN s=E:=⟨_,rfl⟩;rw[hE];unfold takeN at hE;obtain⟨m,zR,Kb⟩:∃ m:Nat,m=min s.length 10/\(if(10:Int)<(s.length:Int)then (10:Int)else (s.length:Int))=(m:Int):=⟨min s.length 10,rfl,by split<;>omega⟩;refine ai.aG (Oq (by simp) ?_) rfl;unfold EH aP;intro Q au aA aB;repeat' first|simp (disch:=omega) only[go_sem,au,aA,aB,Kb]|refine aq ?_|refine ak ?_ ?_<;>intro hw<;>try omega|fail
 with_reducible refine bn [2,3,4,5,6,7,11,12,13,14,15,16,17,18,19,20,21,22,23,24,25,26,27,28,29,30,31,32,33,34,35,36,37,38,39,40,41,42,43,44,45,46,47,48] (fun q:Nat × Nat=>[(11,I q.1),(5,.int .u64 q.2)]) (fun _=>[]) (fun q=>q.1<=m/\q.2<128 ^ q.1/\q.1<=9/\E=pY q.1 q.2 (s.drop q.1)) (fun q=>m-q.1) ((0,0)) ?_ ?_ ?_ ?_
 ·exact⟨by omega,by decide,by decide,by rw[<-hE];rfl⟩
 ·rfl
 ·exact at_
 rintro⟨i,c⟩ r ⟨g1,g2,g4,g3⟩;dsimp only at g1 g2 g3 g4;by_cases hi:i<m
 ·have YJ:i<s.length:=by omega
  rw[iP YJ,pY]at g3;obtain⟨b,hb⟩:∃ b,s.getD i 0=b:=⟨_,rfl⟩;rw[hb]at g3;have hb8:b.toNat<256:=b.toNat_lt;by_cases he:(0<i/\b.toNat=0)\/(i=9/\1<b.toNat)
  ·rw[if_pos he]at g3;repeat' first|simp (disch:=omega) only[go_sem,au,aA,aB,hb]|refine aq ?_|refine ak ?_ ?_<;>intro hw<;>try omega|fail
   all_goals first
    | exact aY
    |(refine aT ?_ rfl;rw[g3])
  ·rw[if_neg he]at g3;have hl:=aaV b.toNat
   have hmin:Nat.min ((7*(i:Int)).toNat) 64=7*i:=by show min _ 64=_;omega
   have hsum:c+b.toNat % 128*128 ^ i<18446744073709551616:=by
    by_cases h9:i=9
    ·subst h9;have e:(128:Nat) ^ 9=9223372036854775808:=by decide
     rw[e]at g2 ⊢;omega
    ·have e:(128:Nat) ^ (i+1)<=128 ^ 9:=iy (by decide) (by omega);rw[fL]at e;have e2:(128:Nat) ^ 9=9223372036854775808:=by decide
     have:b.toNat % 128*128 ^ i<=127*128 ^ i:=bG _ (by omega);omega
   have hacc:=adO g2 hsum;rw[wu]at hacc;have hlow:((FN b.toNat).toNat:Int)<128:=by rw[<-wu];omega
   have hn:=W2 _ hsum;obtain⟨c',hc'⟩:∃ c',c+b.toNat % 128*128 ^ i=c':=⟨_,rfl⟩;rw[hc']at hacc hn g3 hsum;repeat' first|simp (disch:=omega) only[go_sem,au,aA,aB,hb,hmin,hacc]|refine aq ?_|refine aC hl ?_|refine aC hn ?_|refine ak ?_ ?_<;>intro hw<;>try omega|fail
   all_goals first
    | exact aY
    |(rw[if_pos (by omega)]at g3;refine aT ?_ rfl;rw[g3];done)
    | (rw [if_neg (by omega)] at g3
       refine⟨(i+1,c'),?_,?_,by first|rfl|(simp[go_sem];done),bJ,at_⟩<;>(try dsimp only)
       ·refine⟨by omega,?_,by omega,g3⟩;rw[fL,<-hc'];have:b.toNat % 128*128 ^ i<=127*128 ^ i:=bG _ (by omega);omega
       ·omega)
 ·rw[dh (by omega),pY]at g3;repeat' first|refine aq ?_|refine ak ?_ ?_<;>intro hw<;>try omega|fail
  refine aT ?_ rfl;rw[g3]
def Rc(s:aJ)(most:Int)(hs:s.length<=2 ^ 62): ai Tryz.prog xn [.str s,I most] (eN (if(takeN s).2.2≠0 then(0,[],(takeN s).2.2)else if(takeN s).1<0 then(0,[],4)else if(takeN s).1>most then(0,[],5)else ((takeN s).1,(takeN s).2.1,0))):=by
 have h1:=oz s hs;generalize takeN s=t at *;obtain⟨n,r,e⟩:=t;simp only[eN]at h1;refine ai.aG (Uj (by simp) ?_) rfl;unfold KE aP;intro Q au aA aB;repeat' first|refine aq ?_|refine aC h1 ?_|refine ak ?_ ?_<;>intro hw<;>try omega|fail
 all_goals (refine aT ?_ rfl)
 ·rw[if_pos hw]
 ·rw[if_neg (by omega),if_pos (by omega)]
 ·rw[if_neg (by omega),if_neg (by omega),if_pos (by omega)]
 ·rw[if_neg (by omega),if_neg (by omega),if_neg (by omega)]
def uv(s:aJ)(most:Int)(hs:s.length<=2 ^ 62): ai Tryz.prog lf [.str s,I most] (eS (cj s most)):=by
 have h1:=Rc s most hs;have hl:=(dZ s).1;unfold cj;generalize takeN s=t at *;obtain⟨n,r,e⟩:=t;dsimp only at h1 hl ⊢;by_cases c1:e≠0
 ·rw[if_pos c1]at h1 ⊢;simp only[eN]at h1;refine ai.aG (mJ (by simp) ?_) rfl;unfold lp aP;intro Q au aA aB;repeat' first|refine aq ?_|refine aC h1 ?_|refine ak ?_ ?_<;>intro hw<;>try omega|fail
  exact aT rfl rfl
 by_cases c2:n<0
 ·rw[if_neg c1,if_pos c2]at h1 ⊢;simp only[eN]at h1;refine ai.aG (mJ (by simp) ?_) rfl;unfold lp aP;intro Q au aA aB;repeat' first|refine aq ?_|refine aC h1 ?_|refine ak ?_ ?_<;>intro hw<;>try omega|fail
  exact aT rfl rfl
 by_cases c3:n>most
 ·rw[if_neg c1,if_neg c2,if_pos c3]at h1 ⊢;simp only[eN]at h1;refine ai.aG (mJ (by simp) ?_) rfl;unfold lp aP;intro Q au aA aB;repeat' first|refine aq ?_|refine aC h1 ?_|refine ak ?_ ?_<;>intro hw<;>try omega|fail
  exact aT rfl rfl
 rw[if_neg c1,if_neg c2,if_neg c3]at h1 ⊢;simp only[eN]at h1;by_cases c4:n>r.length
 ·rw[if_pos c4];refine ai.aG (mJ (by simp) ?_) rfl;unfold lp aP;intro Q au aA aB;repeat' first|refine aq ?_|refine aC h1 ?_|refine ak ?_ ?_<;>intro hw<;>try omega|fail
  exact aT rfl rfl
 rw[if_neg c4];obtain⟨k,rfl⟩:∃ k:Nat,n=(k:Int):=⟨n.toNat,by omega⟩;refine ai.aG (mJ (by simp) ?_) rfl;unfold lp aP;intro Q au aA aB;repeat' first|refine aq ?_|refine aC h1 ?_|refine ak ?_ ?_<;>intro hw<;>try omega|fail
 refine aT ?_ rfl;simp
def qO(s:aJ)(hs:s.length<=2 ^ 61): ai Tryz.prog kp [.str s] (.str (bC s)):=by
 have h1:=jw s.length ⟨by omega,by omega⟩;have h2:=cM s.length;unfold bC;generalize cG s.length=x at *;refine ai.aG (Ub (by simp) ?_) rfl;unfold Ks aP;intro Q au aA aB;have LX:((x.length+s.length:Nat):Int)<=IntKind.i64.max:=by show _<=(9223372036854775807:Int);omega
 repeat' first|refine aq ?_|refine aC h1 ?_|refine ak ?_ ?_<;>intro hw<;>try omega|fail
 exact aM rfl rfl
def aaW(n:Int)(h:jG n): ai Tryz.prog CW [I n] (.int .u64 (pE n)):=by
 obtain⟨h1,h2⟩:=h;refine ai.aG (Uk (by simp) ?_) rfl;unfold KG aP;intro Q au aA aB;repeat' first|refine aq ?_|refine ak ?_ ?_<;>intro hw<;>try omega|fail
 all_goals (refine aM ?_ rfl;refine congrArg (AV.int .u64) ?_;unfold pE)
 ·rw[if_pos (by omega)];omega
 ·rw[if_neg (by omega)];omega
def W3(c:Nat)(h:c<18446744073709551616): ai Tryz.prog yX [.int .u64 c] (I (uQ c)):=by
 refine ai.aG (PZ (by simp) ?_) rfl;unfold Gp aP;intro Q au aA aB;have e1:Int.tmod (c:Int) 2=((c % 2:Nat):Int):=by rw[Int.tmod_eq_emod_of_nonneg (by omega)];omega
 have e2:Int.tdiv (c:Int) 2=((c / 2:Nat):Int):=by rw[Int.tdiv_eq_ediv_of_nonneg (by omega)];omega
 repeat' first|simp (disch:=omega) only[go_sem,au,aA,aB,e1,e2]|refine aq ?_|refine ak ?_ ?_<;>intro hw<;>try omega|fail
 all_goals (refine aM ?_ rfl;refine congrArg I ?_;unfold uQ)
 ·rw[if_pos (by omega)]
 ·rw[if_neg (by omega)]
def jx(n:Int)(h:jG n): ai Tryz.prog fy [I n] (.str (cG n)):=by
 have hc:=O1 h.1 h.2;obtain⟨E,hE⟩:∃ E,cG n=E:=⟨_,rfl⟩;rw[hE];unfold cG at hE;have h1:=aaW n h;generalize pE n=c0 at *;refine ai.aG (VJ (by simp) ?_) rfl;unfold M9 aP;intro Q au aA aB;repeat' first|refine aq ?_|refine aC h1 ?_|refine ak ?_ ?_<;>intro hw<;>try omega|fail
 with_reducible refine bn [3,4,7,8,9,10,11,12,13,14,15,16,17] (fun q:Nat × aJ × Nat=>[(3,.int .u64 q.2.2),(4,.own E1 0 q.2.1.length 0 q.2.1.length)]) (fun q=>[.vec E1 (nC q.2.1)]) (fun q=>q.1<=9/\q.2.1.length=q.1/\q.2.2*128 ^ q.1<18446744073709551616/\E=q.2.1++qN (9-q.1) q.2.2) (fun q=>10-q.1) ((0,[],c0)) ?_ ?_ ?_ ?_
 ·exact⟨by omega,rfl,by show c0*1<_;omega,by simp[hE]⟩
 ·rfl
 ·exact at_
 rintro⟨i,s,c⟩ r ⟨g1,g2,g3,g4⟩;dsimp only at g1 g2 g3 g4;have alB:c<18446744073709551616:=Nat.lt_of_le_of_lt (Nat.le_mul_of_pos_right c (Nat.pow_pos (by decide))) g3;have hm:128+(c:Int) % 128=((Cf c).toNat:Int):=by rw[Cf,u8 _ (by omega)];omega
 have hb8:(Cf c).toNat<256:=(Cf c).toNat_lt;by_cases hb:128<=c
 ·have hi : i < 9 := by
   rcases Nat.lt_or_ge i 9 with h|h
   ·exact h
   ·obtain rfl:i=9:=by omega
    have e:(128:Nat) ^ 9=9223372036854775808:=by decide
    rw[e]at g3;omega
  obtain⟨k,hk⟩:∃ k,9-i=k+1:=⟨8-i,by omega⟩;rw[hk,TE hb]at g4;repeat' first|simp (disch:=omega) only[go_sem,au,aA,aB,hm,Mu]|refine aq ?_|refine ak ?_ ?_<;>intro hw<;>try omega|fail
  refine⟨(i+1,s++[Cf c],c / 128),?_,?_,?_,bJ,at_⟩<;>(try dsimp only)
  ·refine⟨by omega,by simp[g2],?_,?_⟩
   ·have e2 : c / 128 * 128 ^ (i + 1) = 128 * (c / 128) * 128 ^ i := by
     rw[fL,eP (128 ^ i) 128,<-Nat.mul_assoc,eP (c / 128) 128]
    exact Nat.lt_of_le_of_lt (by rw[e2];exact bG _ (by omega)) g3
   ·have:9-(i+1)=k:=by omega
    rw[this];simp[g4]
  ·omega
  all_goals (first|(simp[g2];done)|skip)
 ·rw[W1 (by omega)]at g4;have hlo:(c:Int)=((FN c).toNat:Int):=by rw[<-wu];omega
  have hw8:cR .u8 (c:Int)=((FN c).toNat:Int):=by rw[wrap_u8,<-wu];omega
  repeat' first|simp (disch:=omega) only[go_sem,au,aA,aB,hw8,Mu]|refine aq ?_|refine ak ?_ ?_<;>intro hw<;>try omega|fail
  exact aM (by rw[g4]) rfl
def gW(s:aJ)(hs:s.length<=2 ^ 62): ai Tryz.prog fj [.str s] (eN (takeN s)):=by
 obtain⟨E,hE⟩:∃ E,takeN s=E:=⟨_,rfl⟩;rw[hE];unfold takeN at hE;refine ai.aG (Oh (by simp) ?_) rfl;unfold EA aP;intro Q au aA aB;repeat' first|refine aq ?_|refine ak ?_ ?_<;>intro hw<;>try omega|fail
 with_reducible refine bn [2,3,4,5,6,7,8,9,10,11,12,13,14,15,16,17,18,19,20,21,22,23,24,25,26,27,28,29,30,31,32,33,34,35,36,37,38,39,40,41,42,43,44,45,46,47,48,49,50,51,52,53,54] (fun q:Nat × Nat=>[(7,I q.1),(5,.int .u64 q.2),(6,.int .u64 ((128 ^ q.1:Nat):Int))]) (fun _=>[]) (fun q=>q.1<=s.length/\q.2<128 ^ q.1/\q.1<=9/\E=pY q.1 q.2 (s.drop q.1)) (fun q=>s.length-q.1) ((0,0)) ?_ ?_ ?_ ?_
 ·exact⟨by omega,by decide,by decide,by rw[<-hE];rfl⟩
 ·rfl
 ·exact at_
 rintro⟨i,c⟩ r ⟨g1,g2,g4,g3⟩;dsimp only at g1 g2 g3 g4;by_cases hi:i<s.length
 ·rw[iP hi,pY]at g3;obtain⟨b,hb⟩:∃ b,s.getD i 0=b:=⟨_,rfl⟩;rw[hb]at g3;have hb8:b.toNat<256:=b.toNat_lt;by_cases he:(0<i/\b.toNat=0)\/(i=9/\1<b.toNat)
  ·rw[if_pos he]at g3;repeat' first|simp (disch:=omega) only[go_sem,au,aA,aB,hb]|refine aq ?_|refine ak ?_ ?_<;>intro hw<;>try omega|fail
   all_goals first
    | exact aY
    |(refine aT ?_ rfl;rw[g3])
  ·rw[if_neg he]at g3;have p9:(128:Nat) ^ i<=9223372036854775808:=iy (n:=128) (by decide) g4;have hd:Int.tmod (b.toNat:Int) 128=((b.toNat % 128:Nat):Int):=by rw[Int.tmod_eq_emod_of_nonneg (by omega)];omega
   have hsum:c+b.toNat % 128*128 ^ i<18446744073709551616:=by
    by_cases h9:i=9
    ·subst h9;have e:(128:Nat) ^ 9=9223372036854775808:=by decide
     rw[e]at g2 ⊢;omega
    ·have e:(128:Nat) ^ (i+1)<=128 ^ 9:=iy (by decide) (by omega);rw[fL]at e;have e2:(128:Nat) ^ 9=9223372036854775808:=by decide
     have:b.toNat % 128*128 ^ i<=127*128 ^ i:=bG _ (by omega);omega
   have hmul:cR .u64 (((b.toNat % 128:Nat):Int)*((128 ^ i:Nat):Int))=((b.toNat % 128*128 ^ i:Nat):Int):=by
    rw[<-Int.natCast_mul,wrap_u64];omega
   have LX:cR .u64 ((c:Int)+((b.toNat % 128*128 ^ i:Nat):Int))=((c+b.toNat % 128*128 ^ i:Nat):Int):=by
    rw[wrap_u64];omega
   have hn:=W3 _ hsum
   have hlt:c+b.toNat % 128*128 ^ i<128 ^ (i+1):=by
    rw[fL];have:b.toNat % 128*128 ^ i<=127*128 ^ i:=bG _ (by omega);omega
   have hpw:i≠9->cR .u64 (((128 ^ i:Nat):Int)*128)=((128 ^ (i+1):Nat):Int):=fun h9=>by
    have e:(128:Nat) ^ (i+1)<=128 ^ 9:=iy (by decide) (by omega);have e2:(128:Nat) ^ 9=9223372036854775808:=by decide
    rw[fL]at e ⊢;rw[wrap_u64];omega
   obtain⟨c',hc'⟩:∃ c',c+b.toNat % 128*128 ^ i=c':=⟨_,rfl⟩;rw[hc']at LX hn g3 hsum hlt;by_cases h9:b.toNat<128
   ·rw[if_pos h9]at g3;repeat' first|simp (disch:=omega) only[go_sem,au,aA,aB,hb,hd,hmul,LX]|refine aq ?_|refine aC hn ?_|refine ak ?_ ?_<;>intro hw<;>try omega|fail
    all_goals first
     | exact aY
     |(refine aT ?_ rfl;rw[g3];done)
   ·rw[if_neg h9]at g3;have hpw:=hpw (by omega);repeat' first|simp (disch:=omega) only[go_sem,au,aA,aB,hb,hd,hmul,LX,hpw]|refine aq ?_|refine aC hn ?_|refine ak ?_ ?_<;>intro hw<;>try omega|fail
    all_goals first
     | exact aY
     | (refine ⟨(i + 1, c'), ?_, ?_, by first | rfl | (simp [go_sem]; done), bJ, at_⟩ <;> (try dsimp only)
        ·exact⟨by omega,hlt,by omega,g3⟩
        ·omega)
 ·rw[dh (by omega),pY]at g3;repeat' first|refine aq ?_|refine ak ?_ ?_<;>intro hw<;>try omega|fail
  refine aT ?_ rfl;rw[g3]
def nq(s:aJ)(most:Int)(hs:s.length<=2 ^ 62): ai Tryz.prog jQ [.str s,I most] (eS (cj s most)):=by
 have h1:=gW s hs;have hl:=(dZ s).1;unfold cj;generalize takeN s=t at *;obtain⟨n,r,e⟩:=t;dsimp only at h1 hl ⊢;simp only[eN]at h1;obtain⟨E,hE⟩:∃ E,(if e≠0 then([],[],e)else if n<0 then([],[],4)else if n>most then([],[],5)else if n>r.length then([],[],3)else (r.take n.toNat,r.drop n.toNat,0):aJ × aJ × Int)=E:=⟨_,rfl⟩;rw[hE];refine ai.aG (MN (by simp) ?_) rfl;unfold Dh aP;intro Q au aA aB;by_cases hk:0<=n
 ·obtain⟨k,rfl⟩:∃ k:Nat,n=(k:Int):=⟨n.toNat,by omega⟩;repeat' first|refine aq ?_|refine aC h1 ?_|refine ak ?_ ?_<;>intro hw<;>try omega|fail
  all_goals first|exact aY|refine aT ?_ rfl
  ·rw[if_pos hw]at hE;rw[<-hE]
  ·rw[if_neg (by omega),if_neg (by omega),if_pos (by omega)]at hE;rw[<-hE]
  ·rw[if_neg (by omega),if_neg (by omega),if_neg (by omega),if_pos (by omega)]at hE;rw[<-hE]
  ·rw[if_neg (by omega),if_neg (by omega),if_neg (by omega),if_neg (by omega)]at hE;rw[<-hE];simp
 ·repeat' first|refine aq ?_|refine aC h1 ?_|refine ak ?_ ?_<;>intro hw<;>try omega|fail
  all_goals first|exact aY|refine aT ?_ rfl
  ·rw[if_pos hw]at hE;rw[<-hE]
  ·rw[if_neg (by omega),if_pos (by omega)]at hE;rw[<-hE]
def oT(s:aJ)(hs:s.length<=2 ^ 61): ai Tryz.prog je [.str s] (.str (bC s)):=by
 have h1:=jx s.length ⟨by omega,by omega⟩;have h2:=cM s.length;unfold bC;generalize cG s.length=x at *;refine ai.aG (Ue (by simp) ?_) rfl;unfold Kw aP;intro Q au aA aB;have LX:((x.length+s.length:Nat):Int)<=IntKind.i64.max:=by show _<=(9223372036854775807:Int);omega
 repeat' first|refine aq ?_|refine aC h1 ?_|refine ak ?_ ?_<;>intro hw<;>try omega|fail
 exact aM rfl rfl
def eVS(t:eg × aJ × Int): AV:= .bX [.agg [I t.1.kind,I t.1.n,.str t.1.s],.str t.2.1,I t.2.2]
def qP(t:List eg × aJ × Int): AV:= .bX [cH t.1,.str t.2.1,I t.2.2]
def aaX(s:aJ)(hs:s.length<=2 ^ 61): ai Tryz.prog CY [.str s] (eVS (kI s)):=by
 obtain⟨E,hE⟩:∃ E,kI s=E:=⟨_,rfl⟩;rw[hE];unfold kI at hE;have h1:=oz s (by omega);have hr:=dZ s;have hg:=j0 s;generalize takeN s=t at *;obtain⟨k,r,e⟩:=t;dsimp only at hE hr hg;simp only[eN]at h1;have h2:=oz r (by omega);have h3:=uv r 40 (by omega);have Tv:=j0 r;generalize takeN r=t at *;obtain⟨n,r2,e2⟩:=t;generalize cj r 40=u at *;obtain⟨x,r3,e3⟩:=u;dsimp only at hE Tv;simp only[eN,eS]at h2 h3;have c1:=nc k n [] Tv.1 Tv.2;have c2:=nc 2 0 x (by decide) (by decide);have c0:=nc 0 0 [] (by decide) (by decide);have q0:mX (bL ⟨0,0,[]⟩)=0:=rfl;rw[q0]at c0;unfold JA at hE;refine ai.aG (Um (by simp) ?_) rfl;unfold KI aP;intro Q au aA aB;by_cases he:e=0
 ·rw[if_neg (by omega)]at hE;by_cases k0:k=0
  ·rw[if_pos k0]at hE;repeat' first|simp (disch:=omega) only[go_sem,au,aA,aB,he,k0]|refine aq ?_|refine aC h1 ?_|refine aC c0 ?_|refine ak ?_ ?_<;>intro hw<;>try omega|fail
   all_goals first|exact aY|(refine aT ?_ rfl;rw[<-hE]<;>rfl)
  rw[if_neg k0]at hE;by_cases k1:k=1\/k=3
  ·rw[if_pos k1]at hE;by_cases Vr:e2=0
   ·rw[if_neg (by omega)]at hE;generalize bL ⟨k,n,[]⟩=b at *;cases b
    all_goals
     simp only[mX,if_true,Bool.false_eq_true,if_false]at c1 hE;repeat' first|simp (disch:=omega) only[go_sem,au,aA,aB,he,Vr]|refine aq ?_|refine aC h1 ?_|refine aC h2 ?_|refine aC c1 ?_|refine ak ?_ ?_<;>intro hw<;>try omega|fail
    all_goals first|exact aY|(refine aT ?_ rfl;rw[<-hE]<;>rfl)
   ·rw[if_pos Vr]at hE;repeat' first|simp (disch:=omega) only[go_sem,au,aA,aB,he]|refine aq ?_|refine aC h1 ?_|refine aC h2 ?_|refine aC c1 ?_|refine ak ?_ ?_<;>intro hw<;>try omega|fail
    all_goals first|exact aY|(refine aT ?_ rfl;rw[<-hE]<;>rfl)
  rw[if_neg k1]at hE;by_cases k2:k=2
  ·rw[if_pos k2]at hE;by_cases he3:e3=0
   ·rw[if_neg (by omega)]at hE;generalize bL ⟨2,0,x⟩=b at *;cases b
    all_goals
     simp only[mX,if_true,Bool.false_eq_true,if_false]at c2 hE;repeat' first|simp (disch:=omega) only[go_sem,au,aA,aB,he,he3,k2]|refine aq ?_|refine aC h1 ?_|refine aC h3 ?_|refine aC c2 ?_|refine ak ?_ ?_<;>intro hw<;>try omega|fail
    all_goals first|exact aY|(refine aT ?_ rfl;rw[<-hE]<;>rfl)
   ·rw[if_pos he3]at hE;repeat' first|simp (disch:=omega) only[go_sem,au,aA,aB,he,k2]|refine aq ?_|refine aC h1 ?_|refine aC h3 ?_|refine aC c2 ?_|refine ak ?_ ?_<;>intro hw<;>try omega|fail
    all_goals first|exact aY|(refine aT ?_ rfl;rw[<-hE]<;>rfl)
  rw[if_neg k2]at hE;repeat' first|simp (disch:=omega) only[go_sem,au,aA,aB,he]|refine aq ?_|refine aC h1 ?_|refine ak ?_ ?_<;>intro hw<;>try omega|fail
  all_goals first|exact aY|(refine aT ?_ rfl;rw[<-hE]<;>rfl)
 ·rw[if_pos he]at hE;repeat' first|refine aq ?_|refine aC h1 ?_|refine ak ?_ ?_<;>intro hw<;>try omega|fail
  all_goals first|exact aY|(refine aT ?_ rfl;rw[<-hE]<;>rfl)
def aaY(s:aJ)(hs:s.length<=2 ^ 61): ai Tryz.prog CV [.str s] (eVS (kI s)):=by
 obtain⟨E,hE⟩:∃ E,kI s=E:=⟨_,rfl⟩;rw[hE];unfold kI at hE;have h1:=gW s (by omega);have hr:=dZ s;have hg:=j0 s;generalize takeN s=t at *;obtain⟨k,r,e⟩:=t;dsimp only at hE hr hg;simp only[eN]at h1;have h2:=gW r (by omega);have h3:=nq r 40 (by omega);have Tv:=j0 r;have Jt:=(jh r 40).1;generalize takeN r=t at *;obtain⟨n,r2,e2⟩:=t;generalize cj r 40=u at *;obtain⟨x,r3,e3⟩:=u;dsimp only at hE Tv Jt;simp only[eN,eS]at h2 h3;have c1:=rN k n [] (by decide);have c2:=rN 2 0 x (by omega);have c0:=rN 0 0 [] (by decide);have q0:bL ⟨0,0,[]⟩=true:=rfl;rw[q0]at c0;unfold JA at hE;refine ai.aG (Ui (by simp) ?_) rfl;unfold KC aP;intro Q au aA aB;by_cases he:e=0
 ·rw[if_neg (by omega)]at hE;by_cases k0:k=0
  ·rw[if_pos k0]at hE;repeat' first|simp (disch:=omega) only[go_sem,au,aA,aB,he,k0]|refine aq ?_|refine aC h1 ?_|refine aC c0 ?_|refine ak ?_ ?_<;>intro hw<;>try omega|fail
   all_goals first|exact aY|(refine aT ?_ rfl;rw[<-hE]<;>rfl)
  rw[if_neg k0]at hE;by_cases k1:k=1\/k=3
  ·rw[if_pos k1]at hE;by_cases Vr:e2=0
   ·rw[if_neg (by omega)]at hE;generalize bL ⟨k,n,[]⟩=b at *;cases b
    all_goals
     simp only[if_true,Bool.false_eq_true,if_false]at hE;repeat' first|simp (disch:=omega) only[go_sem,au,aA,aB,he,Vr]|refine aq ?_|refine aC h1 ?_|refine aC h2 ?_|refine aC c1 ?_|refine ak ?_ ?_<;>intro hw<;>try omega|fail
    all_goals first|exact aY|(refine aT ?_ rfl;rw[<-hE]<;>rfl)
   ·rw[if_pos Vr]at hE;repeat' first|simp (disch:=omega) only[go_sem,au,aA,aB,he]|refine aq ?_|refine aC h1 ?_|refine aC h2 ?_|refine aC c1 ?_|refine ak ?_ ?_<;>intro hw<;>try omega|fail
    all_goals first|exact aY|(refine aT ?_ rfl;rw[<-hE]<;>rfl)
  rw[if_neg k1]at hE;by_cases k2:k=2
  ·rw[if_pos k2]at hE;by_cases he3:e3=0
   ·rw[if_neg (by omega)]at hE;generalize bL ⟨2,0,x⟩=b at *;cases b
    all_goals
     simp only[if_true,Bool.false_eq_true,if_false]at hE;repeat' first|simp (disch:=omega) only[go_sem,au,aA,aB,he,he3,k2]|refine aq ?_|refine aC h1 ?_|refine aC h3 ?_|refine aC c2 ?_|refine ak ?_ ?_<;>intro hw<;>try omega|fail
    all_goals first|exact aY|(refine aT ?_ rfl;rw[<-hE]<;>rfl)
   ·rw[if_pos he3]at hE;repeat' first|simp (disch:=omega) only[go_sem,au,aA,aB,he,k2]|refine aq ?_|refine aC h1 ?_|refine aC h3 ?_|refine aC c2 ?_|refine ak ?_ ?_<;>intro hw<;>try omega|fail
    all_goals first|exact aY|(refine aT ?_ rfl;rw[<-hE]<;>rfl)
  rw[if_neg k2]at hE;repeat' first|simp (disch:=omega) only[go_sem,au,aA,aB,he]|refine aq ?_|refine aC h1 ?_|refine ak ?_ ?_<;>intro hw<;>try omega|fail
  all_goals first|exact aY|(refine aT ?_ rfl;rw[<-hE]<;>rfl)
 ·rw[if_pos he]at hE;repeat' first|refine aq ?_|refine aC h1 ?_|refine ak ?_ ?_<;>intro hw<;>try omega|fail
  all_goals first|exact aY|(refine aT ?_ rfl;rw[<-hE]<;>rfl)
def DY(v:eg): aJ × Int:=if bL v then(fW v,0)else ([],2)
def Iv(v:eg): (fW v).length<=30+v.s.length:=by
 have h1:=cM v.kind;have h2:=cM v.n;have h3:=cM v.s.length;unfold fW bC;rw[List.length_append];split
 ·rw[List.length_append];omega
 split
 ·omega
 ·simp;omega
def Yh(k n:Int)(s:aJ)(hn:jG n)(hs:s.length<=2 ^ 60): ai Tryz.prog AJ [.agg [I k,I n,.str s]] (.bX [.str (DY ⟨k,n,s⟩).1,I (DY ⟨k,n,s⟩).2]):=by
 have c1:=nc k n s hn.1 hn.2;obtain⟨E,hE⟩:∃ E,DY ⟨k,n,s⟩=E:=⟨_,rfl⟩;rw[hE];unfold DY fW at hE;dsimp only at hE;have hk:=@vz ⟨k,n,s⟩;dsimp only at hk;generalize bL ⟨k,n,s⟩=b at *;cases b
 ·simp only[mX,Bool.false_eq_true,if_false]at c1 hE;refine ai.aG (Gm (by simp) ?_) rfl;unfold Bc aP;intro Q au aA aB;repeat' first|refine aq ?_|refine aC c1 ?_|refine ak ?_ ?_<;>intro hw<;>try omega|fail
  exact aT (by rw[<-hE]) rfl
 have hk:=hk rfl;simp only[mX,if_true]at c1 hE;have c2:=jw k ⟨by omega,by omega⟩;have c3:=jw n hn;have c4:=qO s (by omega);have l1:=cM k;have l2:=cM n;have l3:(bC s).length<=10+s.length:=by unfold bC;have:=cM s.length;rw[List.length_append];omega
 generalize cG k=x at *;generalize cG n=y at *;generalize bC s=z at *;have a1:((x.length+y.length:Nat):Int)<=IntKind.i64.max:=by show _<=(9223372036854775807:Int);omega
 have a2:((x.length+z.length:Nat):Int)<=IntKind.i64.max:=by show _<=(9223372036854775807:Int);omega
 refine ai.aG (Gm (by simp) ?_) rfl;unfold Bc aP;intro Q au aA aB;repeat' first|refine aq ?_|refine aC c1 ?_|refine aC c2 ?_|refine aC c3 ?_|refine aC c4 ?_|refine ak ?_ ?_<;>intro hw<;>try omega|fail
 all_goals first
  | exact aY
  |(refine aT ?_ rfl;rw[<-hE];simp_all;done)
  |(refine aT ?_ rfl;rw[<-hE,if_neg (by omega),if_neg (by omega),List.append_nil];done)
def Yi(k n:Int)(s:aJ)(hk:jG k)(hn:jG n)(hs:s.length<=2 ^ 60): ai Tryz.prog AO [.agg [I k,I n,.str s]] (.str (fW ⟨k,n,s⟩)):=by
 obtain⟨E,hE⟩:∃ E,fW ⟨k,n,s⟩=E:=⟨_,rfl⟩;rw[hE];unfold fW at hE;dsimp only at hE;have c2:=jx k hk;have c3:=jx n hn;have c4:=oT s (by omega);have l1:=cM k;have l2:=cM n;have l3:(bC s).length<=10+s.length:=by unfold bC;have:=cM s.length;rw[List.length_append];omega
 generalize cG k=x at *;generalize cG n=y at *;generalize bC s=z at *;have a1:((x.length+y.length:Nat):Int)<=IntKind.i64.max:=by show _<=(9223372036854775807:Int);omega
 have a2:((x.length+z.length:Nat):Int)<=IntKind.i64.max:=by show _<=(9223372036854775807:Int);omega
 refine ai.aG (R4 (by simp) ?_) rfl;unfold Jb aP;intro Q au aA aB;repeat' first|refine aq ?_|refine aC c2 ?_|refine aC c3 ?_|refine aC c4 ?_|refine ak ?_ ?_<;>intro hw<;>try omega|fail
 all_goals first
  | exact aY
  |(refine aM ?_ rfl;rw[<-hE];simp_all;done)
  |(refine aM ?_ rfl;rw[<-hE,if_neg (by omega),if_neg (by omega),List.append_nil];done)
end Go.Proofs.YtmbgnaoilncbnaaGreatDoor
