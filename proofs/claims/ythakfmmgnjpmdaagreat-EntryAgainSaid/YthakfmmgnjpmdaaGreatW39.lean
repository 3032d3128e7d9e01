/- Part. -/
import Derived.Test.YthakfmmgnjpmdaaGreatW38
set_option linter.all false
set_option maxHeartbeats 4000000
namespace Go.Proofs.YthakfmmgnjpmdaaGreat
open Go.AM
set_option maxRecDepth 4000
def wrap_u64(x:Int): de .u64 x=x % 18446744073709551616:=rfl
def wrap_u8(x:Int): de .u8 x=x % 256:=rfl
def wrap_i64(x:Int): de .i64 x=if 9223372036854775808<=x % 18446744073709551616 then x % 18446744073709551616-18446744073709551616 else x % 18446744073709551616:=by
 show IntKind.wrap .i64 x=_;simp[IntKind.wrap,IntKind.bits,IntKind.signed]
def xor_zero(k:IntKind)(x:Nat)(h:x<2 ^ k.bits): ((BitVec.ofInt k.bits (x:Int)) ^^^ (BitVec.ofInt k.bits 0)).toNat=x:=by
 have:BitVec.ofInt k.bits 0=0#k.bits:=by simp
 rw[this,BitVec.xor_zero];simp[hJ h]
def J4(x:Nat)(h:x<18446744073709551616)(y:Int)(hy:y % 18446744073709551616=18446744073709551615): ((BitVec.ofInt 64 (x:Int)) ^^^ (BitVec.ofInt 64 y)).toNat=18446744073709551615-x:=by
 have e:BitVec.ofInt 64 y=BitVec.allOnes 64:=by
  apply BitVec.eq_of_toNat_eq;rw[BitVec.toNat_ofInt,BitVec.toNat_allOnes];omega
 rw[e,BitVec.xor_allOnes,BitVec.toNat_not];have:(BitVec.ofInt 64 (x:Int)).toNat=x:=by rw[BitVec.toNat_ofInt];omega
 rw[this]
def X8{n:Int}(h : -9223372036854775808<=n/\n<=9223372036854775807): pQ .xor .u64 (de .u64 (de .u64 n*2)) (de .u64 (n.fdiv 9223372036854775808))=pY n:=by
 rw[mL];show de .u64 (((BitVec.ofInt 64 (de .u64 (de .u64 n*2))) ^^^ (BitVec.ofInt 64 (de .u64 (n.fdiv 9223372036854775808)))).toNat:Int)=pY n;rw[Int.fdiv_eq_ediv_of_nonneg _ (by decide)];simp only[wrap_u64];unfold pY;by_cases hn:n<0
 ·rw[if_pos hn];have e1:(n % 18446744073709551616*2 % 18446744073709551616:Int)=((2*n+18446744073709551616).toNat:Int):=by omega
  rw[e1,J4 _ (by omega) _ (by omega)];omega
 ·rw[if_neg hn];have e1:(n % 18446744073709551616*2 % 18446744073709551616:Int)=((2*n).toNat:Int):=by omega
  have e2:(n / 9223372036854775808 % 18446744073709551616:Int)=0:=by omega
  rw[e1,e2];have:=xor_zero .u64 (2*n).toNat (by show _<18446744073709551616;omega);have e3:IntKind.u64.bits=64:=rfl;rw[e3]at this;rw[this];omega
def QX(w k x:Nat)(hx:x<2 ^ w)(hk:k<=w): ((BitVec.ofInt w (x:Int)) &&& (BitVec.ofInt w ((2 ^ k-1:Nat):Int))).toNat=x % 2 ^ k:=by
 have h2:2 ^ k-1<2 ^ w:=dz (Nat.sub_lt (Nat.pow_pos (by decide)) (by decide)) (Nat.pow_le_pow_right (by decide) hk);rw[BitVec.toNat_and];have e1:(BitVec.ofInt w (x:Int)).toNat=x:=by rw[BitVec.ofInt_natCast,BitVec.toNat_ofNat,hJ hx]
 have e2:(BitVec.ofInt w ((2 ^ k-1:Nat):Int)).toNat=2 ^ k-1:=by rw[BitVec.ofInt_natCast,BitVec.toNat_ofNat,hJ h2]
 rw[e1,e2,Nat.and_two_pow_sub_one_eq_mod]
def aae{c:Nat}(h:c<18446744073709551616): pQ .xor .i64 (de .i64 ((c:Int).fdiv 2)) (de .i64 (0-de .i64 (pQ .and .u64 (c:Int) 1)))=x7 c:=by
 rw[mL]
 have ha:nA .and .u64 (c:Int) 1=((c % 2:Nat):Int):=by
  show de .u64 (((BitVec.ofInt 64 (c:Int)) &&& (BitVec.ofInt 64 1)).toNat:Int)=_;have:=QX 64 1 c h (by decide);have e:((2 ^ 1-1:Nat):Int)=1:=by decide
  rw[e]at this;rw[this,wrap_u64];omega
 rw[ha,Int.fdiv_eq_ediv_of_nonneg _ (by decide)];show de .i64 (((BitVec.ofInt 64 (de .i64 ((c:Int) / 2))) ^^^ (BitVec.ofInt 64 (de .i64 (0-de .i64 ((c % 2:Nat):Int))))).toNat:Int)=x7 c;have e1:de .i64 ((c:Int) / 2)=((c / 2:Nat):Int):=by rw[wrap_i64];split<;>omega
 have e2:de .i64 ((c % 2:Nat):Int)=((c % 2:Nat):Int):=by rw[wrap_i64];split<;>omega
 rw[e1,e2];unfold x7;by_cases hn:c % 2=1
 ·rw[if_pos hn,J4 _ (by omega) _ (by rw[wrap_i64];split<;>omega),wrap_i64];split<;>omega
 ·rw[if_neg hn];have e3:de .i64 (0-((c % 2:Nat):Int))=0:=by rw[wrap_i64];split<;>omega
  rw[e3];have:=xor_zero .i64 (c / 2) (by show _<18446744073709551616;omega);have e3:IntKind.i64.bits=64:=rfl;rw[e3]at this;rw[this,wrap_i64];split<;>omega
def QY{x:Int}{c:Nat}(h:x % 256=((c % 256:Nat):Int)): pQ .and .u8 (de .u8 x) 127=((c % 128:Nat):Int):=by
 rw[mL];show de .u8 (((BitVec.ofInt 8 (de .u8 x)) &&& (BitVec.ofInt 8 127)).toNat:Int)=_;have:=QX 8 7 (c % 256) (by omega) (by decide);have e:((2 ^ 7-1:Nat):Int)=127:=by decide
 rw[e]at this;rw[wrap_u8 x,h,this,wrap_u8];omega
def X9{w k x:Nat}{y:Nat}(hx:x<2 ^ k)(hw:2 ^ k*y+x<2 ^ w): ((BitVec.ofInt w (x:Int)) |||(BitVec.ofInt w ((2 ^ k*y:Nat):Int))).toNat=2 ^ k*y+x:=by
 rw[BitVec.toNat_or];have e1:(BitVec.ofInt w (x:Int)).toNat=x:=by rw[BitVec.ofInt_natCast,BitVec.toNat_ofNat,hJ (by omega)]
 have e2:(BitVec.ofInt w ((2 ^ k*y:Nat):Int)).toNat=2 ^ k*y:=by rw[BitVec.ofInt_natCast,BitVec.toNat_ofNat,hJ (by omega)]
 rw[e1,e2,Nat.or_comm,Nat.two_pow_add_eq_or_of_lt hx]
def X_{d:Nat}(h:d<128): pQ .or .u8 (d:Int) 128=((128+d:Nat):Int):=by
 rw[mL];show de .u8 (((BitVec.ofInt 8 (d:Int)) |||(BitVec.ofInt 8 128)).toNat:Int)=_;have:=X9 (w:=8) (k:=7) (x:=d) (y:=1) (by omega) (by omega);have e:((2 ^ 7*1:Nat):Int)=128:=by decide
 rw[e]at this;rw[this,wrap_u8];omega
def aaf{c d i:Nat}(hc:c<128 ^ i)(h:c+d*128 ^ i<18446744073709551616): pQ .or .u64 (c:Int) (de .u64 ((d:Int)*2 ^ (7*i)))=((c+d*128 ^ i:Nat):Int):=by
 have e0:(2:Nat) ^ (7*i)=128 ^ i:=by rw[Nat.pow_mul]
 have e1:((d:Int)*2 ^ (7*i))=((2 ^ (7*i)*d:Nat):Int):=by push_cast;rw[Int.mul_comm]
 rw[mL,e1];have h2:2 ^ (7*i)*d<18446744073709551616:=by rw[e0,fL];omega
 have e2:de .u64 ((2 ^ (7*i)*d:Nat):Int)=((2 ^ (7*i)*d:Nat):Int):=by rw[wrap_u64];omega
 rw[e2];show de .u64 (((BitVec.ofInt 64 (c:Int)) |||(BitVec.ofInt 64 ((2 ^ (7*i)*d:Nat):Int))).toNat:Int)=_;rw[X9 (by rw[e0];exact hc) (by rw[e0,fL];omega),wrap_u64,e0,fL];omega
def zG(c:Nat): UInt8:=UInt8.ofNat (c % 128)
def wN(c:Nat): UInt8:=UInt8.ofNat (128+c % 128)
def sC(c:Nat): ((c % 128:Nat):Int)=((zG c).toNat:Int):=by rw[zG,u8 _ (by omega)]
def Ya(c:Nat): pQ .or .u8 ((zG c).toNat:Int) 128=((wN c).toNat:Int):=by
 rw[<-sC,X_ (by omega),wN,u8 _ (by omega)]
def Fw(s:aS)(b:UInt8): DY s++[AV.int .u8 b.toNat]=DY (s++[b]):=by simp
def QZ{k c:Nat}(h:c<128): sB k c=[zG c]:=by
 rw[zG,Nat.mod_eq_of_lt h];cases k with
 | zero=>rfl
 | succ k=>rw[sB,if_pos h]
def M1{k c:Nat}(h:128<=c): sB (k+1) c=wN c::sB k (c / 128):=by rw[sB,if_neg (by omega)];rfl
def VE(n:Int)(h:mz n): aF aD 98 [I n] (.int .u64 (pY n)):=by
 refine aK Nz ?_;intro Q aq au aA;repeat' first|refine ak ?_|refine aj ?_ ?_<;>intro hw<;>try omega|fail
 refine aN ?_ rfl;exact congrArg (AV.int .u64) (X8 h)
def Sy(c:Nat): aF aD 99 [.int .u64 c] (.int .u8 ((zG c).toNat)):=by
 refine aK CU ?_;intro Q aq au aA;repeat' first|refine ak ?_|refine aj ?_ ?_<;>intro hw<;>try omega|fail
 refine aN ?_ rfl;refine congrArg (AV.int .u8) ?_;rw[<-sC];exact QY (by omega)
def VF(c:Nat): aF aD 101 [I c] (.int .u8 ((zG c).toNat)):=by
 refine aK Hh ?_;intro Q aq au aA;repeat' first|refine ak ?_|refine aj ?_ ?_<;>intro hw<;>try omega|fail
 refine aN ?_ rfl;refine congrArg (AV.int .u8) ?_;rw[<-sC];exact QY (by omega)
def Q0(c:Nat)(h:c<18446744073709551616): aF aD 102 [.int .u64 c] (I (x7 c)):=by
 refine aK IX ?_;intro Q aq au aA;repeat' first|refine ak ?_|refine aj ?_ ?_<;>intro hw<;>try omega|fail
 refine aN ?_ rfl;exact congrArg I (aae h)
def nP(n:Int)(h:mz n): aF aD 60 [I n] (.str (fj n)):=by
 have hc:=HT h.1 h.2;obtain⟨E,hE⟩:∃ E,fj n=E:=⟨_,rfl⟩;rw[hE];unfold fj at hE;have h1:=VE n h;generalize pY n=c0 at *;refine aK Ph ?_;intro Q aq au aA;repeat' first|refine ak ?_|refine cW h1 ?_|refine aj ?_ ?_<;>intro hw<;>try omega|fail
 with_reducible refine aX [3,4,8,9,10,11,12,13,14,15,16,17] (fun q:Nat × aS × Nat=>[(3,.int .u64 q.2.2),(4,.own E1 0 q.2.1.length 0 q.2.1.length)]) (fun q=>[.vec E1 (DY q.2.1)]) (fun q=>q.1<=9/\q.2.1.length=q.1/\q.2.2*128 ^ q.1<18446744073709551616/\E=q.2.1++sB (9-q.1) q.2.2) (fun q=>10-q.1) ((0,[],c0)) ?_ ?_ ?_ ?_
 ·exact⟨by omega,rfl,by show c0*1<_;omega,by simp[hE]⟩
 ·rfl
 ·exact at_
 rintro⟨i,s,c⟩ r ⟨g1,g2,g3,g4⟩;dsimp only at g1 g2 g3 g4;have hl:=Sy c;have hm:=Ya c
 have hq:(c:Int).fdiv (2 ^ (Int.toNat 7).min 64)=((c / 128:Nat):Int):=by
  show(c:Int).fdiv 128=_;rw[Int.fdiv_eq_ediv_of_nonneg _ (by decide)];omega
 by_cases hb:128<=c
 ·have hi : i < 9 := by
   rcases Nat.lt_or_ge i 9 with h|h
   ·exact h
   ·obtain rfl:i=9:=by omega
    have e:(128:Nat) ^ 9=9223372036854775808:=by decide
    rw[e]at g3;omega
  obtain⟨k,hk⟩:∃ k,9-i=k+1:=⟨8-i,by omega⟩;rw[hk,M1 hb]at g4;repeat' first|simp (disch:=omega) only[go_sem,aq,au,aA,hm,hq,Fw]|refine ak ?_|refine cW hl ?_|refine aj ?_ ?_<;>intro hw<;>try omega|fail
  refine⟨(i+1,s++[wN c],c / 128),?_,?_,?_,bK,at_⟩<;>(try dsimp only)
  ·refine⟨by omega,by simp[g2],?_,?_⟩
   ·have e2 : c / 128 * 128 ^ (i + 1) = 128 * (c / 128) * 128 ^ i := by
     rw[Nat.pow_succ,fL (128 ^ i) 128,<-Nat.mul_assoc,fL (c / 128) 128]
    exact Nat.lt_of_le_of_lt (by rw[e2];exact bL _ (by omega)) g3
   ·have:9-(i+1)=k:=by omega
    rw[this];simp[g4]
  ·omega
  all_goals (simp[g2];done)
 ·rw[QZ (by omega)]at g4;repeat' first|simp (disch:=omega) only[go_sem,aq,au,aA,Fw]|refine ak ?_|refine cW hl ?_|refine aj ?_ ?_<;>intro hw<;>try omega|fail
  exact aN (by rw[g4]) rfl
def eN(t:Int × aS × Int): AV:= .bJ [I t.1,.str t.2.1,I t.2.2]
def eS(t:aS × aS × Int): AV:= .bJ [.str t.1,.str t.2.1,I t.2.2]
def o_(s:aS)(hs:s.length<=2 ^ 62): aF aD 64 [.str s] (eN (takeN s)):=by
 obtain⟨E,hE⟩:∃ E,takeN s=E:=⟨_,rfl⟩;rw[hE];unfold takeN at hE;obtain⟨m,zL,Ma⟩:∃ m:Nat,m=min s.length 10/\(if(10:Int)<(s.length:Int)then (10:Int)else (s.length:Int))=(m:Int):=⟨min s.length 10,rfl,by split<;>omega⟩;refine aK G8 ?_;intro Q aq au aA;repeat' first|simp (disch:=omega) only[go_sem,aq,au,aA,Ma]|refine ak ?_|refine aj ?_ ?_<;>intro hw<;>try omega|fail
 with_reducible refine aX [2,3,4,5,6,7,11,12,13,14,15,16,17,18,19,20,21,22,23,24,25,26,27,28,29,30,31,32,33,34,35,36,37,38,39,40,41,42,43,44,45,46,47,48] (fun q:Nat × Nat=>[(11,I q.1),(5,.int .u64 q.2)]) (fun _=>[]) (fun q=>q.1<=m/\q.2<128 ^ q.1/\q.1<=9/\E=rQ q.1 q.2 (s.drop q.1)) (fun q=>m-q.1) ((0,0)) ?_ ?_ ?_ ?_
 ·exact⟨by omega,by decide,by decide,by rw[<-hE];rfl⟩
 ·rfl
 ·exact at_
 rintro⟨i,c⟩ r ⟨g1,g2,g4,g3⟩;dsimp only at g1 g2 g3 g4;by_cases hi:i<m
 ·have hil:i<s.length:=by omega
  rw[jy hil,rQ]at g3;obtain⟨b,hb⟩:∃ b,s.getD i 0=b:=⟨_,rfl⟩;rw[hb]at g3;have hb8:b.toNat<256:=b.toNat_lt;by_cases he:(0<i/\b.toNat=0)\/(i=9/\1<b.toNat)
  ·rw[if_pos he]at g3;repeat' first|simp (disch:=omega) only[go_sem,aq,au,aA,hb]|refine ak ?_|refine aj ?_ ?_<;>intro hw<;>try omega|fail
   all_goals first
    | exact aP
    |(refine bt ?_ rfl;rw[g3])
  ·rw[if_neg he]at g3;have hl:=VF b.toNat
   have hmin:Nat.min ((7*(i:Int)).toNat) 64=7*i:=by show min _ 64=_;omega
   have aag:c+b.toNat % 128*128 ^ i<18446744073709551616:=by
    by_cases h9:i=9
    ·subst h9;have e:(128:Nat) ^ 9=9223372036854775808:=by decide
     rw[e]at g2 ⊢;omega
    ·have e:(128:Nat) ^ (i+1)<=128 ^ 9:=Nat.pow_le_pow_right (by decide) (by omega);rw[Nat.pow_succ]at e;have e2:(128:Nat) ^ 9=9223372036854775808:=by decide
     have:b.toNat % 128*128 ^ i<=127*128 ^ i:=bL _ (by omega);omega
   have hacc:=aaf g2 aag;rw[sC]at hacc;have ahN:((zG b.toNat).toNat:Int)<128:=by rw[<-sC];omega
   have hn:=Q0 _ aag;obtain⟨c',ny⟩:∃ c',c+b.toNat % 128*128 ^ i=c':=⟨_,rfl⟩;rw[ny]at hacc hn g3 aag;repeat' first|simp (disch:=omega) only[go_sem,aq,au,aA,hb,hmin,hacc]|refine ak ?_|refine cW hl ?_|refine cW hn ?_|refine aj ?_ ?_<;>intro hw<;>try omega|fail
   all_goals first
    | exact aP
    |(rw[if_pos (by omega)]at g3;refine bt ?_ rfl;rw[g3];done)
    | (rw [if_neg (by omega)] at g3
       refine⟨(i+1,c'),?_,?_,by first|rfl|(simp[go_sem];done),bK,at_⟩<;>(try dsimp only)
       ·refine⟨by omega,?_,by omega,g3⟩;rw[Nat.pow_succ,<-ny];have:b.toNat % 128*128 ^ i<=127*128 ^ i:=bL _ (by omega);omega
       ·omega)
 ·rw[a_ (by omega),rQ]at g3;repeat' first|refine ak ?_|refine aj ?_ ?_<;>intro hw<;>try omega|fail
  refine bt ?_ rfl;rw[g3]
def VG(s:aS)(most:Int)(hs:s.length<=2 ^ 62): aF aD 63 [.str s,I most] (eN (if(takeN s).2.2≠0 then(0,[],(takeN s).2.2)else if(takeN s).1<0 then(0,[],4)else if(takeN s).1>most then(0,[],5)else ((takeN s).1,(takeN s).2.1,0))):=by
 have h1:=o_ s hs;generalize takeN s=t at *;obtain⟨n,r,e⟩:=t;simp only[eN]at h1;refine aK Nr ?_;intro Q aq au aA;repeat' first|refine ak ?_|refine aj ?_ ?_<;>intro hw<;>try omega|fail
 all_goals (refine bt ?_ rfl)
 ·rw[if_pos hw]
 ·rw[if_neg (by omega),if_pos (by omega)]
 ·rw[if_neg (by omega),if_neg (by omega),if_pos (by omega)]
 ·rw[if_neg (by omega),if_neg (by omega),if_neg (by omega)]
def AO(s:aS)(most:Int)(hs:s.length<=2 ^ 62): aF aD 33 [.str s,I most] (eS (jc s most)):=by
 have h1:=VG s most hs;have hl:=(jC s).1;unfold jc;generalize takeN s=t at *;obtain⟨n,r,e⟩:=t;dsimp only at h1 hl ⊢;by_cases c1:e≠0
 ·rw[if_pos c1]at h1 ⊢;simp only[eN]at h1;refine aK l8 ?_;intro Q aq au aA;repeat' first|refine ak ?_|refine aj ?_ ?_<;>intro hw<;>try omega|fail
  exact bt rfl rfl
 by_cases c2:n<0
 ·rw[if_neg c1,if_pos c2]at h1 ⊢;simp only[eN]at h1;refine aK l8 ?_;intro Q aq au aA;repeat' first|refine ak ?_|refine aj ?_ ?_<;>intro hw<;>try omega|fail
  exact bt rfl rfl
 by_cases c3:n>most
 ·rw[if_neg c1,if_neg c2,if_pos c3]at h1 ⊢;simp only[eN]at h1;refine aK l8 ?_;intro Q aq au aA;repeat' first|refine ak ?_|refine aj ?_ ?_<;>intro hw<;>try omega|fail
  exact bt rfl rfl
 rw[if_neg c1,if_neg c2,if_neg c3]at h1 ⊢;simp only[eN]at h1;by_cases c4:n>r.length
 ·rw[if_pos c4];refine aK l8 ?_;intro Q aq au aA;repeat' first|refine ak ?_|refine aj ?_ ?_<;>intro hw<;>try omega|fail
  exact bt rfl rfl
 rw[if_neg c4];obtain⟨k,rfl⟩:∃ k:Nat,n=(k:Int):=⟨n.toNat,by omega⟩;refine aK l8 ?_;intro Q aq au aA;repeat' first|refine ak ?_|refine aj ?_ ?_<;>intro hw<;>try omega|fail
 refine bt ?_ rfl;simp
def J5(s:aS)(hs:s.length<=2 ^ 61): aF aD 59 [.str s] (.str (kL s)):=by
 have h1:=nP s.length ⟨by omega,by omega⟩;have h2:=fD s.length;unfold kL;generalize fj s.length=x at *;refine aK Nq ?_;intro Q aq au aA;have EO:((x.length+s.length:Nat):Int)<=IntKind.i64.max:=by show _<=(9223372036854775807:Int);omega
 repeat' first|refine ak ?_|refine aj ?_ ?_<;>intro hw<;>try omega|fail
 exact aN rfl rfl
def VH(n:Int)(h:mz n): aF aD 96 [I n] (.int .u64 (pY n)):=by
 obtain⟨h1,h2⟩:=h;refine aK Ny ?_;intro Q aq au aA;repeat' first|refine ak ?_|refine aj ?_ ?_<;>intro hw<;>try omega|fail
 all_goals (refine aN ?_ rfl;refine congrArg (AV.int .u64) ?_;unfold pY)
 ·rw[if_pos (by omega)];omega
 ·rw[if_neg (by omega)];omega
def nQ(n:Int)(h:mz n): aF aD 52 [I n] (.str (fj n)):=by
 have hc:=HT h.1 h.2;obtain⟨E,hE⟩:∃ E,fj n=E:=⟨_,rfl⟩;rw[hE];unfold fj at hE;have h1:=VH n h;generalize pY n=c0 at *;refine aK Pf ?_;intro Q aq au aA;repeat' first|refine ak ?_|refine cW h1 ?_|refine aj ?_ ?_<;>intro hw<;>try omega|fail
 with_reducible refine aX [3,4,7,8,9,10,11,12,13,14,15,16,17] (fun q:Nat × aS × Nat=>[(3,.int .u64 q.2.2),(4,.own E1 0 q.2.1.length 0 q.2.1.length)]) (fun q=>[.vec E1 (DY q.2.1)]) (fun q=>q.1<=9/\q.2.1.length=q.1/\q.2.2*128 ^ q.1<18446744073709551616/\E=q.2.1++sB (9-q.1) q.2.2) (fun q=>10-q.1) ((0,[],c0)) ?_ ?_ ?_ ?_
 ·exact⟨by omega,rfl,by show c0*1<_;omega,by simp[hE]⟩
 ·rfl
 ·exact at_
 rintro⟨i,s,c⟩ r ⟨g1,g2,g3,g4⟩;dsimp only at g1 g2 g3 g4;have ahO:c<18446744073709551616:=Nat.lt_of_le_of_lt (Nat.le_mul_of_pos_right c (Nat.pow_pos (by decide))) g3;have hm:128+(c:Int) % 128=((wN c).toNat:Int):=by rw[wN,u8 _ (by omega)];omega
 have hb8:(wN c).toNat<256:=(wN c).toNat_lt;by_cases hb:128<=c
 ·have hi : i < 9 := by
   rcases Nat.lt_or_ge i 9 with h|h
   ·exact h
   ·obtain rfl:i=9:=by omega
    have e:(128:Nat) ^ 9=9223372036854775808:=by decide
    rw[e]at g3;omega
  obtain⟨k,hk⟩:∃ k,9-i=k+1:=⟨8-i,by omega⟩;rw[hk,M1 hb]at g4;repeat' first|simp (disch:=omega) only[go_sem,aq,au,aA,hm,Fw]|refine ak ?_|refine aj ?_ ?_<;>intro hw<;>try omega|fail
  refine⟨(i+1,s++[wN c],c / 128),?_,?_,?_,bK,at_⟩<;>(try dsimp only)
  ·refine⟨by omega,by simp[g2],?_,?_⟩
   ·have e2 : c / 128 * 128 ^ (i + 1) = 128 * (c / 128) * 128 ^ i := by
     rw[Nat.pow_succ,fL (128 ^ i) 128,<-Nat.mul_assoc,fL (c / 128) 128]
    exact Nat.lt_of_le_of_lt (by rw[e2];exact bL _ (by omega)) g3
   ·have:9-(i+1)=k:=by omega
    rw[this];simp[g4]
  ·omega
  all_goals (first|(simp[g2];done)|skip)
 ·rw[QZ (by omega)]at g4;have hlo:(c:Int)=((zG c).toNat:Int):=by rw[<-sC];omega
  have hw8:de .u8 (c:Int)=((zG c).toNat:Int):=by rw[wrap_u8,<-sC];omega
  repeat' first|simp (disch:=omega) only[go_sem,aq,au,aA,hw8,Fw]|refine ak ?_|refine aj ?_ ?_<;>intro hw<;>try omega|fail
  exact aN (by rw[g4]) rfl
def J6(s:aS)(hs:s.length<=2 ^ 61): aF aD 51 [.str s] (.str (kL s)):=by
 have h1:=nQ s.length ⟨by omega,by omega⟩;have h2:=fD s.length;unfold kL;generalize fj s.length=x at *;refine aK Nn ?_;intro Q aq au aA;have EO:((x.length+s.length:Nat):Int)<=IntKind.i64.max:=by show _<=(9223372036854775807:Int);omega
 repeat' first|refine ak ?_|refine aj ?_ ?_<;>intro hw<;>try omega|fail
 exact aN rfl rfl
def eVS(t:aH × aS × Int): AV:= .bJ [.agg [I t.1.kind,I t.1.n,.str t.1.s],.str t.2.1,I t.2.2]
def aah(t:List aH × aS × Int): AV:= .bJ [aL t.1,.str t.2.1,I t.2.2]
def VI(s:aS)(hs:s.length<=2 ^ 61): aF aD 103 [.str s] (eVS (mw s)):=by
 obtain⟨E,hE⟩:∃ E,mw s=E:=⟨_,rfl⟩;rw[hE];unfold mw at hE;have h1:=o_ s (by omega);have hr:=jC s;have hg:=qD s;generalize takeN s=t at *;obtain⟨k,r,e⟩:=t;dsimp only at hE hr hg;simp only[eN]at h1;have h2:=o_ r (by omega);have h3:=AO r 40 (by omega);have hg2:=qD r;generalize takeN r=t at *;obtain⟨n,r2,e2⟩:=t;generalize jc r 40=u at *;obtain⟨x,r3,e3⟩:=u;dsimp only at hE hg2;simp only[eN,eS]at h2 h3;have c1:=jT k n [] hg2.1 hg2.2;have c2:=jT 2 0 x (by decide) (by decide);have c0:=jT 0 0 [] (by decide) (by decide);have q0:iz (bp ⟨0,0,[]⟩)=0:=rfl;rw[q0]at c0;unfold EN at hE;refine aK NA ?_;intro Q aq au aA;by_cases he:e=0
 ·rw[if_neg (by omega)]at hE;by_cases k0:k=0
  ·rw[if_pos k0]at hE;repeat' first|simp (disch:=omega) only[go_sem,aq,au,aA,he,k0]|refine ak ?_|refine cW h1 ?_|refine cW c0 ?_|refine aj ?_ ?_<;>intro hw<;>try omega|fail
   all_goals first|exact aP|(refine bt ?_ rfl;rw[<-hE]<;>rfl)
  rw[if_neg k0]at hE;by_cases k1:k=1\/k=3
  ·rw[if_pos k1]at hE;by_cases he2:e2=0
   ·rw[if_neg (by omega)]at hE;generalize bp ⟨k,n,[]⟩=b at *;cases b
    all_goals
     simp only[iz,if_true,aI,if_false]at c1 hE;repeat' first|simp (disch:=omega) only[go_sem,aq,au,aA,he,he2]|refine ak ?_|refine cW h1 ?_|refine cW h2 ?_|refine cW c1 ?_|refine aj ?_ ?_<;>intro hw<;>try omega|fail
    all_goals first|exact aP|(refine bt ?_ rfl;rw[<-hE]<;>rfl)
   ·rw[if_pos he2]at hE;repeat' first|simp (disch:=omega) only[go_sem,aq,au,aA,he]|refine ak ?_|refine cW h1 ?_|refine cW h2 ?_|refine cW c1 ?_|refine aj ?_ ?_<;>intro hw<;>try omega|fail
    all_goals first|exact aP|(refine bt ?_ rfl;rw[<-hE]<;>rfl)
  rw[if_neg k1]at hE;by_cases k2:k=2
  ·rw[if_pos k2]at hE;by_cases he3:e3=0
   ·rw[if_neg (by omega)]at hE;generalize bp ⟨2,0,x⟩=b at *;cases b
    all_goals
     simp only[iz,if_true,aI,if_false]at c2 hE;repeat' first|simp (disch:=omega) only[go_sem,aq,au,aA,he,he3,k2]|refine ak ?_|refine cW h1 ?_|refine cW h3 ?_|refine cW c2 ?_|refine aj ?_ ?_<;>intro hw<;>try omega|fail
    all_goals first|exact aP|(refine bt ?_ rfl;rw[<-hE]<;>rfl)
   ·rw[if_pos he3]at hE;repeat' first|simp (disch:=omega) only[go_sem,aq,au,aA,he,k2]|refine ak ?_|refine cW h1 ?_|refine cW h3 ?_|refine cW c2 ?_|refine aj ?_ ?_<;>intro hw<;>try omega|fail
    all_goals first|exact aP|(refine bt ?_ rfl;rw[<-hE]<;>rfl)
  rw[if_neg k2]at hE;repeat' first|simp (disch:=omega) only[go_sem,aq,au,aA,he]|refine ak ?_|refine cW h1 ?_|refine aj ?_ ?_<;>intro hw<;>try omega|fail
  all_goals first|exact aP|(refine bt ?_ rfl;rw[<-hE]<;>rfl)
 ·rw[if_pos he]at hE;repeat' first|refine ak ?_|refine cW h1 ?_|refine aj ?_ ?_<;>intro hw<;>try omega|fail
  all_goals first|exact aP|(refine bt ?_ rfl;rw[<-hE]<;>rfl)
def ya(v:aH): aS × Int:=if bp v then(iB v,0)else ([],2)
def Cb(v:aH): (iB v).length<=30+v.s.length:=by
 have h1:=fD v.kind;have h2:=fD v.n;have h3:=fD v.s.length;unfold iB kL;rw[List.length_append];split
 ·rw[List.length_append];omega
 split
 ·omega
 ·simp;omega
def Sz(k n:Int)(s:aS)(hn:mz n)(hs:s.length<=2 ^ 60): aF aD 100 [.agg [I k,I n,.str s]] (.bJ [.str (ya ⟨k,n,s⟩).1,I (ya ⟨k,n,s⟩).2]):=by
 have c1:=jT k n s hn.1 hn.2;obtain⟨E,hE⟩:∃ E,ya ⟨k,n,s⟩=E:=⟨_,rfl⟩;rw[hE];unfold ya iB at hE;dsimp only at hE;have hk:=@uZ ⟨k,n,s⟩;dsimp only at hk;generalize bp ⟨k,n,s⟩=b at *;cases b
 ·simp only[iz,aI,if_false]at c1 hE;refine aK zX ?_;intro Q aq au aA;repeat' first|refine ak ?_|refine aj ?_ ?_<;>intro hw<;>try omega|fail
  exact bt (by rw[<-hE]) rfl
 have hk:=hk rfl;simp only[iz,if_true]at c1 hE;have c2:=nP k ⟨by omega,by omega⟩;have c3:=nP n hn;have c4:=J5 s (by omega);have l1:=fD k;have l2:=fD n;have l3:(kL s).length<=10+s.length:=by unfold kL;have:=fD s.length;rw[List.length_append];omega
 generalize fj k=x at *;generalize fj n=y at *;generalize kL s=z at *;have a1:((x.length+y.length:Nat):Int)<=IntKind.i64.max:=by show _<=(9223372036854775807:Int);omega
 have a2:((x.length+z.length:Nat):Int)<=IntKind.i64.max:=by show _<=(9223372036854775807:Int);omega
 refine aK zX ?_;intro Q aq au aA;repeat' first|refine ak ?_|refine aj ?_ ?_<;>intro hw<;>try omega|fail
 all_goals first
  | exact aP
  |(refine bt ?_ rfl;rw[<-hE];simp_all;done)
  |(refine bt ?_ rfl;rw[<-hE,if_neg (by omega),if_neg (by omega),bH];done)
def SA(k n:Int)(s:aS)(hk:mz k)(hn:mz n)(hs:s.length<=2 ^ 60): aF aD 97 [.agg [I k,I n,.str s]] (.str (iB ⟨k,n,s⟩)):=by
 obtain⟨E,hE⟩:∃ E,iB ⟨k,n,s⟩=E:=⟨_,rfl⟩;rw[hE];unfold iB at hE;dsimp only at hE;have c2:=nQ k hk;have c3:=nQ n hn;have c4:=J6 s (by omega);have l1:=fD k;have l2:=fD n;have l3:(kL s).length<=10+s.length:=by unfold kL;have:=fD s.length;rw[List.length_append];omega
 generalize fj k=x at *;generalize fj n=y at *;generalize kL s=z at *;have a1:((x.length+y.length:Nat):Int)<=IntKind.i64.max:=by show _<=(9223372036854775807:Int);omega
 have a2:((x.length+z.length:Nat):Int)<=IntKind.i64.max:=by show _<=(9223372036854775807:Int);omega
 refine aK KS ?_;intro Q aq au aA;repeat' first|refine ak ?_|refine aj ?_ ?_<;>intro hw<;>try omega|fail
 all_goals first
  | exact aP
  |(refine aN ?_ rfl;rw[<-hE];simp_all;done)
  |(refine aN ?_ rfl;rw[<-hE,if_neg (by omega),if_neg (by omega),bH];done)
def qE(v:aH): Bool:=decide (v.s.length<=300)
def N9(s:aS)(most:Int)(hs:s.length<=2 ^ 30): aF aD 65 [.str s,I most] (aah (ju s most)):=by
 have h1:=o_ s (by omega);have hr:=jC s;obtain⟨E,hE⟩:∃ E,ju s most=E:=⟨_,rfl⟩;rw[hE];unfold ju at hE;generalize takeN s=t at *;obtain⟨n,r,e⟩:=t;dsimp only at hE hr;simp only[eN]at h1;refine aK G9 ?_ (by simp[aah]);intro Q aq au aA;by_cases hb:e≠0\/n<0\/n>most
 ·repeat' first|refine ak ?_|refine aj ?_ ?_<;>intro hw<;>try omega|fail
  all_goals first|exact aP|refine cN ?_
  ·rw[if_pos (by omega)]at hE;rw[<-hE];exact xC
  ·rw[if_neg (by omega),if_pos (by omega)]at hE;rw[<-hE];exact xC
  ·rw[if_neg (by omega),if_neg (by omega),if_pos (by omega)]at hE;rw[<-hE];exact xC
 rw[if_neg (by omega),if_neg (by omega),if_neg (by omega)]at hE;repeat' first|refine ak ?_|refine aj ?_ ?_<;>intro hw<;>try omega|fail
 all_goals first|exact aP|skip
 with_reducible refine aX [4,5,6,8,9,10,11,29,30,31,32,33,34,35,36,37,38,39,40,41,42,43,44,45] (fun q:List aH × aS × List bE=>[(10,.own EV 0 q.1.length 0 q.1.length),(8,.str q.2.1)]) (fun q=> .vec EV (q.1.map bD)::q.2.2) (fun q=>q.1.length+q.2.1.length<=2 ^ 30/\q.1.length<=n.toNat/\E=kN (n.toNat-q.1.length) q.1 q.2.1) (fun q=>n.toNat-q.1.length) (([],r,[])) ?_ ?_ ?_ ?_
 ·exact⟨by simp;omega,by simp,hE.symm⟩
 ·rfl
 ·exact at_
 rintro⟨out,r,τ⟩ u ⟨g1,g2,g3⟩;dsimp only at g1 g2 g3;by_cases hn:(out.length:Int)<n
 ·obtain⟨k,hk⟩:∃ k,n.toNat-out.length=k+1:=⟨n.toNat-out.length-1,by omega⟩;rw[hk,kN]at g3;have h2:=VI r (by omega);have hv:=QS r;generalize mw r=t at *;obtain⟨v,r2,e2⟩:=t;dsimp only at g3 hv;simp only[eVS]at h2;by_cases he:e2=0
  ·rw[if_neg (by omega)]at g3;have hlt:=hv.2.1 he;repeat' first|simp (disch:=omega) only[go_sem,aq,au,aA,he]|refine ak ?_|refine aj ?_ ?_<;>intro hw<;>try omega|fail
   all_goals first
    | exact aP
    | (refine ⟨(out ++ [v], r2, τ ++ [bE.cells [I v.kind, I v.n, .str v.s]]), ?_, ?_, ?_, bK, at_⟩
       ·have e:n.toNat-(out++[v]).length=k:=by simp;omega
        dsimp only;rw[e];exact⟨by simp;omega,by simp;omega,g3⟩
       ·simp;omega
       ·first|rfl|(simp[go_sem];done))
  ·rw[if_pos he]at g3;repeat' first|refine ak ?_|refine aj ?_ ?_<;>intro hw<;>try omega|fail
   all_goals first|exact aP|(refine cN ?_;rw[g3];exact xC)
 ·have:n.toNat-out.length=0:=by omega
  rw[this,kN]at g3;repeat' first|refine ak ?_|refine aj ?_ ?_<;>intro hw<;>try omega|fail
  refine cN ?_;rw[g3];exact bn.cons (View.vec rfl (by simp) (by simp) (WT _)) (bn.refl rfl)
def Fx(l:List aH): aS × Int:=if l.all bp then(kM l,0)else ([],2)
def M3{l:List aH}{i:Nat}(hi:i<l.length)(x:aS): x++(l.take (i+1)).flatMap iB=(x++(l.take i).flatMap iB)++iB (l.getD i default):=by
 rw[take_succ hi,List.flatMap_append];simp
def Yb(l:List aH)(hl:mQ l): aF aD 62 [aL l] (.bJ [.str (Fx l).1,I (Fx l).2]):=by
 obtain⟨FW,MZ⟩:=hl;have h1:=nP l.length ⟨by omega,by omega⟩;have h2:=fD l.length;obtain⟨E,hE⟩:∃ E,Fx l=E:=⟨_,rfl⟩;rw[hE];unfold Fx kM at hE;generalize fj l.length=x at *;simp only[aL];refine aK Pj ?_;intro Q aq au aA;repeat' first|refine ak ?_|refine aj ?_ ?_<;>intro hw<;>try omega|fail
 with_reducible refine aX [2,3,4,6,7,8,14,15,16,17,18,19,20,21,22,23,24,25,26,27,28,29] (fun q:Nat × List bE=>[(14,I q.1),(4,.str (x++(l.take q.1).flatMap iB))]) (fun q=>q.2) (fun q=>q.1<=l.length/\(∀ k,k<q.1->bp (l.getD k default)=true)/\x.length+((l.take q.1).flatMap iB).length<=10+q.1*2147483648) (fun q=>l.length-q.1) ((0,[])) ?_ ?_ ?_ ?_
 ·simp;omega
 ·rfl
 ·simp only[fF,List.flatMap_nil,bH];simp (disch:=omega) only[l7,kO,and_true,go_sem,aq,au,aA,Int.natCast_add,Int.cast_ofNat_Int]<;>(try trivial)<;>(try omega)<;>(try (repeat (first|trivial|(refine And.intro ?_ ?_)|(congr 1;omega))))
 rintro⟨i,τ⟩ r ⟨g1,g2,g3⟩;dsimp only at g1 g2 g3;by_cases hi:i<l.length
 ·have hv:=MZ _ (aO hi);have hne:=fun h=>zw (p:=bp) hi h;have dD:=fun he=>bx (q:=fun k=>bp (l.getD k default)=true) g2 (i:=i) he;have mA:=M3 hi x;obtain⟨v,xY⟩:∃ v,l.getD i default=v:=⟨_,rfl⟩;rw[xY]at hv hne dD mA;have h3:=Sz v.kind v.n v.s hv.1 (by omega);have PC:=Cb v;have ev:ya ⟨v.kind,v.n,v.s⟩=ya v:=rfl;rw[ev]at h3;unfold ya at h3;obtain⟨y,hy⟩:∃ y,x++(l.take i).flatMap iB=y:=⟨_,rfl⟩;have Ck:y.length=x.length+((l.take i).flatMap iB).length:=by rw[<-hy,List.length_append]
  have hsl:=congrArg List.length mA;rw[hy]at mA;simp only[List.length_append]at hsl;have EO:((y.length+(iB v).length:Nat):Int)<=IntKind.i64.max:=by show _<=(9223372036854775807:Int);omega
  generalize bp v=b at *;cases b
  ·simp only[aI,if_false]at h3;rw[hne rfl]at hE;simp only[aI,if_false]at hE;repeat' first|simp (disch:=omega) only[go_sem,aq,au,aA,xY,hy]|refine ak ?_|refine aj ?_ ?_<;>intro hw<;>try omega|fail
   all_goals first|exact aP|(exact bt (by rw[<-hE]) rfl)
  ·simp only[if_true]at h3;repeat' first|simp (disch:=omega) only[go_sem,aq,au,aA,xY,hy]|refine ak ?_|refine aj ?_ ?_<;>intro hw<;>try omega|fail
   all_goals first
    | exact aP
    | (refine ⟨(i + 1, τ ++ [bE.cells [I v.kind, I v.n, .str v.s]]), ?_, ?_, ?_, bK, ?_⟩
       ·refine⟨by dsimp only;omega,dD rfl,?_⟩;dsimp only;omega
       ·dsimp only;omega
       ·first|rfl|(simp[go_sem];done)
       ·dsimp only;rw[mA];simp (disch:=omega) only[l7,kO,and_true,go_sem,aq,au,aA,Int.natCast_add,Int.cast_ofNat_Int]<;>(try trivial)<;>(try omega)<;>(try (repeat (first|trivial|(refine And.intro ?_ ?_)|(congr 1;omega)))))
 ·have ht:l.take i=l:=bX (by omega);rw[zx (fun k hk=>g2 k (by omega)),if_pos rfl]at hE;repeat' first|simp (disch:=omega) only[go_sem,aq,au,aA,ht]|refine ak ?_|refine aj ?_ ?_<;>intro hw<;>try omega|fail
  exact bt (by rw[<-hE]) rfl
def M5(l:List aH)(hl:mQ l)(hr:l.all bp=true): aF aD 53 [aL l] (.str (kM l)):=by
 obtain⟨FW,MZ⟩:=hl;have h1:=nQ l.length ⟨by omega,by omega⟩;have h2:=fD l.length;obtain⟨E,hE⟩:∃ E,kM l=E:=⟨_,rfl⟩;rw[hE];unfold kM at hE;generalize fj l.length=x at *;simp only[aL];refine aK Pg ?_;intro Q aq au aA;repeat' first|refine ak ?_|refine aj ?_ ?_<;>intro hw<;>try omega|fail
 with_reducible refine aX [3,4,8,9,10,11,12,13,14,15,16,17,18,19,20] (fun q:Nat=>[(4,I q),(3,.str (x++(l.take q).flatMap iB))]) (fun _=>[]) (fun q=>q<=l.length/\x.length+((l.take q).flatMap iB).length<=10+q*2147483648) (fun q=>l.length-q) (0) ?_ ?_ ?_ ?_
 ·simp;omega
 ·rfl
 ·simp only[fF,List.flatMap_nil,bH];simp (disch:=omega) only[l7,kO,and_true,go_sem,aq,au,aA,Int.natCast_add,Int.cast_ofNat_Int]<;>(try trivial)<;>(try omega)<;>(try (repeat (first|trivial|(refine And.intro ?_ ?_)|(congr 1;omega))))
 rintro i r ⟨g1,g3⟩;by_cases hi:i<l.length
 ·have hv:=MZ _ (aO hi);have hrt:=bg.1 hr _ (aO hi);have mA:=M3 hi x;obtain⟨v,xY⟩:∃ v,l.getD i default=v:=⟨_,rfl⟩;rw[xY]at hv mA hrt;have hk:=uZ hrt;have h3:=SA v.kind v.n v.s ⟨by omega,by omega⟩ hv.1 (by omega);have PC:=Cb v;have ev:iB ⟨v.kind,v.n,v.s⟩=iB v:=rfl;rw[ev]at h3;obtain⟨y,hy⟩:∃ y,x++(l.take i).flatMap iB=y:=⟨_,rfl⟩;have Ck:y.length=x.length+((l.take i).flatMap iB).length:=by rw[<-hy,List.length_append]
  have hsl:=congrArg List.length mA;rw[hy]at mA;simp only[List.length_append]at hsl;have EO:((y.length+(iB v).length:Nat):Int)<=IntKind.i64.max:=by show _<=(9223372036854775807:Int);omega
  repeat' first|simp (disch:=omega) only[go_sem,aq,au,aA,xY,hy]|refine ak ?_|refine aj ?_ ?_<;>intro hw<;>try omega|fail
  refine⟨i+1,?_,?_,?_,bK,?_⟩
  ·refine⟨by omega,?_⟩;omega
  ·dsimp only;omega
  ·first|rfl|(simp[go_sem];done)
  ·dsimp only;rw[mA];simp (disch:=omega) only[l7,kO,and_true,go_sem,aq,au,aA,Int.natCast_add,Int.cast_ofNat_Int]<;>(try trivial)<;>(try omega)<;>(try (repeat (first|trivial|(refine And.intro ?_ ?_)|(congr 1;omega))))
 ·have ht:l.take i=l:=bX (by omega);repeat' first|simp (disch:=omega) only[go_sem,aq,au,aA,ht]|refine ak ?_|refine aj ?_ ?_<;>intro hw<;>try omega|fail
  exact aN (by rw[<-hE]) rfl
def abM(l:List aH)(hl:mQ l): aF aD 147 [aL l] (.bool (l.all bp)):=by
 obtain⟨FW,MZ⟩:=hl;obtain⟨E,hE⟩:∃ E,l.all bp=E:=⟨_,rfl⟩;rw[hE];simp only[aL];refine aK wg ?_;intro Q aq au aA;repeat' first|refine ak ?_|refine aj ?_ ?_<;>intro hw<;>try omega|fail
 with_reducible refine aX [2,3,4,5,6,7,8,9,10,11,12,13,14,15] (fun q:Nat=>[(3,I q)]) (fun _=>[]) (fun q=>q<=l.length/\ ∀ k,k<q->bp (l.getD k default)=true) (fun q=>l.length-q) (0) ?_ ?_ ?_ ?_
 ·simp
 ·rfl
 ·exact at_
 rintro i r ⟨g1,g2⟩;by_cases hi:i<l.length
 ·have hv:=MZ _ (aO hi);have hne:=fun h=>zw (p:=bp) hi h;have dD:=fun he=>bx (q:=fun k=>bp (l.getD k default)=true) g2 (i:=i) he;obtain⟨v,xY⟩:∃ v,l.getD i default=v:=⟨_,rfl⟩;rw[xY]at hv hne dD;have h3:=pB v.kind v.n v.s (by omega);have ev:bp ⟨v.kind,v.n,v.s⟩=bp v:=rfl;rw[ev]at h3;generalize bp v=b at *;repeat' first|simp (disch:=omega) only[go_sem,aq,au,aA,xY]|refine ak ?_|refine aj ?_ ?_<;>intro hw<;>try omega|fail
  all_goals first
   | exact aP
   |(exact aN (by rw[<-hE,hne (by simp_all)]) rfl)
   | (refine ⟨i + 1, ?_, ?_, by first | rfl | (simp [go_sem]; done), bK, at_⟩ <;> (try dsimp only)
      ·exact⟨by omega,dD (by simp_all)⟩
      ·omega)
 ·repeat' first|refine ak ?_|refine aj ?_ ?_<;>intro hw<;>try omega|fail
  exact aN (by rw[<-hE,zx (fun k hk=>g2 k (by omega))]) rfl
def EP(l:List aH): aF aD 6 [aL l] (.bool (decide (l.length<=12) && l.all qE)):=by
 obtain⟨E,hE⟩:∃ E,(decide (l.length<=12) && l.all qE)=E:=⟨_,rfl⟩;rw[hE];simp only[aL];refine aK G4 ?_;intro Q aq au aA;repeat' first|refine ak ?_|refine aj ?_ ?_<;>intro hw<;>try omega|fail
 ·exact aN (by rw[<-hE,decide_eq_false (by omega),dO]) rfl
 have h12:l.length<=12:=by omega
 rw[decide_eq_true h12,dG]at hE;with_reducible refine aX [2,3,7,8,9,10,11,12,13,14,15,16,17,18,19] (fun q:Nat=>[(3,I q)]) (fun _=>[]) (fun q=>q<=l.length/\ ∀ k,k<q->qE (l.getD k default)=true) (fun q=>l.length-q) (0) ?_ ?_ ?_ ?_
 ·simp
 ·rfl
 ·exact at_
 rintro i r ⟨g1,g2⟩;by_cases hi:i<l.length
 ·have hne:=fun h=>zw (p:=qE) hi h;have dD:=fun he=>bx (q:=fun k=>qE (l.getD k default)=true) g2 (i:=i) he;obtain⟨v,xY⟩:∃ v,l.getD i default=v:=⟨_,rfl⟩;rw[xY]at hne dD;have hS:qE v=decide (v.s.length<=300):=rfl;rw[hS]at hne dD;repeat' first|simp (disch:=omega) only[go_sem,aq,au,aA,xY]|refine ak ?_|refine aj ?_ ?_<;>intro hw<;>try omega|fail
  all_goals first
   | exact aP
   |(exact aN (by rw[<-hE,hne (decide_eq_false (by omega))]) rfl)
   | (refine ⟨i + 1, ?_, ?_, by first | rfl | (simp [go_sem]; done), bK, at_⟩ <;> (try dsimp only)
      ·exact⟨by omega,dD (decide_eq_true (by omega))⟩
      ·omega)
 ·repeat' first|refine ak ?_|refine aj ?_ ?_<;>intro hw<;>try omega|fail
  exact aN (by rw[<-hE,zx (fun k hk=>g2 k (by omega))]) rfl
