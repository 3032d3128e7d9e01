/- Part. -/
import Derived.Test.YthakfmmgnjpmdaaGreatDoorW37
set_option linter.all false
set_option maxHeartbeats 4000000
namespace Go.Proofs.YthakfmmgnjpmdaaGreatDoor
open Go.AM
set_option maxRecDepth 4000
def wrap_u64(x:Int): dF .u64 x=x % 18446744073709551616:=rfl
def wrap_u8(x:Int): dF .u8 x=x % 256:=rfl
def wrap_i64(x:Int): dF .i64 x=if 9223372036854775808<=x % 18446744073709551616 then x % 18446744073709551616-18446744073709551616 else x % 18446744073709551616:=by
 show IntKind.wrap .i64 x=_;simp[IntKind.wrap,IntKind.bits,IntKind.signed]
def xor_zero(k:IntKind)(x:Nat)(h:x<2 ^ k.bits): ((BitVec.ofInt k.bits (x:Int)) ^^^ (BitVec.ofInt k.bits 0)).toNat=x:=by
 have:BitVec.ofInt k.bits 0=0#k.bits:=by simp
 rw[this,BitVec.xor_zero];simp[iz h]
def JJ(x:Nat)(h:x<18446744073709551616)(y:Int)(hy:y % 18446744073709551616=18446744073709551615): ((BitVec.ofInt 64 (x:Int)) ^^^ (BitVec.ofInt 64 y)).toNat=18446744073709551615-x:=by
 have e:BitVec.ofInt 64 y=BitVec.allOnes 64:=by
  apply BitVec.eq_of_toNat_eq;rw[BitVec.toNat_ofInt,BitVec.toNat_allOnes];omega
 rw[e,BitVec.xor_allOnes,BitVec.toNat_not];have:(BitVec.ofInt 64 (x:Int)).toNat=x:=by rw[BitVec.toNat_ofInt];omega
 rw[this]
def YW{n:Int}(h : -9223372036854775808<=n/\n<=9223372036854775807): qg .xor .u64 (dF .u64 (dF .u64 n*2)) (dF .u64 (n.fdiv 9223372036854775808))=sx n:=by
 rw[mS];show dF .u64 (((BitVec.ofInt 64 (dF .u64 (dF .u64 n*2))) ^^^ (BitVec.ofInt 64 (dF .u64 (n.fdiv 9223372036854775808)))).toNat:Int)=sx n;rw[Int.fdiv_eq_ediv_of_nonneg _ (by decide)];simp only[wrap_u64];unfold sx;by_cases hn:n<0
 ·rw[if_pos hn];have e1:(n % 18446744073709551616*2 % 18446744073709551616:Int)=((2*n+18446744073709551616).toNat:Int):=by omega
  rw[e1,JJ _ (by omega) _ (by omega)];omega
 ·rw[if_neg hn];have e1:(n % 18446744073709551616*2 % 18446744073709551616:Int)=((2*n).toNat:Int):=by omega
  have e2:(n / 9223372036854775808 % 18446744073709551616:Int)=0:=by omega
  rw[e1,e2];have:=xor_zero .u64 (2*n).toNat (by show _<18446744073709551616;omega);have e3:IntKind.u64.bits=64:=rfl;rw[e3]at this;rw[this];omega
def QK(w k x:Nat)(hx:x<2 ^ w)(hk:k<=w): ((BitVec.ofInt w (x:Int)) &&& (BitVec.ofInt w ((2 ^ k-1:Nat):Int))).toNat=x % 2 ^ k:=by
 have h2:2 ^ k-1<2 ^ w:=dK (Nat.sub_lt (Nat.pow_pos (by decide)) (by decide)) (Nat.pow_le_pow_right (by decide) hk);rw[BitVec.toNat_and];have e1:(BitVec.ofInt w (x:Int)).toNat=x:=by rw[BitVec.ofInt_natCast,BitVec.toNat_ofNat,iz hx]
 have e2:(BitVec.ofInt w ((2 ^ k-1:Nat):Int)).toNat=2 ^ k-1:=by rw[BitVec.ofInt_natCast,BitVec.toNat_ofNat,iz h2]
 rw[e1,e2,Nat.and_two_pow_sub_one_eq_mod]
def abC{c:Nat}(h:c<18446744073709551616): qg .xor .i64 (dF .i64 ((c:Int).fdiv 2)) (dF .i64 (0-dF .i64 (qg .and .u64 (c:Int) 1)))=yG c:=by
 rw[mS]
 have ha:nr .and .u64 (c:Int) 1=((c % 2:Nat):Int):=by
  show dF .u64 (((BitVec.ofInt 64 (c:Int)) &&& (BitVec.ofInt 64 1)).toNat:Int)=_;have:=QK 64 1 c h (by decide);have e:((2 ^ 1-1:Nat):Int)=1:=by decide
  rw[e]at this;rw[this,wrap_u64];omega
 rw[ha,Int.fdiv_eq_ediv_of_nonneg _ (by decide)];show dF .i64 (((BitVec.ofInt 64 (dF .i64 ((c:Int) / 2))) ^^^ (BitVec.ofInt 64 (dF .i64 (0-dF .i64 ((c % 2:Nat):Int))))).toNat:Int)=yG c;have e1:dF .i64 ((c:Int) / 2)=((c / 2:Nat):Int):=by rw[wrap_i64];split<;>omega
 have e2:dF .i64 ((c % 2:Nat):Int)=((c % 2:Nat):Int):=by rw[wrap_i64];split<;>omega
 rw[e1,e2];unfold yG;by_cases hn:c % 2=1
 ·rw[if_pos hn,JJ _ (by omega) _ (by rw[wrap_i64];split<;>omega),wrap_i64];split<;>omega
 ·rw[if_neg hn];have e3:dF .i64 (0-((c % 2:Nat):Int))=0:=by rw[wrap_i64];split<;>omega
  rw[e3];have:=xor_zero .i64 (c / 2) (by show _<18446744073709551616;omega);have e3:IntKind.i64.bits=64:=rfl;rw[e3]at this;rw[this,wrap_i64];split<;>omega
def QL{x:Int}{c:Nat}(h:x % 256=((c % 256:Nat):Int)): qg .and .u8 (dF .u8 x) 127=((c % 128:Nat):Int):=by
 rw[mS];show dF .u8 (((BitVec.ofInt 8 (dF .u8 x)) &&& (BitVec.ofInt 8 127)).toNat:Int)=_;have:=QK 8 7 (c % 256) (by omega) (by decide);have e:((2 ^ 7-1:Nat):Int)=127:=by decide
 rw[e]at this;rw[wrap_u8 x,h,this,wrap_u8];omega
def YX{w k x:Nat}{y:Nat}(hx:x<2 ^ k)(hw:2 ^ k*y+x<2 ^ w): ((BitVec.ofInt w (x:Int)) |||(BitVec.ofInt w ((2 ^ k*y:Nat):Int))).toNat=2 ^ k*y+x:=by
 rw[BitVec.toNat_or];have e1:(BitVec.ofInt w (x:Int)).toNat=x:=by rw[BitVec.ofInt_natCast,BitVec.toNat_ofNat,iz (by omega)]
 have e2:(BitVec.ofInt w ((2 ^ k*y:Nat):Int)).toNat=2 ^ k*y:=by rw[BitVec.ofInt_natCast,BitVec.toNat_ofNat,iz (by omega)]
 rw[e1,e2,Nat.or_comm,Nat.two_pow_add_eq_or_of_lt hx]
def YY{d:Nat}(h:d<128): qg .or .u8 (d:Int) 128=((128+d:Nat):Int):=by
 rw[mS];show dF .u8 (((BitVec.ofInt 8 (d:Int)) |||(BitVec.ofInt 8 128)).toNat:Int)=_;have:=YX (w:=8) (k:=7) (x:=d) (y:=1) (by omega) (by omega);have e:((2 ^ 7*1:Nat):Int)=128:=by decide
 rw[e]at this;rw[this,wrap_u8];omega
def abD{c d i:Nat}(hc:c<128 ^ i)(h:c+d*128 ^ i<18446744073709551616): qg .or .u64 (c:Int) (dF .u64 ((d:Int)*2 ^ (7*i)))=((c+d*128 ^ i:Nat):Int):=by
 have e0:(2:Nat) ^ (7*i)=128 ^ i:=by rw[Nat.pow_mul]
 have e1:((d:Int)*2 ^ (7*i))=((2 ^ (7*i)*d:Nat):Int):=by push_cast;rw[Int.mul_comm]
 rw[mS,e1];have h2:2 ^ (7*i)*d<18446744073709551616:=by rw[e0,gZ];omega
 have e2:dF .u64 ((2 ^ (7*i)*d:Nat):Int)=((2 ^ (7*i)*d:Nat):Int):=by rw[wrap_u64];omega
 rw[e2];show dF .u64 (((BitVec.ofInt 64 (c:Int)) |||(BitVec.ofInt 64 ((2 ^ (7*i)*d:Nat):Int))).toNat:Int)=_;rw[YX (by rw[e0];exact hc) (by rw[e0,gZ];omega),wrap_u64,e0,gZ];omega
def EZ(c:Nat): UInt8:=UInt8.ofNat (c % 128)
def Oa(c:Nat): UInt8:=UInt8.ofNat (128+c % 128)
def yJ(c:Nat): ((c % 128:Nat):Int)=((EZ c).toNat:Int):=by rw[EZ,u8 _ (by omega)]
def YZ(c:Nat): qg .or .u8 ((EZ c).toNat:Int) 128=((Oa c).toNat:Int):=by
 rw[<-yJ,YY (by omega),Oa,u8 _ (by omega)]
def TV(s:aO)(b:UInt8): rU s++[AV.int .u8 b.toNat]=rU (s++[b]):=by simp
def QM{k c:Nat}(h:c<128): uC k c=[EZ c]:=by
 rw[EZ,Nat.mod_eq_of_lt h];cases k with
 | zero=>rfl
 | succ k=>rw[uC,if_pos h]
def MS{k c:Nat}(h:128<=c): uC (k+1) c=Oa c::uC k (c / 128):=by rw[uC,if_neg (by omega)];rfl
def Wi(n:Int)(h:p8 n): aM aH 76 [I n] (.int .u64 (sx n)):=by
 refine aR Nt ?_;intro Q aB aC aD;repeat' first|refine au ?_|refine aq ?_ ?_<;>intro hw<;>try omega|fail
 refine aU ?_ rfl;exact congrArg (AV.int .u64) (YW h)
def Sj(c:Nat): aM aH 77 [.int .u64 c] (.int .u8 ((EZ c).toNat)):=by
 refine aR C0 ?_;intro Q aB aC aD;repeat' first|refine au ?_|refine aq ?_ ?_<;>intro hw<;>try omega|fail
 refine aU ?_ rfl;refine congrArg (AV.int .u8) ?_;rw[<-yJ];exact QL (by omega)
def Wj(c:Nat): aM aH 99 [I c] (.int .u8 ((EZ c).toNat)):=by
 refine aR Hg ?_;intro Q aB aC aD;repeat' first|refine au ?_|refine aq ?_ ?_<;>intro hw<;>try omega|fail
 refine aU ?_ rfl;refine congrArg (AV.int .u8) ?_;rw[<-yJ];exact QL (by omega)
def QN(c:Nat)(h:c<18446744073709551616): aM aH 100 [.int .u64 c] (I (yG c)):=by
 refine aR IU ?_;intro Q aB aC aD;repeat' first|refine au ?_|refine aq ?_ ?_<;>intro hw<;>try omega|fail
 refine aU ?_ rfl;exact congrArg I (abC h)
def nO(n:Int)(h:p8 n): aM aH 44 [I n] (.str (ja n)):=by
 have hc:=QB h.1 h.2;obtain⟨E,hE⟩:∃ E,ja n=E:=⟨_,rfl⟩;rw[hE];unfold ja at hE;have h1:=Wi n h;generalize sx n=c0 at *;refine aR OZ ?_;intro Q aB aC aD;repeat' first|refine au ?_|refine aq ?_ ?_<;>intro hw<;>try omega|fail
 with_reducible refine bE [3,4,8,9,10,11,12,13,14,15,16,17] (fun q:Nat × aO × Nat=>[(3,.int .u64 q.2.2),(4,.own E1 0 q.2.1.length 0 q.2.1.length)]) (fun q=>[.vec E1 (rU q.2.1)]) (fun q=>q.1<=9/\q.2.1.length=q.1/\q.2.2*128 ^ q.1<18446744073709551616/\E=q.2.1++uC (9-q.1) q.2.2) (fun q=>10-q.1) ((0,[],c0)) ?_ ?_ ?_ ?_
 ·exact⟨by omega,rfl,by show c0*1<_;omega,by simp[hE]⟩
 ·rfl
 ·exact at_
 rintro⟨i,s,c⟩ r ⟨g1,g2,g3,g4⟩;dsimp only at g1 g2 g3 g4;have hl:=Sj c;have hm:=YZ c
 have hq:(c:Int).fdiv (2 ^ (Int.toNat 7).min 64)=((c / 128:Nat):Int):=by
  show(c:Int).fdiv 128=_;rw[Int.fdiv_eq_ediv_of_nonneg _ (by decide)];omega
 by_cases hb:128<=c
 ·have hi : i < 9 := by
   rcases Nat.lt_or_ge i 9 with h|h
   ·exact h
   ·obtain rfl:i=9:=by omega
    have e:(128:Nat) ^ 9=9223372036854775808:=by decide
    rw[e]at g3;omega
  obtain⟨k,hk⟩:∃ k,9-i=k+1:=⟨8-i,by omega⟩;rw[hk,MS hb]at g4;repeat' first|simp (disch:=omega) only[go_sem,aB,aC,aD,hm,hq,TV]|refine au ?_|refine aq ?_ ?_<;>intro hw<;>try omega|fail
  refine⟨(i+1,s++[Oa c],c / 128),?_,?_,?_,cZ,at_⟩<;>(try dsimp only)
  ·refine⟨by omega,by simp[g2],?_,?_⟩
   ·have e2 : c / 128 * 128 ^ (i + 1) = 128 * (c / 128) * 128 ^ i := by
     rw[Nat.pow_succ,gZ (128 ^ i) 128,<-Nat.mul_assoc,gZ (c / 128) 128]
    exact Nat.lt_of_le_of_lt (by rw[e2];exact aX _ (by omega)) g3
   ·have:9-(i+1)=k:=by omega
    rw[this];simp[g4]
  ·omega
  all_goals (simp[g2];done)
 ·rw[QM (by omega)]at g4;repeat' first|simp (disch:=omega) only[go_sem,aB,aC,aD,TV]|refine au ?_|refine aq ?_ ?_<;>intro hw<;>try omega|fail
  exact aU (by rw[g4]) rfl
def eN(t:Int × aO × Int): AV:= .bH [I t.1,.str t.2.1,I t.2.2]
def eS(t:aO × aO × Int): AV:= .bH [.str t.1,.str t.2.1,I t.2.2]
def pI(s:aO)(hs:s.length<=2 ^ 62): aM aH 64 [.str s] (eN (takeN s)):=by
 obtain⟨E,hE⟩:∃ E,takeN s=E:=⟨_,rfl⟩;rw[hE];unfold takeN at hE;obtain⟨m,LQ,LR⟩:∃ m:Nat,m=min s.length 10/\(if(10:Int)<(s.length:Int)then (10:Int)else (s.length:Int))=(m:Int):=⟨min s.length 10,rfl,by split<;>omega⟩;refine aR G9 ?_;intro Q aB aC aD;repeat' first|simp (disch:=omega) only[go_sem,aB,aC,aD,LR]|refine au ?_|refine aq ?_ ?_<;>intro hw<;>try omega|fail
 with_reducible refine bE [2,3,4,5,6,7,11,12,13,14,15,16,17,18,19,20,21,22,23,24,25,26,27,28,29,30,31,32,33,34,35,36,37,38,39,40,41,42,43,44,45,46,47,48] (fun q:Nat × Nat=>[(11,I q.1),(5,.int .u64 q.2)]) (fun _=>[]) (fun q=>q.1<=m/\q.2<128 ^ q.1/\q.1<=9/\E=r_ q.1 q.2 (s.drop q.1)) (fun q=>m-q.1) ((0,0)) ?_ ?_ ?_ ?_
 ·exact⟨by omega,by decide,by decide,by rw[<-hE];rfl⟩
 ·rfl
 ·exact at_
 rintro⟨i,c⟩ r ⟨g1,g2,g4,g3⟩;dsimp only at g1 g2 g3 g4;by_cases hi:i<m
 ·have SL:i<s.length:=by omega
  rw[oO SL,r_]at g3;obtain⟨b,hb⟩:∃ b,s.getD i 0=b:=⟨_,rfl⟩;rw[hb]at g3;have hb8:b.toNat<256:=b.toNat_lt;by_cases he:(0<i/\b.toNat=0)\/(i=9/\1<b.toNat)
  ·rw[if_pos he]at g3;repeat' first|simp (disch:=omega) only[go_sem,aB,aC,aD,hb]|refine au ?_|refine aq ?_ ?_<;>intro hw<;>try omega|fail
   all_goals first
    | exact a_
    |(refine bx ?_ rfl;rw[g3])
  ·rw[if_neg he]at g3;have hl:=Wj b.toNat
   have hmin:Nat.min ((7*(i:Int)).toNat) 64=7*i:=by show min _ 64=_;omega
   have hsum:c+b.toNat % 128*128 ^ i<18446744073709551616:=by
    by_cases h9:i=9
    ·subst h9;have e:(128:Nat) ^ 9=9223372036854775808:=by decide
     rw[e]at g2 ⊢;omega
    ·have e:(128:Nat) ^ (i+1)<=128 ^ 9:=Nat.pow_le_pow_right (by decide) (by omega);rw[Nat.pow_succ]at e;have e2:(128:Nat) ^ 9=9223372036854775808:=by decide
     have:b.toNat % 128*128 ^ i<=127*128 ^ i:=aX _ (by omega);omega
   have hacc:=abD g2 hsum;rw[yJ]at hacc;have akh:((EZ b.toNat).toNat:Int)<128:=by rw[<-yJ];omega
   have hn:=QN _ hsum;obtain⟨c',lu⟩:∃ c',c+b.toNat % 128*128 ^ i=c':=⟨_,rfl⟩;rw[lu]at hacc hn g3 hsum;repeat' first|simp (disch:=omega) only[go_sem,aB,aC,aD,hb,hmin,hacc]|refine au ?_|refine aq ?_ ?_<;>intro hw<;>try omega|fail
   all_goals first
    | exact a_
    |(rw[if_pos (by omega)]at g3;refine bx ?_ rfl;rw[g3];done)
    | (rw [if_neg (by omega)] at g3
       refine⟨(i+1,c'),?_,?_,by first|rfl|(simp[go_sem];done),cZ,at_⟩<;>(try dsimp only)
       ·refine⟨by omega,?_,by omega,g3⟩;rw[Nat.pow_succ,<-lu];have:b.toNat % 128*128 ^ i<=127*128 ^ i:=aX _ (by omega);omega
       ·omega)
 ·rw[bK (by omega),r_]at g3;repeat' first|refine au ?_|refine aq ?_ ?_<;>intro hw<;>try omega|fail
  refine bx ?_ rfl;rw[g3]
def Wk(s:aO)(most:Int)(hs:s.length<=2 ^ 62): aM aH 63 [.str s,I most] (eN (if(takeN s).2.2≠0 then(0,[],(takeN s).2.2)else if(takeN s).1<0 then(0,[],4)else if(takeN s).1>most then(0,[],5)else ((takeN s).1,(takeN s).2.1,0))):=by
 have h1:=pI s hs;generalize takeN s=t at *;obtain⟨n,r,e⟩:=t;simp only[eN]at h1;refine aR Nq ?_;intro Q aB aC aD;repeat' first|refine au ?_|refine aq ?_ ?_<;>intro hw<;>try omega|fail
 all_goals (refine bx ?_ rfl)
 ·rw[if_pos hw]
 ·rw[if_neg (by omega),if_pos (by omega)]
 ·rw[if_neg (by omega),if_neg (by omega),if_pos (by omega)]
 ·rw[if_neg (by omega),if_neg (by omega),if_neg (by omega)]
def Bg(s:aO)(most:Int)(hs:s.length<=2 ^ 62): aM aH 31 [.str s,I most] (eS (jd s most)):=by
 have h1:=Wk s most hs;have hl:=(jK s).1;unfold jd;generalize takeN s=t at *;obtain⟨n,r,e⟩:=t;dsimp only at h1 hl ⊢;by_cases c1:e≠0
 ·rw[if_pos c1]at h1 ⊢;simp only[eN]at h1;refine aR me ?_;intro Q aB aC aD;repeat' first|refine au ?_|refine aq ?_ ?_<;>intro hw<;>try omega|fail
  exact bx rfl rfl
 by_cases c2:n<0
 ·rw[if_neg c1,if_pos c2]at h1 ⊢;simp only[eN]at h1;refine aR me ?_;intro Q aB aC aD;repeat' first|refine au ?_|refine aq ?_ ?_<;>intro hw<;>try omega|fail
  exact bx rfl rfl
 by_cases c3:n>most
 ·rw[if_neg c1,if_neg c2,if_pos c3]at h1 ⊢;simp only[eN]at h1;refine aR me ?_;intro Q aB aC aD;repeat' first|refine au ?_|refine aq ?_ ?_<;>intro hw<;>try omega|fail
  exact bx rfl rfl
 rw[if_neg c1,if_neg c2,if_neg c3]at h1 ⊢;simp only[eN]at h1;by_cases c4:n>r.length
 ·rw[if_pos c4];refine aR me ?_;intro Q aB aC aD;repeat' first|refine au ?_|refine aq ?_ ?_<;>intro hw<;>try omega|fail
  exact bx rfl rfl
 rw[if_neg c4];obtain⟨k,rfl⟩:∃ k:Nat,n=(k:Int):=⟨n.toNat,by omega⟩;refine aR me ?_;intro Q aB aC aD;repeat' first|refine au ?_|refine aq ?_ ?_<;>intro hw<;>try omega|fail
 refine bx ?_ rfl;simp
def JK(s:aO)(hs:s.length<=2 ^ 61): aM aH 43 [.str s] (.str (n_ s)):=by
 have h1:=nO s.length ⟨by omega,by omega⟩;have h2:=kx s.length;unfold n_;generalize ja s.length=x at *;refine aR Nl ?_;intro Q aB aC aD;have Wm:((x.length+s.length:Nat):Int)<=IntKind.i64.max:=by show _<=(9223372036854775807:Int);omega
 repeat' first|refine au ?_|refine aq ?_ ?_<;>intro hw<;>try omega|fail
 exact aU rfl rfl
def eVS(t:aL × aO × Int): AV:= .bH [.agg [I t.1.kind,I t.1.n,.str t.1.s],.str t.2.1,I t.2.2]
def abE(t:List aL × aO × Int): AV:= .bH [aW t.1,.str t.2.1,I t.2.2]
def Wn(s:aO)(hs:s.length<=2 ^ 61): aM aH 101 [.str s] (eVS (mC s)):=by
 obtain⟨E,hE⟩:∃ E,mC s=E:=⟨_,rfl⟩;rw[hE];unfold mC at hE;have h1:=pI s (by omega);have hr:=jK s;have hg:=qS s;generalize takeN s=t at *;obtain⟨k,r,e⟩:=t;dsimp only at hE hr hg;simp only[eN]at h1;have h2:=pI r (by omega);have h3:=Bg r 40 (by omega);have Ti:=qS r;generalize takeN r=t at *;obtain⟨n,r2,e2⟩:=t;generalize jd r 40=u at *;obtain⟨x,r3,e3⟩:=u;dsimp only at hE Ti;simp only[eN,eS]at h2 h3;have c1:=jM k n [] Ti.1 Ti.2;have c2:=jM 2 0 x (by decide) (by decide);have c0:=jM 0 0 [] (by decide) (by decide);have q0:ie (br ⟨0,0,[]⟩)=0:=rfl;rw[q0]at c0;unfold EY at hE;refine aR Nv ?_;intro Q aB aC aD;by_cases he:e=0
 ·rw[if_neg (by omega)]at hE;by_cases k0:k=0
  ·rw[if_pos k0]at hE;repeat' first|simp (disch:=omega) only[go_sem,aB,aC,aD,he,k0]|refine au ?_|refine eZ c0 ?_|refine aq ?_ ?_<;>intro hw<;>try omega|fail
   all_goals first|exact a_|(refine bx ?_ rfl;rw[<-hE]<;>rfl)
  rw[if_neg k0]at hE;by_cases k1:k=1\/k=3
  ·rw[if_pos k1]at hE;by_cases he2:e2=0
   ·rw[if_neg (by omega)]at hE;generalize br ⟨k,n,[]⟩=b at *;cases b
    all_goals
     simp only[ie,if_true,aG,if_false]at c1 hE;repeat' first|simp (disch:=omega) only[go_sem,aB,aC,aD,he,he2]|refine au ?_|refine aq ?_ ?_<;>intro hw<;>try omega|fail
    all_goals first|exact a_|(refine bx ?_ rfl;rw[<-hE]<;>rfl)
   ·rw[if_pos he2]at hE;repeat' first|simp (disch:=omega) only[go_sem,aB,aC,aD,he]|refine au ?_|refine aq ?_ ?_<;>intro hw<;>try omega|fail
    all_goals first|exact a_|(refine bx ?_ rfl;rw[<-hE]<;>rfl)
  rw[if_neg k1]at hE;by_cases k2:k=2
  ·rw[if_pos k2]at hE;by_cases he3:e3=0
   ·rw[if_neg (by omega)]at hE;generalize br ⟨2,0,x⟩=b at *;cases b
    all_goals
     simp only[ie,if_true,aG,if_false]at c2 hE;repeat' first|simp (disch:=omega) only[go_sem,aB,aC,aD,he,he3,k2]|refine au ?_|refine aq ?_ ?_<;>intro hw<;>try omega|fail
    all_goals first|exact a_|(refine bx ?_ rfl;rw[<-hE]<;>rfl)
   ·rw[if_pos he3]at hE;repeat' first|simp (disch:=omega) only[go_sem,aB,aC,aD,he,k2]|refine au ?_|refine aq ?_ ?_<;>intro hw<;>try omega|fail
    all_goals first|exact a_|(refine bx ?_ rfl;rw[<-hE]<;>rfl)
  rw[if_neg k2]at hE;repeat' first|simp (disch:=omega) only[go_sem,aB,aC,aD,he]|refine au ?_|refine aq ?_ ?_<;>intro hw<;>try omega|fail
  all_goals first|exact a_|(refine bx ?_ rfl;rw[<-hE]<;>rfl)
 ·rw[if_pos he]at hE;repeat' first|refine au ?_|refine aq ?_ ?_<;>intro hw<;>try omega|fail
  all_goals first|exact a_|(refine bx ?_ rfl;rw[<-hE]<;>rfl)
def yK(v:aL): aO × Int:=if br v then(lQ v,0)else ([],2)
def JL(v:aL): (lQ v).length<=30+v.s.length:=by
 have h1:=kx v.kind;have h2:=kx v.n;have h3:=kx v.s.length;unfold lQ n_;rw[List.length_append];split
 ·rw[List.length_append];omega
 split
 ·omega
 ·simp;omega
def Sk(k n:Int)(s:aO)(hn:p8 n)(hs:s.length<=2 ^ 60): aM aH 78 [.agg [I k,I n,.str s]] (.bH [.str (yK ⟨k,n,s⟩).1,I (yK ⟨k,n,s⟩).2]):=by
 have c1:=jM k n s hn.1 hn.2;obtain⟨E,hE⟩:∃ E,yK ⟨k,n,s⟩=E:=⟨_,rfl⟩;rw[hE];unfold yK lQ at hE;dsimp only at hE;have hk:=@zY ⟨k,n,s⟩;dsimp only at hk;generalize br ⟨k,n,s⟩=b at *;cases b
 ·simp only[ie,aG,if_false]at c1 hE;refine aR Av ?_;intro Q aB aC aD;repeat' first|refine au ?_|refine aq ?_ ?_<;>intro hw<;>try omega|fail
  exact bx (by rw[<-hE]) rfl
 have hk:=hk rfl;simp only[ie,if_true]at c1 hE;have c2:=nO k ⟨by omega,by omega⟩;have c3:=nO n hn;have c4:=JK s (by omega);have l1:=kx k;have l2:=kx n;have l3:(n_ s).length<=10+s.length:=by unfold n_;have:=kx s.length;rw[List.length_append];omega
 generalize ja k=x at *;generalize ja n=y at *;generalize n_ s=z at *;have a1:((x.length+y.length:Nat):Int)<=IntKind.i64.max:=by show _<=(9223372036854775807:Int);omega
 have a2:((x.length+z.length:Nat):Int)<=IntKind.i64.max:=by show _<=(9223372036854775807:Int);omega
 refine aR Av ?_;intro Q aB aC aD;repeat' first|refine au ?_|refine aq ?_ ?_<;>intro hw<;>try omega|fail
 all_goals first
  | exact a_
  |(refine bx ?_ rfl;rw[<-hE];simp_all;done)
  |(refine bx ?_ rfl;rw[<-hE,if_neg (by omega),if_neg (by omega),bB];done)
def sP(v:aL): Bool:=decide (v.s.length<=300)
def NM(s:aO)(most:Int)(hs:s.length<=2 ^ 30): aM aH 65 [.str s,I most] (abE (jz s most)):=by
 have h1:=pI s (by omega);have hr:=jK s;obtain⟨E,hE⟩:∃ E,jz s most=E:=⟨_,rfl⟩;rw[hE];unfold jz at hE;generalize takeN s=t at *;obtain⟨n,r,e⟩:=t;dsimp only at hE hr;simp only[eN]at h1;refine aR G_ ?_ (by simp[abE]);intro Q aB aC aD;by_cases hb:e≠0\/n<0\/n>most
 ·repeat' first|refine au ?_|refine aq ?_ ?_<;>intro hw<;>try omega|fail
  all_goals first|exact a_|refine fD ?_
  ·rw[if_pos (by omega)]at hE;rw[<-hE];exact DR
  ·rw[if_neg (by omega),if_pos (by omega)]at hE;rw[<-hE];exact DR
  ·rw[if_neg (by omega),if_neg (by omega),if_pos (by omega)]at hE;rw[<-hE];exact DR
 rw[if_neg (by omega),if_neg (by omega),if_neg (by omega)]at hE;repeat' first|refine au ?_|refine aq ?_ ?_<;>intro hw<;>try omega|fail
 all_goals first|exact a_|skip
 with_reducible refine bE [4,5,6,8,9,10,11,29,30,31,32,33,34,35,36,37,38,39,40,41,42,43,44,45] (fun q:List aL × aO × List bj=>[(10,.own EV 0 q.1.length 0 q.1.length),(8,.str q.2.1)]) (fun q=> .vec EV (q.1.map bX)::q.2.2) (fun q=>q.1.length+q.2.1.length<=2 ^ 30/\q.1.length<=n.toNat/\E=kQ (n.toNat-q.1.length) q.1 q.2.1) (fun q=>n.toNat-q.1.length) (([],r,[])) ?_ ?_ ?_ ?_
 ·exact⟨by simp;omega,by simp,hE.symm⟩
 ·rfl
 ·exact at_
 rintro⟨out,r,τ⟩ u ⟨g1,g2,g3⟩;dsimp only at g1 g2 g3;by_cases hn:(out.length:Int)<n
 ·obtain⟨k,hk⟩:∃ k,n.toNat-out.length=k+1:=⟨n.toNat-out.length-1,by omega⟩;rw[hk,kQ]at g3;have h2:=Wn r (by omega);have hv:=QC r;generalize mC r=t at *;obtain⟨v,r2,e2⟩:=t;dsimp only at g3 hv;simp only[eVS]at h2;by_cases he:e2=0
  ·rw[if_neg (by omega)]at g3;have hlt:=hv.2.1 he;repeat' first|simp (disch:=omega) only[go_sem,aB,aC,aD,he]|refine au ?_|refine aq ?_ ?_<;>intro hw<;>try omega|fail
   all_goals first
    | exact a_
    | (refine ⟨(out ++ [v], r2, τ ++ [bj.cells [I v.kind, I v.n, .str v.s]]), ?_, ?_, ?_, cZ, at_⟩
       ·have e:n.toNat-(out++[v]).length=k:=by simp;omega
        dsimp only;rw[e];exact⟨by simp;omega,by simp;omega,g3⟩
       ·simp;omega
       ·first|rfl|(simp[go_sem];done))
  ·rw[if_pos he]at g3;repeat' first|refine au ?_|refine aq ?_ ?_<;>intro hw<;>try omega|fail
   all_goals first|exact a_|(refine fD ?_;rw[g3];exact DR)
 ·have:n.toNat-out.length=0:=by omega
  rw[this,kQ]at g3;repeat' first|refine au ?_|refine aq ?_ ?_<;>intro hw<;>try omega|fail
  refine fD ?_;rw[g3];exact bN.cons (View.vec rfl (by simp) (by simp) (Xw _)) (bN.refl rfl)
def FD(l:List aL): aO × Int:=if l.all br then(oV l,0)else ([],2)
def Y0{l:List aL}{i:Nat}(hi:i<l.length)(x:aO): x++(l.take (i+1)).flatMap lQ=(x++(l.take i).flatMap lQ)++lQ (l.getD i default):=by
 rw[take_succ hi,List.flatMap_append];simp
def Y3(l:List aL)(hl:oF l): aM aH 46 [aW l] (.bH [.str (FD l).1,I (FD l).2]):=by
 obtain⟨Xt,hl2⟩:=hl;have h1:=nO l.length ⟨by omega,by omega⟩;have h2:=kx l.length;obtain⟨E,hE⟩:∃ E,FD l=E:=⟨_,rfl⟩;rw[hE];unfold FD oV at hE;generalize ja l.length=x at *;simp only[aW];refine aR O1 ?_;intro Q aB aC aD;repeat' first|refine au ?_|refine aq ?_ ?_<;>intro hw<;>try omega|fail
 with_reducible refine bE [2,3,4,6,7,8,14,15,16,17,18,19,20,21,22,23,24,25,26,27,28,29] (fun q:Nat × List bj=>[(14,I q.1),(4,.str (x++(l.take q.1).flatMap lQ))]) (fun q=>q.2) (fun q=>q.1<=l.length/\(∀ k,k<q.1->br (l.getD k default)=true)/\x.length+((l.take q.1).flatMap lQ).length<=10+q.1*2147483648) (fun q=>l.length-q.1) ((0,[])) ?_ ?_ ?_ ?_
 ·simp;omega
 ·rfl
 ·simp only[jf,List.flatMap_nil,bB];simp (disch:=omega) only[qA,og,and_true,go_sem,aB,aC,aD,Int.natCast_add,Int.cast_ofNat_Int]<;>(try trivial)<;>(try omega)<;>(try (repeat (first|trivial|(refine And.intro ?_ ?_)|(congr 1;omega))))
 rintro⟨i,τ⟩ r ⟨g1,g2,g3⟩;dsimp only at g1 g2 g3;by_cases hi:i<l.length
 ·have hv:=hl2 _ (bn hi);have hne:=fun h=>EH (p:=br) hi h;have dV:=fun he=>bQ (q:=fun k=>br (l.getD k default)=true) g2 (i:=i) he;have wj:=Y0 hi x;obtain⟨v,TX⟩:∃ v,l.getD i default=v:=⟨_,rfl⟩;rw[TX]at hv hne dV wj;have h3:=Sk v.kind v.n v.s hv.1 (by omega);have I3:=JL v;have ev:yK ⟨v.kind,v.n,v.s⟩=yK v:=rfl;rw[ev]at h3;unfold yK at h3;obtain⟨y,hy⟩:∃ y,x++(l.take i).flatMap lQ=y:=⟨_,rfl⟩;have Oy:y.length=x.length+((l.take i).flatMap lQ).length:=by rw[<-hy,List.length_append]
  have hsl:=congrArg List.length wj;rw[hy]at wj;simp only[List.length_append]at hsl;have Wm:((y.length+(lQ v).length:Nat):Int)<=IntKind.i64.max:=by show _<=(9223372036854775807:Int);omega
  generalize br v=b at *;cases b
  ·simp only[aG,if_false]at h3;rw[hne rfl]at hE;simp only[aG,if_false]at hE;repeat' first|simp (disch:=omega) only[go_sem,aB,aC,aD,TX,hy]|refine au ?_|refine aq ?_ ?_<;>intro hw<;>try omega|fail
   all_goals first|exact a_|(exact bx (by rw[<-hE]) rfl)
  ·simp only[if_true]at h3;repeat' first|simp (disch:=omega) only[go_sem,aB,aC,aD,TX,hy]|refine au ?_|refine aq ?_ ?_<;>intro hw<;>try omega|fail
   all_goals first
    | exact a_
    | (refine ⟨(i + 1, τ ++ [bj.cells [I v.kind, I v.n, .str v.s]]), ?_, ?_, ?_, cZ, ?_⟩
       ·refine⟨by dsimp only;omega,dV rfl,?_⟩;dsimp only;omega
       ·dsimp only;omega
       ·first|rfl|(simp[go_sem];done)
       ·dsimp only;rw[wj];simp (disch:=omega) only[qA,og,and_true,go_sem,aB,aC,aD,Int.natCast_add,Int.cast_ofNat_Int]<;>(try trivial)<;>(try omega)<;>(try (repeat (first|trivial|(refine And.intro ?_ ?_)|(congr 1;omega)))))
 ·have ht:l.take i=l:=b_ (by omega);rw[EI (fun k hk=>g2 k (by omega)),if_pos rfl]at hE;repeat' first|simp (disch:=omega) only[go_sem,aB,aC,aD,ht]|refine au ?_|refine aq ?_ ?_<;>intro hw<;>try omega|fail
  exact bx (by rw[<-hE]) rfl
def Y4(l:List aL): aM aH 5 [aW l] (.bool (decide (l.length<=12) && l.all sP)):=by
 obtain⟨E,hE⟩:∃ E,(decide (l.length<=12) && l.all sP)=E:=⟨_,rfl⟩;rw[hE];simp only[aW];refine aR G5 ?_;intro Q aB aC aD;repeat' first|refine au ?_|refine aq ?_ ?_<;>intro hw<;>try omega|fail
 ·exact aU (by rw[<-hE,decide_eq_false (by omega),gM]) rfl
 have h12:l.length<=12:=by omega
 rw[decide_eq_true h12,fH]at hE;with_reducible refine bE [2,3,7,8,9,10,11,12,13,14,15,16,17,18,19] (fun q:Nat=>[(3,I q)]) (fun _=>[]) (fun q=>q<=l.length/\ ∀ k,k<q->sP (l.getD k default)=true) (fun q=>l.length-q) (0) ?_ ?_ ?_ ?_
 ·simp
 ·rfl
 ·exact at_
 rintro i r ⟨g1,g2⟩;by_cases hi:i<l.length
 ·have hne:=fun h=>EH (p:=sP) hi h;have dV:=fun he=>bQ (q:=fun k=>sP (l.getD k default)=true) g2 (i:=i) he;obtain⟨v,TX⟩:∃ v,l.getD i default=v:=⟨_,rfl⟩;rw[TX]at hne dV;have hS:sP v=decide (v.s.length<=300):=rfl;rw[hS]at hne dV;repeat' first|simp (disch:=omega) only[go_sem,aB,aC,aD,TX]|refine au ?_|refine aq ?_ ?_<;>intro hw<;>try omega|fail
  all_goals first
   | exact a_
   |(exact aU (by rw[<-hE,hne (decide_eq_false (by omega))]) rfl)
   | (refine ⟨i + 1, ?_, ?_, by first | rfl | (simp [go_sem]; done), cZ, at_⟩ <;> (try dsimp only)
      ·exact⟨by omega,dV (decide_eq_true (by omega))⟩
      ·omega)
 ·repeat' first|refine au ?_|refine aq ?_ ?_<;>intro hw<;>try omega|fail
  exact aU (by rw[<-hE,EI (fun k hk=>g2 k (by omega))]) rfl
def pZ(e:jL): List AV:=[.str e.table,I e.ver,aW e.input,I e.err,dL e.rules,dU e.rows]
def jP(e:jL): AV:= .agg (pZ e)
attribute [go_sem] pY dL dU pZ jP
def abF(e:jL): (jP e).dz=true:=by simp[jP,pZ,AV.dz,AV.cg,MH,MI]
attribute [simp] abF
def NN(v:aL)(hn:p8 v.n): aM aH 82 [bX v] (.bool (!br v)):=by
 have c:=jM v.kind v.n v.s hn.1 hn.2;have ev:br ⟨v.kind,v.n,v.s⟩=br v:=rfl;rw[ev]at c;obtain⟨b,hb⟩:∃ b,br v=b:=⟨_,rfl⟩;rw[hb]at c ⊢;simp only[bX];refine aR Hf ?_;intro Q aB aC aD;cases b
 all_goals
  simp only[ie,if_true,aG,if_false]at c;repeat' first|refine au ?_|refine eZ c ?_|refine aq ?_ ?_<;>intro hw<;>try omega|fail
  exact aU rfl rfl
def z_ (fn : FuncId) (p : aL -> Bool) (l : List aL) (h : ∀ k, k < l.length -> aM aH fn [bX (l.getD k default)] (.bool (p (l.getD k default)))) (hl : l.length <= 2 ^ 62) :
    aM aH 127 [aW l,.fn (.func fn) [] []] (I (kr p l)):=by
 refine aR xm ?_ (by simp[AV.dz,AV.cg,s8]);intro Q aB aC aD;repeat' first|refine au ?_|refine aq ?_ ?_<;>intro hw<;>try omega|fail
 with_reducible refine bE [4,5,8,9,10,11,12,13,14,15,16,17,18] (fun i:Nat=>[(8,I i)]) (fun _=>[]) (fun i=>i<=l.length/\ ∀ k,k<i->p (l.getD k default)=false) (fun i=>l.length-i) (0) ?_ ?_ ?_ ?_
 ·simp
 ·rfl
 ·exact at_
 ·rintro i r ⟨hi,hp⟩;by_cases hin:i<l.length
  ·have hx:=h i hin;simp only[bX]at hx;repeat' first|refine au ?_|refine aq ?_ ?_<;>intro hw<;>try omega|fail
   ·refine aU ?_ rfl;refine congrArg I ?_;exact(pO hin hp hw).symm
   ·refine⟨i+1,?_,?_,by first|rfl|(simp[go_sem];done),cZ,at_⟩<;>(try dsimp only)
    ·exact⟨by omega,bQ hp hw⟩
    ·omega
  ·repeat' first|refine au ?_|refine aq ?_ ?_<;>intro hw<;>try omega|fail
   refine aU ?_ rfl;refine congrArg I ?_;exact(mH fun k hk=>hp k (by omega)).symm
def xB (fn : FuncId) (p : aL -> Bool) (l : List aL) (h : ∀ k, k < l.length -> aM aH fn [bX (l.getD k default)] (.bool (p (l.getD k default)))) (hl : l.length <= 2 ^ 62) :
    aM aH 81 [aW l,.fn (.func fn) [] []] (.bool (l.any p)):=by
 refine aR u6 ?_ (by simp[AV.dz,AV.cg,s8]);intro Q aB aC aD;have hc:=z_ fn p l h hl;simp only[aW]at hc;repeat' first|refine au ?_|refine aq ?_ ?_<;>intro hw<;>try omega|fail
 all_goals refine aU ?_ rfl
 all_goals rw[<-vq]
def adJ(l:List aL): (!l.any fun v=> !br v)=l.all br:=by
 induction l with
 | nil=>rfl
 | cons a l ih=>rw[List.any_cons,List.all_cons,<-ih];cases br a<;>simp
def Gt(l:List aL)(hl:oF l): aM aH 49 [aW l] (.bool (jl l)):=by
 have c:=xB 82 (fun v=> !br v) l (fun k hk=>NN _ (hl.2 _ (bn hk)).1) (by have:=hl.1;omega);obtain⟨E,hE⟩:∃ E,jl l=E:=⟨_,rfl⟩;rw[hE];unfold jl at hE;rw[<-adJ]at hE;generalize (l.any fun v=> !br v)=b at *;simp only[aW]at c ⊢;refine aR Ko ?_;intro Q aB aC aD;repeat' first|refine au ?_|refine eZ c ?_|refine aq ?_ ?_<;>intro hw<;>try omega|fail
 all_goals first
  | exact a_
  |(refine aU ?_ rfl;rw[<-hE,decide_eq_true (by omega),fH];done)
  |(refine aU ?_ rfl;rw[<-hE,decide_eq_false (by omega),gM];done)
def QO{l:List Int}(h:∀ k,k<l.length->zw l k=true): sy l=true:=aV.2 fun k hk=>h k (cV.1 hk)
def adK{l:List Int}{i:Nat}(hi:i<l.length)(h:zw l i=false): sy l=false:=by
 cases hr:sy l with
 | false=>rfl
 | true=>have:=List.all_eq_true.1 hr i (List.mem_range.2 hi);rw[h]at this;cases this
def QS(l:List Int)(hl:l.length<=2 ^ 30): aM aH 48 [dL l] (.bool (sy l)):=by
 obtain⟨E,hE⟩:∃ E,sy l=E:=⟨_,rfl⟩;rw[hE];simp only[dL];refine aR II ?_;intro Q aB aC aD;repeat' first|refine au ?_|refine aq ?_ ?_<;>intro hw<;>try omega|fail
 with_reducible refine bE [2,3,5,8,9,10,11,12,13,14,15,16,17,18,19,20] (fun q:Nat=>[(8,I q),(3,I (uE l q))]) (fun _=>[]) (fun q=>q<=l.length/\ ∀ k,k<q->zw l k=true) (fun q=>l.length-q) (0) ?_ ?_ ?_ ?_
 ·simp
 ·rfl
 ·have:uE l 0 = -1:=rfl;rw[this];simp (disch:=omega) only[qA,og,and_true,go_sem,aB,aC,aD,Int.natCast_add,Int.cast_ofNat_Int]<;>(try trivial)<;>(try omega)<;>(try (repeat (first|trivial|(refine And.intro ?_ ?_)|(congr 1;omega))))
 rintro i r ⟨g1,g2⟩;by_cases hi:i<l.length
 ·have hne:=fun h=>adK (l:=l) hi h;have dV:=fun he=>bQ (q:=fun k=>zw l k=true) g2 (i:=i) he;have hk:zw l i=decide (uE l i<l.getD i default/\l.getD i default<24):=rfl;have hs:uE l (i+1)=l.getD i default:=by unfold uE;rw[if_neg (by omega),Nat.add_sub_cancel];rfl
  obtain⟨n,hn⟩:∃ n,l.getD i default=n:=⟨_,rfl⟩;rw[hn]at hk hs;generalize uE l i=m at *;repeat' first|simp (disch:=omega) only[go_sem,aB,aC,aD,hn]|refine au ?_|refine aq ?_ ?_<;>intro hw<;>try omega|fail
  all_goals first
   | exact a_
   |(exact aU (by rw[<-hE,hne (by rw[hk,decide_eq_false (by omega)])]) rfl)
   | (refine ⟨i + 1, ?_, ?_, ?_, cZ, ?_⟩
      ·exact⟨by omega,dV (by rw[hk,decide_eq_true (by omega)])⟩
      ·dsimp only;omega
      ·first|rfl|(simp[go_sem];done)
      ·dsimp only;rw[hs];simp (disch:=omega) only[qA,og,and_true,go_sem,aB,aC,aD,Int.natCast_add,Int.cast_ofNat_Int]<;>(try trivial)<;>(try omega)<;>(try (repeat (first|trivial|(refine And.intro ?_ ?_)|(congr 1;omega)))))
 ·repeat' first|refine au ?_|refine aq ?_ ?_<;>intro hw<;>try omega|fail
  exact aU (by rw[<-hE,QO (fun k hk=>g2 k (by omega))]) rfl
def NP(l:List aL)(hl:oF l): aM aH 51 [aW l] (.bool (!jl l)):=by
 have c:=Gt l hl;generalize jl l=b at *;simp only[aW]at c ⊢;refine aR G8 ?_;intro Q aB aC aD;repeat' first|refine au ?_|refine eZ c ?_|refine aq ?_ ?_<;>intro hw<;>try omega|fail
 exact aU rfl rfl
def abG(l:List (List aL)): (!l.any fun v=> !jl v)=l.all jl:=by
 induction l with
 | nil=>rfl
 | cons a l ih=>rw[List.any_cons,List.all_cons,<-ih];cases jl a<;>simp
def abH{a b c d:Bool}{B D:Int}{n:Nat}(h:¬(a=true/\(1<=B/\B<=2147483648)/\(0<=D/\D<=99)/\b=true/\n<=24/\c=true)): (a && decide (1<=B/\B<=2147483648) && decide (0<=D/\D<=99) && b && decide (n<=24) && c && d)=false:=by
 cases hx:(a && decide (1<=B/\B<=2147483648) && decide (0<=D/\D<=99) && b && decide (n<=24) && c && d)with
 | false=>rfl
 | true =>
   simp only[aj,decide_eq_true_eq]at hx;exact absurd ⟨hx.1.1.1.1.1.1,hx.1.1.1.1.1.2,hx.1.1.1.1.2,hx.1.1.1.2,hx.1.1.2,hx.1.2⟩ h
def Y5{a b c d:Bool}{B D:Int}{n:Nat}(h1:a=true)(h2:1<=B/\B<=2147483648)(h3:0<=D/\D<=99)(h4:b=true)(h5:n<=24)(h6:c=true): (a && decide (1<=B/\B<=2147483648) && decide (0<=D/\D<=99) && b && decide (n<=24) && c && d)=d:=by
 subst h1;subst h4;subst h6;rw[decide_eq_true h2,decide_eq_true h3,decide_eq_true h5];simp
def tf{b:Bool}(h:b=true)(h':b=false): False:=by rw[h]at h';cases h'
def Sl(e:jL)(ok:qt e): aM aH 24 [jP e] (.bool (pG e)):=by
 obtain⟨o1,o2,o3,o4,o5,o6,o7⟩:=ok;have c1:=yj e.table (by omega);have c2:=QS e.rules o5.1;have c3:=Gt e.input o3;have c4:=pF 51 [] rfl (fun v=> !jl v) e.rows (fun k hk=>NP _ (o7 _ (bn hk))) (by omega);obtain⟨E,hE⟩:∃ E,pG e=E:=⟨_,rfl⟩;rw[hE];unfold pG at hE;rw[<-abG]at hE;obtain⟨A,B,C,D,F,G⟩:=e;dsimp only at *;generalize jU A=a at *;generalize sy F=b at *;generalize jl C=c at *;generalize (G.any fun v=> !jl v)=d at *;simp only[dL,aW,dU,jP,pZ]at c2 c3 c4 ⊢;refine aR Kn ?_;intro Q aB aC aD;repeat' first|refine au ?_|refine aq ?_ ?_<;>intro hw<;>try omega|fail
 all_goals first
  | exact a_
  | (refine aU ?_ rfl
     rw[<-hE];refine congrArg AV.bool ?_
     first
      |(rw[Y5 (by assumption) (by omega) (by omega) (by assumption) (by omega) (by assumption)];done)
      | (refine (abH ?_).symm
         rintro⟨h1,h2,h3,h4,h5,h6⟩
         first
          | omega
          | exact tf h1 (by assumption)
          | exact tf h4 (by assumption)
          | exact tf h6 (by assumption)))
  | skip
