/- Part of a proof: see Root. -/
import Derived.Test.YtmbgnaoilncbnaaGreatDoorZ33
set_option linter.unnecessarySimpa false
set_option linter.unusedSimpArgs false
set_option linter.unusedVariables false
namespace Go.Proofs.YtmbgnaoilncbnaaGreatDoor
open Go.AM
set_option maxRecDepth 4000
theorem ZM: ∀(k c:Nat),(sQ k c).length≤k+1:=by
 intro k
 induction k with
 | zero=>intro c;simp[sQ]
 | succ k ih => intro c; rw [sQ]; split
                ·simp
                ·have:=ih (c / 128);simp;omega
theorem d_(n:Int): (dw n).length≤10:=ZM 9 _
structure Cmd where
 kind:Int
 table:Table
 name:aH
 eu:Int
 row:List dy
 frm:Int
 cnt:Int
deriving Inhabited
theorem aa7: gU fJ:=⟨by decide,⟨by decide,fun c hc=>(by cases hc)⟩,⟨by decide,fun c hc=>(by cases hc)⟩,by decide,fun c hc=>(by cases hc)⟩
theorem SL(z:Bool)(s:aH): gU (dI z s).1:=by
 by_cases h:(dI z s).2=0
 ·exact(SK z h).2.2
 ·rcases Pr z h with e|⟨_,e⟩<;>(rw[e];exact aa7)
theorem SM{v:dy}(h:bS v=true): v.s.length≤40:=by
 rcases rW h with⟨_,h⟩|⟨_,h⟩|⟨_,_,h⟩|⟨_,h⟩
 ·rw[h];decide
 ·rw[h];decide
 ·exact h
 ·rw[h];decide
theorem wrap_u64(x:Int): cg .u64 x=x % 18446744073709551616:=rfl
theorem wrap_u8(x:Int): cg .u8 x=x % 256:=rfl
theorem wrap_i64(x:Int): cg .i64 x=if 9223372036854775808≤x % 18446744073709551616 then x % 18446744073709551616-18446744073709551616 else x % 18446744073709551616:=by
 show IntKind.wrap .i64 x=_
 simp[IntKind.wrap,IntKind.bits,IntKind.signed]
theorem xor_zero(k:IntKind)(x:Nat)(h:x<2 ^ k.bits): ((BitVec.ofInt k.bits (x:Int)) ^^^ (BitVec.ofInt k.bits 0)).toNat=x:=by
 have:BitVec.ofInt k.bits 0=0#k.bits:=by simp
 rw[this,BitVec.xor_zero]
 simp[Nat.mod_eq_of_lt h]
theorem MR(x:Nat)(h:x<18446744073709551616)(y:Int)(hy:y % 18446744073709551616=18446744073709551615): ((BitVec.ofInt 64 (x:Int)) ^^^ (BitVec.ofInt 64 y)).toNat=18446744073709551615-x:=by
 have e:BitVec.ofInt 64 y=BitVec.allOnes 64:=by
  apply BitVec.eq_of_toNat_eq
  rw[BitVec.toNat_ofInt,BitVec.toNat_allOnes];omega
 rw[e,BitVec.xor_allOnes,BitVec.toNat_not]
 have:(BitVec.ofInt 64 (x:Int)).toNat=x:=by rw[BitVec.toNat_ofInt];omega
 rw[this]
theorem Yf{n:Int}(h : -9223372036854775808≤n∧n≤9223372036854775807): nB .xor .u64 (cg .u64 (cg .u64 n*2)) (cg .u64 (n.fdiv 9223372036854775808))=o_ n:=by
 rw[jV]
 show cg .u64 (((BitVec.ofInt 64 (cg .u64 (cg .u64 n*2))) ^^^ (BitVec.ofInt 64 (cg .u64 (n.fdiv 9223372036854775808)))).toNat:Int)=o_ n
 rw[Int.fdiv_eq_ediv_of_nonneg _ (by decide)]
 simp only[wrap_u64]
 unfold o_
 by_cases hn:n<0
 ·rw[if_pos hn]
  have e1:(n % 18446744073709551616*2 % 18446744073709551616:Int)=((2*n+18446744073709551616).toNat:Int):=by omega
  rw[e1,MR _ (by omega) _ (by omega)]
  omega
 ·rw[if_neg hn]
  have e1:(n % 18446744073709551616*2 % 18446744073709551616:Int)=((2*n).toNat:Int):=by omega
  have e2:(n / 9223372036854775808 % 18446744073709551616:Int)=0:=by omega
  rw[e1,e2]
  have:=xor_zero .u64 (2*n).toNat (by show _<18446744073709551616;omega)
  have e3:IntKind.u64.bits=64:=rfl
  rw[e3]at this
  rw[this];omega
theorem SN(w k x:Nat)(hx:x<2 ^ w)(hk:k≤w): ((BitVec.ofInt w (x:Int)) &&& (BitVec.ofInt w ((2 ^ k-1:Nat):Int))).toNat=x % 2 ^ k:=by
 have h2:2 ^ k-1<2 ^ w:=Nat.lt_of_lt_of_le (Nat.sub_lt (Nat.pow_pos (by decide)) (by decide)) (Nat.pow_le_pow_right (by decide) hk)
 rw[BitVec.toNat_and]
 have e1:(BitVec.ofInt w (x:Int)).toNat=x:=by rw[BitVec.ofInt_natCast,BitVec.toNat_ofNat,Nat.mod_eq_of_lt hx]
 have e2:(BitVec.ofInt w ((2 ^ k-1:Nat):Int)).toNat=2 ^ k-1:=by rw[BitVec.ofInt_natCast,BitVec.toNat_ofNat,Nat.mod_eq_of_lt h2]
 rw[e1,e2,Nat.and_two_pow_sub_one_eq_mod]
theorem ZN{c:Nat}(h:c<18446744073709551616): nB .xor .i64 (cg .i64 ((c:Int).fdiv 2)) (cg .i64 (0-cg .i64 (nB .and .u64 (c:Int) 1)))=wu c:=by
 rw[jV]
 have ha:lU .and .u64 (c:Int) 1=((c % 2:Nat):Int):=by
  show cg .u64 (((BitVec.ofInt 64 (c:Int)) &&& (BitVec.ofInt 64 1)).toNat:Int)=_
  have:=SN 64 1 c h (by decide)
  have e:((2 ^ 1-1:Nat):Int)=1:=by decide
  rw[e]at this
  rw[this,wrap_u64];omega
 rw[ha,Int.fdiv_eq_ediv_of_nonneg _ (by decide)]
 show cg .i64 (((BitVec.ofInt 64 (cg .i64 ((c:Int) / 2))) ^^^ (BitVec.ofInt 64 (cg .i64 (0-cg .i64 ((c % 2:Nat):Int))))).toNat:Int)=wu c
 have e1:cg .i64 ((c:Int) / 2)=((c / 2:Nat):Int):=by rw[wrap_i64];split<;>omega
 have e2:cg .i64 ((c % 2:Nat):Int)=((c % 2:Nat):Int):=by rw[wrap_i64];split<;>omega
 rw[e1,e2]
 unfold wu
 by_cases hn:c % 2=1
 ·rw[if_pos hn,MR _ (by omega) _ (by rw[wrap_i64];split<;>omega),wrap_i64];split<;>omega
 ·rw[if_neg hn]
  have e3:cg .i64 (0-((c % 2:Nat):Int))=0:=by rw[wrap_i64];split<;>omega
  rw[e3]
  have:=xor_zero .i64 (c / 2) (by show _<18446744073709551616;omega)
  have e3:IntKind.i64.bits=64:=rfl
  rw[e3]at this
  rw[this,wrap_i64];split<;>omega
theorem SO{x:Int}{c:Nat}(h:x % 256=((c % 256:Nat):Int)): nB .and .u8 (cg .u8 x) 127=((c % 128:Nat):Int):=by
 rw[jV]
 show cg .u8 (((BitVec.ofInt 8 (cg .u8 x)) &&& (BitVec.ofInt 8 127)).toNat:Int)=_
 have:=SN 8 7 (c % 256) (by omega) (by decide)
 have e:((2 ^ 7-1:Nat):Int)=127:=by decide
 rw[e]at this
 rw[wrap_u8 x,h,this,wrap_u8];omega
theorem Yg{w k x:Nat}{y:Nat}(hx:x<2 ^ k)(hw:2 ^ k*y+x<2 ^ w): ((BitVec.ofInt w (x:Int)) |||(BitVec.ofInt w ((2 ^ k*y:Nat):Int))).toNat=2 ^ k*y+x:=by
 rw[BitVec.toNat_or]
 have e1:(BitVec.ofInt w (x:Int)).toNat=x:=by rw[BitVec.ofInt_natCast,BitVec.toNat_ofNat,Nat.mod_eq_of_lt (by omega)]
 have e2:(BitVec.ofInt w ((2 ^ k*y:Nat):Int)).toNat=2 ^ k*y:=by rw[BitVec.ofInt_natCast,BitVec.toNat_ofNat,Nat.mod_eq_of_lt (by omega)]
 rw[e1,e2,Nat.or_comm,Nat.two_pow_add_eq_or_of_lt hx]
theorem Yh{d:Nat}(h:d<128): nB .or .u8 (d:Int) 128=((128+d:Nat):Int):=by
 rw[jV]
 show cg .u8 (((BitVec.ofInt 8 (d:Int)) |||(BitVec.ofInt 8 128)).toNat:Int)=_
 have:=Yg (w:=8) (k:=7) (x:=d) (y:=1) (by omega) (by omega)
 have e:((2 ^ 7*1:Nat):Int)=128:=by decide
 rw[e]at this
 rw[this,wrap_u8];omega
theorem ZO{c d i:Nat}(hc:c<128 ^ i)(h:c+d*128 ^ i<18446744073709551616): nB .or .u64 (c:Int) (cg .u64 ((d:Int)*2 ^ (7*i)))=((c+d*128 ^ i:Nat):Int):=by
 have e0:(2:Nat) ^ (7*i)=128 ^ i:=by rw[Nat.pow_mul]
 have e1:((d:Int)*2 ^ (7*i))=((2 ^ (7*i)*d:Nat):Int):=by push_cast;rw[Int.mul_comm]
 rw[jV,e1]
 have h2:2 ^ (7*i)*d<18446744073709551616:=by rw[e0,Nat.mul_comm];omega
 have e2:cg .u64 ((2 ^ (7*i)*d:Nat):Int)=((2 ^ (7*i)*d:Nat):Int):=by rw[wrap_u64];omega
 rw[e2]
 show cg .u64 (((BitVec.ofInt 64 (c:Int)) |||(BitVec.ofInt 64 ((2 ^ (7*i)*d:Nat):Int))).toNat:Int)=_
 rw[Yg (by rw[e0];exact hc) (by rw[e0,Nat.mul_comm];omega),wrap_u64,e0,Nat.mul_comm];omega
def Co(c:Nat): UInt8:=UInt8.ofNat (c % 128)
def yZ(c:Nat): UInt8:=UInt8.ofNat (128+c % 128)
theorem sR(c:Nat): ((c % 128:Nat):Int)=((Co c).toNat:Int):=by rw[Co,u8 _ (by omega)]
theorem Yi(c:Nat): nB .or .u8 ((Co c).toNat:Int) 128=((yZ c).toNat:Int):=by
 rw[← sR,Yh (by omega),yZ,u8 _ (by omega)]
theorem IJ(s:aH)(b:UInt8): pU s++[AV.int .u8 b.toNat]=pU (s++[b]):=by simp
theorem SP{k c:Nat}(h:c<128): sQ k c=[Co c]:=by
 rw[Co,Nat.mod_eq_of_lt h];cases k with
 | zero=>rfl
 | succ k=>rw[sQ,if_pos h]
theorem Ps{k c:Nat}(h:128≤c): sQ (k+1) c=yZ c::sQ k (c / 128):=by rw[sQ,if_neg (by omega)];rfl
theorem WI(n:Int)(h:mC n): aq Tryz.prog zE [I n] (.int .u64 (o_ n)):=by
 refine aq.of_nil (PX (by simp) ?_) rfl
 unfold GH aM
 intro Q aC aD aE
 repeat' first|refine aB ?_|refine aA (fun hw=>?_) (fun hw=>?_)<;>try omega|fail
 refine aL ?_ rfl
 exact congrArg (AV.int .u64) (Yf h)
theorem T_(c:Nat): aq Tryz.prog lX [.int .u64 c] (.int .u8 ((Co c).toNat)):=by
 refine aq.of_nil (FV (by simp) ?_) rfl
 unfold wX aM
 intro Q aC aD aE
 repeat' first|refine aB ?_|refine aA (fun hw=>?_) (fun hw=>?_)<;>try omega|fail
 refine aL ?_ rfl
 refine congrArg (AV.int .u8) ?_
 rw[← sR]
 exact SO (by omega)
theorem WJ(c:Nat): aq Tryz.prog tV [I c] (.int .u8 ((Co c).toNat)):=by
 refine aq.of_nil (Ke (by simp) ?_) rfl
 unfold Bp aM
 intro Q aC aD aE
 repeat' first|refine aB ?_|refine aA (fun hw=>?_) (fun hw=>?_)<;>try omega|fail
 refine aL ?_ rfl
 refine congrArg (AV.int .u8) ?_
 rw[← sR]
 exact SO (by omega)
theorem SQ(c:Nat)(h:c<18446744073709551616): aq Tryz.prog vG [.int .u64 c] (I (wu c)):=by
 refine aq.of_nil (LG (by simp) ?_) rfl
 unfold CX aM
 intro Q aC aD aE
 repeat' first|refine aB ?_|refine aA (fun hw=>?_) (fun hw=>?_)<;>try omega|fail
 refine aL ?_ rfl
 exact congrArg I (ZN h)
theorem mh(n:Int)(h:mC n): aq Tryz.prog gM [I n] (.str (dw n)):=by
 have hc:=KH h.1 h.2
 obtain⟨E,hE⟩:∃ E,dw n=E:=⟨_,rfl⟩
 rw[hE]
 unfold dw at hE
 have h1:=WI n h
 generalize o_ n=c0 at *
 refine aq.of_nil (Rq (by simp) ?_) rfl
 unfold Jf aM
 intro Q aC aD aE
 repeat' first|refine aB ?_|refine aF h1 ?_|refine aA (fun hw=>?_) (fun hw=>?_)<;>try omega|fail
 with_reducible refine a_ [3,4,8,9,10,11,12,13,14,15,16,17] (fun q:Nat × aH × Nat=>[(3,.int .u64 q.2.2),(4,.own E1 0 q.2.1.length 0 q.2.1.length)]) (fun q=>[.vec E1 (pU q.2.1)]) (fun q=>q.1≤9∧q.2.1.length=q.1∧q.2.2*128 ^ q.1<18446744073709551616∧E=q.2.1++sQ (9-q.1) q.2.2) (fun q=>10-q.1) ((0,[],c0)) ?_ ?_ ?_ ?_
 ·exact⟨by omega,rfl,by show c0*1<_;omega,by simp[hE]⟩
 ·rfl
 ·exact at_
 rintro⟨i,s,c⟩ r ⟨g1,g2,g3,g4⟩
 dsimp only at g1 g2 g3 g4
 have hl:=T_ c
 have hm:=Yi c
 have hq:(c:Int).fdiv (2 ^ (Int.toNat 7).min 64)=((c / 128:Nat):Int):=by
  show(c:Int).fdiv 128=_
  rw[Int.fdiv_eq_ediv_of_nonneg _ (by decide)];omega
 by_cases hb:128≤c
 ·have hi : i < 9 := by
   rcases Nat.lt_or_ge i 9 with h|h
   ·exact h
   ·obtain rfl:i=9:=by omega
    have e:(128:Nat) ^ 9=9223372036854775808:=by decide
    rw[e]at g3;omega
  obtain⟨k,hk⟩:∃ k,9-i=k+1:=⟨8-i,by omega⟩
  rw[hk,Ps hb]at g4
  repeat' first|simp (disch:=omega) only[go_sem,aC,aD,aE,aj,au,ak,Nat.reduceAdd,Nat.reduceBEq,↓reduceIte,hm,hq,IJ]|refine aB ?_|refine aF hl ?_|refine aA (fun hw=>?_) (fun hw=>?_)<;>try omega|fail
  refine⟨(i+1,s++[yZ c],c / 128),?_,?_,?_,bG,at_⟩<;>(try dsimp only)
  ·refine⟨by omega,by simp[g2],?_,?_⟩
   ·have e2 : c / 128 * 128 ^ (i + 1) = 128 * (c / 128) * 128 ^ i := by
     rw[Nat.pow_succ,Nat.mul_comm (128 ^ i) 128,← Nat.mul_assoc,Nat.mul_comm (c / 128) 128]
    exact Nat.lt_of_le_of_lt (by rw[e2];exact Nat.mul_le_mul_right _ (by omega)) g3
   ·have:9-(i+1)=k:=by omega
    rw[this];simp[g4]
  ·omega
  all_goals (simp[g2];done)
 ·rw[SP (by omega)]at g4
  repeat' first|simp (disch:=omega) only[go_sem,aC,aD,aE,aj,au,ak,Nat.reduceAdd,Nat.reduceBEq,↓reduceIte,IJ]|refine aB ?_|refine aF hl ?_|refine aA (fun hw=>?_) (fun hw=>?_)<;>try omega|fail
  exact aL (by rw[g4]) rfl
def eN(t:Int × aH × Int): AV:= .bJ [I t.1,.str t.2.1,I t.2.2]
def eS(t:aH × aH × Int): AV:= .bJ [.str t.1,.str t.2.1,I t.2.2]
theorem oc(s:aH)(hs:s.length≤2 ^ 62): aq Tryz.prog iF [.str s] (eN (takeN s)):=by
 obtain⟨E,hE⟩:∃ E,takeN s=E:=⟨_,rfl⟩
 rw[hE]
 unfold takeN at hE
 obtain⟨m,wT,Gm⟩:∃ m:Nat,m=min s.length 10∧(if(10:Int)<(s.length:Int)then (10:Int)else (s.length:Int))=(m:Int):=⟨min s.length 10,rfl,by split<;>omega⟩
 refine aq.of_nil (Kb (by simp) ?_) rfl
 unfold Bm aM
 intro Q aC aD aE
 repeat' first|simp (disch:=omega) only[go_sem,aC,aD,aE,aj,au,ak,Nat.reduceAdd,Nat.reduceBEq,↓reduceIte,Gm]|refine aB ?_|refine aA (fun hw=>?_) (fun hw=>?_)<;>try omega|fail
 with_reducible refine a_ [2,3,4,5,6,7,11,12,13,14,15,16,17,18,19,20,21,22,23,24,25,26,27,28,29,30,31,32,33,34,35,36,37,38,39,40,41,42,43,44,45,46,47,48] (fun q:Nat × Nat=>[(11,I q.1),(5,.int .u64 q.2)]) (fun _=>[]) (fun q=>q.1≤m∧q.2<128 ^ q.1∧q.1≤9∧E=pg q.1 q.2 (s.drop q.1)) (fun q=>m-q.1) ((0,0)) ?_ ?_ ?_ ?_
 ·exact⟨by omega,by decide,by decide,by rw[← hE];rfl⟩
 ·rfl
 ·exact at_
 rintro⟨i,c⟩ r ⟨g1,g2,g4,g3⟩
 dsimp only at g1 g2 g3 g4
 by_cases hi:i<m
 ·have Us:i<s.length:=by omega
  rw[fO Us,pg]at g3
  obtain⟨b,hb⟩:∃ b,s.getD i 0=b:=⟨_,rfl⟩
  rw[hb]at g3
  have hb8:b.toNat<256:=b.toNat_lt
  by_cases he:(0<i∧b.toNat=0)∨(i=9∧1<b.toNat)
  ·rw[if_pos he]at g3
   repeat' first|simp (disch:=omega) only[go_sem,aC,aD,aE,aj,au,ak,Nat.reduceAdd,Nat.reduceBEq,↓reduceIte,hb]|refine aB ?_|refine aA (fun hw=>?_) (fun hw=>?_)<;>try omega|fail
   all_goals first
    | exact aZ
    |(refine aP ?_ rfl;rw[g3])
  ·rw[if_neg he]at g3
   have hl:=WJ b.toNat
   have hmin:Nat.min ((7*(i:Int)).toNat) 64=7*i:=by show min _ 64=_;omega
   have hsum:c+b.toNat % 128*128 ^ i<18446744073709551616:=by
    by_cases h9:i=9
    ·subst h9
     have e:(128:Nat) ^ 9=9223372036854775808:=by decide
     rw[e]at g2 ⊢;omega
    ·have e:(128:Nat) ^ (i+1)≤128 ^ 9:=Nat.pow_le_pow_right (by decide) (by omega)
     rw[Nat.pow_succ]at e
     have e2:(128:Nat) ^ 9=9223372036854775808:=by decide
     have:b.toNat % 128*128 ^ i≤127*128 ^ i:=Nat.mul_le_mul_right _ (by omega)
     omega
   have hacc:=ZO g2 hsum
   rw[sR]at hacc
   have hlow:((Co b.toNat).toNat:Int)<128:=by rw[← sR];omega
   have hn:=SQ _ hsum
   obtain⟨c',hc'⟩:∃ c',c+b.toNat % 128*128 ^ i=c':=⟨_,rfl⟩
   rw[hc']at hacc hn g3 hsum
   repeat' first|simp (disch:=omega) only[go_sem,aC,aD,aE,aj,au,ak,Nat.reduceAdd,Nat.reduceBEq,↓reduceIte,hb,hmin,hacc]|refine aB ?_|refine aF hl ?_|refine aF hn ?_|refine aA (fun hw=>?_) (fun hw=>?_)<;>try omega|fail
   all_goals first
    | exact aZ
    |(rw[if_pos (by omega)]at g3;refine aP ?_ rfl;rw[g3];done)
    | (rw [if_neg (by omega)] at g3
       refine⟨(i+1,c'),?_,?_,by first|rfl|(simp[go_sem];done),bG,at_⟩<;>(try dsimp only)
       ·refine⟨by omega,?_,by omega,g3⟩
        rw[Nat.pow_succ,← hc']
        have:b.toNat % 128*128 ^ i≤127*128 ^ i:=Nat.mul_le_mul_right _ (by omega)
        omega
       ·omega)
 ·rw[List.drop_of_length_le (by omega),pg]at g3
  repeat' first|refine aB ?_|refine aA (fun hw=>?_) (fun hw=>?_)<;>try omega|fail
  refine aP ?_ rfl
  rw[g3]
theorem WK(s:aH)(most:Int)(hs:s.length≤2 ^ 62): aq Tryz.prog zH [.str s,I most] (eN (if(takeN s).2.2≠0 then(0,[],(takeN s).2.2)else if(takeN s).1<0 then(0,[],4)else if(takeN s).1>most then(0,[],5)else ((takeN s).1,(takeN s).2.1,0))):=by
 have h1:=oc s hs
 generalize takeN s=t at *
 obtain⟨n,r,e⟩:=t
 simp only[eN]at h1
 refine aq.of_nil (P3 (by simp) ?_) rfl
 unfold GL aM
 intro Q aC aD aE
 repeat' first|refine aB ?_|refine aF h1 ?_|refine aA (fun hw=>?_) (fun hw=>?_)<;>try omega|fail
 all_goals (refine aP ?_ rfl)
 ·rw[if_pos hw]
 ·rw[if_neg (by omega),if_pos (by omega)]
 ·rw[if_neg (by omega),if_neg (by omega),if_pos (by omega)]
 ·rw[if_neg (by omega),if_neg (by omega),if_neg (by omega)]
theorem Dr(s:aH)(most:Int)(hs:s.length≤2 ^ 62): aq Tryz.prog nG [.str s,I most] (eS (eF s most)):=by
 have h1:=WK s most hs
 have hl:=(gC s).1
 unfold eF
 generalize takeN s=t at *
 obtain⟨n,r,e⟩:=t
 dsimp only at h1 hl ⊢
 by_cases c1:e≠0
 ·rw[if_pos c1]at h1 ⊢
  simp only[eN]at h1
  refine aq.of_nil (j7 (by simp) ?_) rfl
  unfold jf aM
  intro Q aC aD aE
  repeat' first|refine aB ?_|refine aF h1 ?_|refine aA (fun hw=>?_) (fun hw=>?_)<;>try omega|fail
  exact aP rfl rfl
 by_cases c2:n<0
 ·rw[if_neg c1,if_pos c2]at h1 ⊢
  simp only[eN]at h1
  refine aq.of_nil (j7 (by simp) ?_) rfl
  unfold jf aM
  intro Q aC aD aE
  repeat' first|refine aB ?_|refine aF h1 ?_|refine aA (fun hw=>?_) (fun hw=>?_)<;>try omega|fail
  exact aP rfl rfl
 by_cases c3:n>most
 ·rw[if_neg c1,if_neg c2,if_pos c3]at h1 ⊢
  simp only[eN]at h1
  refine aq.of_nil (j7 (by simp) ?_) rfl
  unfold jf aM
  intro Q aC aD aE
  repeat' first|refine aB ?_|refine aF h1 ?_|refine aA (fun hw=>?_) (fun hw=>?_)<;>try omega|fail
  exact aP rfl rfl
 rw[if_neg c1,if_neg c2,if_neg c3]at h1 ⊢
 simp only[eN]at h1
 by_cases c4:n>r.length
 ·rw[if_pos c4]
  refine aq.of_nil (j7 (by simp) ?_) rfl
  unfold jf aM
  intro Q aC aD aE
  repeat' first|refine aB ?_|refine aF h1 ?_|refine aA (fun hw=>?_) (fun hw=>?_)<;>try omega|fail
  exact aP rfl rfl
 rw[if_neg c4]
 obtain⟨k,rfl⟩:∃ k:Nat,n=(k:Int):=⟨n.toNat,by omega⟩
 refine aq.of_nil (j7 (by simp) ?_) rfl
 unfold jf aM
 intro Q aC aD aE
 repeat' first|refine aB ?_|refine aF h1 ?_|refine aA (fun hw=>?_) (fun hw=>?_)<;>try omega|fail
 refine aP ?_ rfl
 simp
theorem y2(s:aH)(hs:s.length≤2 ^ 61): aq Tryz.prog mL [.str s] (.str (bY s)):=by
 have h1:=mh s.length ⟨by omega,by omega⟩
 have h2:=d_ s.length
 unfold bY
 generalize dw s.length=x at *
 refine aq.of_nil (PU (by simp) ?_) rfl
 unfold GB aM
 intro Q aC aD aE
 have KN:((x.length+s.length:Nat):Int)≤IntKind.i64.max:=by show _≤(9223372036854775807:Int);omega
 repeat' first|refine aB ?_|refine aF h1 ?_|refine aA (fun hw=>?_) (fun hw=>?_)<;>try omega|fail
 exact aL rfl rfl
theorem WL(n:Int)(h:mC n): aq Tryz.prog zI [I n] (.int .u64 (o_ n)):=by
 obtain⟨h1,h2⟩:=h
 refine aq.of_nil (P4 (by simp) ?_) rfl
 unfold GM aM
 intro Q aC aD aE
 repeat' first|refine aB ?_|refine aA (fun hw=>?_) (fun hw=>?_)<;>try omega|fail
 all_goals (refine aL ?_ rfl;refine congrArg (AV.int .u64) ?_;unfold o_)
 ·rw[if_pos (by omega)];omega
 ·rw[if_neg (by omega)];omega
theorem SR(c:Nat)(h:c<18446744073709551616): aq Tryz.prog vE [.int .u64 c] (I (wu c)):=by
 refine aq.of_nil (LB (by simp) ?_) rfl
 unfold CU aM
 intro Q aC aD aE
 have e1:Int.tmod (c:Int) 2=((c % 2:Nat):Int):=by rw[Int.tmod_eq_emod_of_nonneg (by omega)];omega
 have e2:Int.tdiv (c:Int) 2=((c / 2:Nat):Int):=by rw[Int.tdiv_eq_ediv_of_nonneg (by omega)];omega
 repeat' first|simp (disch:=omega) only[go_sem,aC,aD,aE,aj,au,ak,Nat.reduceAdd,Nat.reduceBEq,↓reduceIte,e1,e2]|refine aB ?_|refine aA (fun hw=>?_) (fun hw=>?_)<;>try omega|fail
 all_goals (refine aL ?_ rfl;refine congrArg I ?_;unfold wu)
 ·rw[if_pos (by omega)]
 ·rw[if_neg (by omega)]
theorem mj(n:Int)(h:mC n): aq Tryz.prog gN [I n] (.str (dw n)):=by
 have hc:=KH h.1 h.2
 obtain⟨E,hE⟩:∃ E,dw n=E:=⟨_,rfl⟩
 rw[hE]
 unfold dw at hE
 have h1:=WL n h
 generalize o_ n=c0 at *
 refine aq.of_nil (Rs (by simp) ?_) rfl
 unfold Jh aM
 intro Q aC aD aE
 repeat' first|refine aB ?_|refine aF h1 ?_|refine aA (fun hw=>?_) (fun hw=>?_)<;>try omega|fail
 with_reducible refine a_ [3,4,7,8,9,10,11,12,13,14,15,16,17] (fun q:Nat × aH × Nat=>[(3,.int .u64 q.2.2),(4,.own E1 0 q.2.1.length 0 q.2.1.length)]) (fun q=>[.vec E1 (pU q.2.1)]) (fun q=>q.1≤9∧q.2.1.length=q.1∧q.2.2*128 ^ q.1<18446744073709551616∧E=q.2.1++sQ (9-q.1) q.2.2) (fun q=>10-q.1) ((0,[],c0)) ?_ ?_ ?_ ?_
 ·exact⟨by omega,rfl,by show c0*1<_;omega,by simp[hE]⟩
 ·rfl
 ·exact at_
 rintro⟨i,s,c⟩ r ⟨g1,g2,g3,g4⟩
 dsimp only at g1 g2 g3 g4
 have ahQ:c<18446744073709551616:=Nat.lt_of_le_of_lt (Nat.le_mul_of_pos_right c (Nat.pow_pos (by decide))) g3
 have hm:128+(c:Int) % 128=((yZ c).toNat:Int):=by rw[yZ,u8 _ (by omega)];omega
 have hb8:(yZ c).toNat<256:=(yZ c).toNat_lt
 by_cases hb:128≤c
 ·have hi : i < 9 := by
   rcases Nat.lt_or_ge i 9 with h|h
   ·exact h
   ·obtain rfl:i=9:=by omega
    have e:(128:Nat) ^ 9=9223372036854775808:=by decide
    rw[e]at g3;omega
  obtain⟨k,hk⟩:∃ k,9-i=k+1:=⟨8-i,by omega⟩
  rw[hk,Ps hb]at g4
  repeat' first|simp (disch:=omega) only[go_sem,aC,aD,aE,aj,au,ak,Nat.reduceAdd,Nat.reduceBEq,↓reduceIte,hm,IJ]|refine aB ?_|refine aA (fun hw=>?_) (fun hw=>?_)<;>try omega|fail
  refine⟨(i+1,s++[yZ c],c / 128),?_,?_,?_,bG,at_⟩<;>(try dsimp only)
  ·refine⟨by omega,by simp[g2],?_,?_⟩
   ·have e2 : c / 128 * 128 ^ (i + 1) = 128 * (c / 128) * 128 ^ i := by
     rw[Nat.pow_succ,Nat.mul_comm (128 ^ i) 128,← Nat.mul_assoc,Nat.mul_comm (c / 128) 128]
    exact Nat.lt_of_le_of_lt (by rw[e2];exact Nat.mul_le_mul_right _ (by omega)) g3
   ·have:9-(i+1)=k:=by omega
    rw[this];simp[g4]
  ·omega
  all_goals (first|(simp[g2];done)|skip)
 ·rw[SP (by omega)]at g4
  have hlo:(c:Int)=((Co c).toNat:Int):=by rw[← sR];omega
  have hw8:cg .u8 (c:Int)=((Co c).toNat:Int):=by rw[wrap_u8,← sR];omega
  repeat' first|simp (disch:=omega) only[go_sem,aC,aD,aE,aj,au,ak,Nat.reduceAdd,Nat.reduceBEq,↓reduceIte,hw8,IJ]|refine aB ?_|refine aA (fun hw=>?_) (fun hw=>?_)<;>try omega|fail
  exact aL (by rw[g4]) rfl
theorem oe(s:aH)(hs:s.length≤2 ^ 62): aq Tryz.prog iE [.str s] (eN (takeN s)):=by
 obtain⟨E,hE⟩:∃ E,takeN s=E:=⟨_,rfl⟩
 rw[hE]
 unfold takeN at hE
 refine aq.of_nil (J8 (by simp) ?_) rfl
 unfold Bi aM
 intro Q aC aD aE
 repeat' first|refine aB ?_|refine aA (fun hw=>?_) (fun hw=>?_)<;>try omega|fail
 with_reducible refine a_ [2,3,4,5,6,7,8,9,10,11,12,13,14,15,16,17,18,19,20,21,22,23,24,25,26,27,28,29,30,31,32,33,34,35,36,37,38,39,40,41,42,43,44,45,46,47,48,49,50,51,52,53,54] (fun q:Nat × Nat=>[(7,I q.1),(5,.int .u64 q.2),(6,.int .u64 ((128 ^ q.1:Nat):Int))]) (fun _=>[]) (fun q=>q.1≤s.length∧q.2<128 ^ q.1∧q.1≤9∧E=pg q.1 q.2 (s.drop q.1)) (fun q=>s.length-q.1) ((0,0)) ?_ ?_ ?_ ?_
 ·exact⟨by omega,by decide,by decide,by rw[← hE];rfl⟩
 ·rfl
 ·exact at_
 rintro⟨i,c⟩ r ⟨g1,g2,g4,g3⟩
 dsimp only at g1 g2 g3 g4
 by_cases hi:i<s.length
 ·rw[fO hi,pg]at g3
  obtain⟨b,hb⟩:∃ b,s.getD i 0=b:=⟨_,rfl⟩
  rw[hb]at g3
  have hb8:b.toNat<256:=b.toNat_lt
  by_cases he:(0<i∧b.toNat=0)∨(i=9∧1<b.toNat)
  ·rw[if_pos he]at g3
   repeat' first|simp (disch:=omega) only[go_sem,aC,aD,aE,aj,au,ak,Nat.reduceAdd,Nat.reduceBEq,↓reduceIte,hb]|refine aB ?_|refine aA (fun hw=>?_) (fun hw=>?_)<;>try omega|fail
   all_goals first
    | exact aZ
    |(refine aP ?_ rfl;rw[g3])
  ·rw[if_neg he]at g3
   have p9:(128:Nat) ^ i≤9223372036854775808:=Nat.pow_le_pow_right (n:=128) (by decide) g4
   have hd:Int.tmod (b.toNat:Int) 128=((b.toNat % 128:Nat):Int):=by rw[Int.tmod_eq_emod_of_nonneg (by omega)];omega
   have hsum:c+b.toNat % 128*128 ^ i<18446744073709551616:=by
    by_cases h9:i=9
    ·subst h9
     have e:(128:Nat) ^ 9=9223372036854775808:=by decide
     rw[e]at g2 ⊢;omega
    ·have e:(128:Nat) ^ (i+1)≤128 ^ 9:=Nat.pow_le_pow_right (by decide) (by omega)
     rw[Nat.pow_succ]at e
     have e2:(128:Nat) ^ 9=9223372036854775808:=by decide
     have:b.toNat % 128*128 ^ i≤127*128 ^ i:=Nat.mul_le_mul_right _ (by omega)
     omega
   have hmul:cg .u64 (((b.toNat % 128:Nat):Int)*((128 ^ i:Nat):Int))=((b.toNat % 128*128 ^ i:Nat):Int):=by
    rw[← Int.natCast_mul,wrap_u64];omega
   have KN:cg .u64 ((c:Int)+((b.toNat % 128*128 ^ i:Nat):Int))=((c+b.toNat % 128*128 ^ i:Nat):Int):=by
    rw[wrap_u64];omega
   have hn:=SR _ hsum
   have hlt:c+b.toNat % 128*128 ^ i<128 ^ (i+1):=by
    rw[Nat.pow_succ]
    have:b.toNat % 128*128 ^ i≤127*128 ^ i:=Nat.mul_le_mul_right _ (by omega)
    omega
   have hpw:i≠9→cg .u64 (((128 ^ i:Nat):Int)*128)=((128 ^ (i+1):Nat):Int):=fun h9=>by
    have e:(128:Nat) ^ (i+1)≤128 ^ 9:=Nat.pow_le_pow_right (by decide) (by omega)
    have e2:(128:Nat) ^ 9=9223372036854775808:=by decide
    rw[Nat.pow_succ]at e ⊢
    rw[wrap_u64];omega
   obtain⟨c',hc'⟩:∃ c',c+b.toNat % 128*128 ^ i=c':=⟨_,rfl⟩
   rw[hc']at KN hn g3 hsum hlt
   by_cases h9:b.toNat<128
   ·rw[if_pos h9]at g3
    repeat' first|simp (disch:=omega) only[go_sem,aC,aD,aE,aj,au,ak,Nat.reduceAdd,Nat.reduceBEq,↓reduceIte,hb,hd,hmul,KN]|refine aB ?_|refine aF hn ?_|refine aA (fun hw=>?_) (fun hw=>?_)<;>try omega|fail
    all_goals first
     | exact aZ
     |(refine aP ?_ rfl;rw[g3];done)
   ·rw[if_neg h9]at g3
    have hpw:=hpw (by omega)
    repeat' first|simp (disch:=omega) only[go_sem,aC,aD,aE,aj,au,ak,Nat.reduceAdd,Nat.reduceBEq,↓reduceIte,hb,hd,hmul,KN,hpw]|refine aB ?_|refine aF hn ?_|refine aA (fun hw=>?_) (fun hw=>?_)<;>try omega|fail
    all_goals first
     | exact aZ
     | (refine ⟨(i + 1, c'), ?_, ?_, by first | rfl | (simp [go_sem]; done), bG, at_⟩ <;> (try dsimp only)
        ·exact⟨by omega,hlt,by omega,g3⟩
        ·omega)
 ·rw[List.drop_of_length_le (by omega),pg]at g3
  repeat' first|refine aB ?_|refine aA (fun hw=>?_) (fun hw=>?_)<;>try omega|fail
  refine aP ?_ rfl
  rw[g3]
theorem Ds(s:aH)(most:Int)(hs:s.length≤2 ^ 62): aq Tryz.prog nE [.str s,I most] (eS (eF s most)):=by
 have h1:=oe s hs
 have hl:=(gC s).1
 unfold eF
 generalize takeN s=t at *
 obtain⟨n,r,e⟩:=t
 dsimp only at h1 hl ⊢
 simp only[eN]at h1
 obtain⟨E,hE⟩:∃ E,(if e≠0 then([],[],e)else if n<0 then([],[],4)else if n>most then([],[],5)else if n>r.length then([],[],3)else (r.take n.toNat,r.drop n.toNat,0):aH × aH × Int)=E:=⟨_,rfl⟩
 rw[hE]
 refine aq.of_nil (IZ (by simp) ?_) rfl
 unfold z8 aM
 intro Q aC aD aE
 by_cases hk:0≤n
 ·obtain⟨k,rfl⟩:∃ k:Nat,n=(k:Int):=⟨n.toNat,by omega⟩
  repeat' first|refine aB ?_|refine aF h1 ?_|refine aA (fun hw=>?_) (fun hw=>?_)<;>try omega|fail
  all_goals first|exact aZ|refine aP ?_ rfl
  ·rw[if_pos hw]at hE;rw[← hE]
  ·rw[if_neg (by omega),if_neg (by omega),if_pos (by omega)]at hE;rw[← hE]
  ·rw[if_neg (by omega),if_neg (by omega),if_neg (by omega),if_pos (by omega)]at hE;rw[← hE]
  ·rw[if_neg (by omega),if_neg (by omega),if_neg (by omega),if_neg (by omega)]at hE;rw[← hE];simp
 ·repeat' first|refine aB ?_|refine aF h1 ?_|refine aA (fun hw=>?_) (fun hw=>?_)<;>try omega|fail
  all_goals first|exact aZ|refine aP ?_ rfl
  ·rw[if_pos hw]at hE;rw[← hE]
  ·rw[if_neg (by omega),if_pos (by omega)]at hE;rw[← hE]
theorem uQ(s:aH)(hs:s.length≤2 ^ 61): aq Tryz.prog kR [.str s] (.str (bY s)):=by
 have h1:=mj s.length ⟨by omega,by omega⟩
 have h2:=d_ s.length
 unfold bY
 generalize dw s.length=x at *
 refine aq.of_nil (PW (by simp) ?_) rfl
 unfold GF aM
 intro Q aC aD aE
 have KN:((x.length+s.length:Nat):Int)≤IntKind.i64.max:=by show _≤(9223372036854775807:Int);omega
 repeat' first|refine aB ?_|refine aF h1 ?_|refine aA (fun hw=>?_) (fun hw=>?_)<;>try omega|fail
 exact aL rfl rfl
def eVS(t:dy × aH × Int): AV:= .bJ [.agg [I t.1.kind,I t.1.n,.str t.1.s],.str t.2.1,I t.2.2]
def Oh(t:List dy × aH × Int): AV:= .bJ [dH t.1,.str t.2.1,I t.2.2]
theorem WM(s:aH)(hs:s.length≤2 ^ 61): aq Tryz.prog zK [.str s] (eVS (iN s)):=by
 obtain⟨E,hE⟩:∃ E,iN s=E:=⟨_,rfl⟩
 rw[hE]
 unfold iN at hE
 have h1:=oc s (by omega)
 have hr:=gC s
 have hg:=qi s
 generalize takeN s=t at *
 obtain⟨k,r,e⟩:=t
 dsimp only at hE hr hg
 simp only[eN]at h1
 have h2:=oc r (by omega)
 have h3:=Dr r 40 (by omega)
 have Pf:=qi r
 generalize takeN r=t at *
 obtain⟨n,r2,e2⟩:=t
 generalize eF r 40=u at *
 obtain⟨x,r3,e3⟩:=u
 dsimp only at hE Pf
 simp only[eN,eS]at h2 h3
 have c1:=mA k n [] Pf.1 Pf.2
 have c2:=mA 2 0 x (by decide) (by decide)
 have c0:=mA 0 0 [] (by decide) (by decide)
 have q0:kV (bS ⟨0,0,[]⟩)=0:=rfl
 rw[q0]at c0
 unfold FN at hE
 refine aq.of_nil (P6 (by simp) ?_) rfl
 unfold GO aM
 intro Q aC aD aE
 by_cases he:e=0
 ·rw[if_neg (by omega)]at hE
  by_cases k0:k=0
  ·rw[if_pos k0]at hE
   repeat' first|simp (disch:=omega) only[go_sem,aC,aD,aE,aj,au,ak,Nat.reduceAdd,Nat.reduceBEq,↓reduceIte,he,k0]|refine aB ?_|refine aF h1 ?_|refine aF c0 ?_|refine aA (fun hw=>?_) (fun hw=>?_)<;>try omega|fail
   all_goals first|exact aZ|(refine aP ?_ rfl;rw[← hE]<;>rfl)
  rw[if_neg k0]at hE
  by_cases k1:k=1∨k=3
  ·rw[if_pos k1]at hE
   by_cases Ra:e2=0
   ·rw[if_neg (by omega)]at hE
    generalize bS ⟨k,n,[]⟩=b at *
    cases b
    all_goals
     simp only[kV,if_true,Bool.false_eq_true,if_false]at c1 hE
     repeat' first|simp (disch:=omega) only[go_sem,aC,aD,aE,aj,au,ak,Nat.reduceAdd,Nat.reduceBEq,↓reduceIte,he,Ra]|refine aB ?_|refine aF h1 ?_|refine aF h2 ?_|refine aF c1 ?_|refine aA (fun hw=>?_) (fun hw=>?_)<;>try omega|fail
    all_goals first|exact aZ|(refine aP ?_ rfl;rw[← hE]<;>rfl)
   ·rw[if_pos Ra]at hE
    repeat' first|simp (disch:=omega) only[go_sem,aC,aD,aE,aj,au,ak,Nat.reduceAdd,Nat.reduceBEq,↓reduceIte,he]|refine aB ?_|refine aF h1 ?_|refine aF h2 ?_|refine aF c1 ?_|refine aA (fun hw=>?_) (fun hw=>?_)<;>try omega|fail
    all_goals first|exact aZ|(refine aP ?_ rfl;rw[← hE]<;>rfl)
  rw[if_neg k1]at hE
  by_cases k2:k=2
  ·rw[if_pos k2]at hE
   by_cases Yj:e3=0
   ·rw[if_neg (by omega)]at hE
    generalize bS ⟨2,0,x⟩=b at *
    cases b
    all_goals
     simp only[kV,if_true,Bool.false_eq_true,if_false]at c2 hE
     repeat' first|simp (disch:=omega) only[go_sem,aC,aD,aE,aj,au,ak,Nat.reduceAdd,Nat.reduceBEq,↓reduceIte,he,Yj,k2]|refine aB ?_|refine aF h1 ?_|refine aF h3 ?_|refine aF c2 ?_|refine aA (fun hw=>?_) (fun hw=>?_)<;>try omega|fail
    all_goals first|exact aZ|(refine aP ?_ rfl;rw[← hE]<;>rfl)
   ·rw[if_pos Yj]at hE
    repeat' first|simp (disch:=omega) only[go_sem,aC,aD,aE,aj,au,ak,Nat.reduceAdd,Nat.reduceBEq,↓reduceIte,he,k2]|refine aB ?_|refine aF h1 ?_|refine aF h3 ?_|refine aF c2 ?_|refine aA (fun hw=>?_) (fun hw=>?_)<;>try omega|fail
    all_goals first|exact aZ|(refine aP ?_ rfl;rw[← hE]<;>rfl)
  rw[if_neg k2]at hE
  repeat' first|simp (disch:=omega) only[go_sem,aC,aD,aE,aj,au,ak,Nat.reduceAdd,Nat.reduceBEq,↓reduceIte,he]|refine aB ?_|refine aF h1 ?_|refine aA (fun hw=>?_) (fun hw=>?_)<;>try omega|fail
  all_goals first|exact aZ|(refine aP ?_ rfl;rw[← hE]<;>rfl)
 ·rw[if_pos he]at hE
  repeat' first|refine aB ?_|refine aF h1 ?_|refine aA (fun hw=>?_) (fun hw=>?_)<;>try omega|fail
  all_goals first|exact aZ|(refine aP ?_ rfl;rw[← hE]<;>rfl)
theorem WN(s:aH)(hs:s.length≤2 ^ 61): aq Tryz.prog zG [.str s] (eVS (iN s)):=by
 obtain⟨E,hE⟩:∃ E,iN s=E:=⟨_,rfl⟩
 rw[hE]
 unfold iN at hE
 have h1:=oe s (by omega)
 have hr:=gC s
 have hg:=qi s
 generalize takeN s=t at *
 obtain⟨k,r,e⟩:=t
 dsimp only at hE hr hg
 simp only[eN]at h1
 have h2:=oe r (by omega)
 have h3:=Ds r 40 (by omega)
 have Pf:=qi r
 have O5:=(qj r 40).1
 generalize takeN r=t at *
 obtain⟨n,r2,e2⟩:=t
 generalize eF r 40=u at *
 obtain⟨x,r3,e3⟩:=u
 dsimp only at hE Pf O5
 simp only[eN,eS]at h2 h3
 have c1:=rR k n [] (by decide)
 have c2:=rR 2 0 x (by omega)
 have c0:=rR 0 0 [] (by decide)
 have q0:bS ⟨0,0,[]⟩=true:=rfl
 rw[q0]at c0
 unfold FN at hE
 refine aq.of_nil (P2 (by simp) ?_) rfl
 unfold GK aM
 intro Q aC aD aE
 by_cases he:e=0
 ·rw[if_neg (by omega)]at hE
  by_cases k0:k=0
  ·rw[if_pos k0]at hE
   repeat' first|simp (disch:=omega) only[go_sem,aC,aD,aE,aj,au,ak,Nat.reduceAdd,Nat.reduceBEq,↓reduceIte,he,k0]|refine aB ?_|refine aF h1 ?_|refine aF c0 ?_|refine aA (fun hw=>?_) (fun hw=>?_)<;>try omega|fail
   all_goals first|exact aZ|(refine aP ?_ rfl;rw[← hE]<;>rfl)
  rw[if_neg k0]at hE
  by_cases k1:k=1∨k=3
  ·rw[if_pos k1]at hE
   by_cases Ra:e2=0
   ·rw[if_neg (by omega)]at hE
    generalize bS ⟨k,n,[]⟩=b at *
    cases b
    all_goals
     simp only[if_true,Bool.false_eq_true,if_false]at hE
     repeat' first|simp (disch:=omega) only[go_sem,aC,aD,aE,aj,au,ak,Nat.reduceAdd,Nat.reduceBEq,↓reduceIte,he,Ra]|refine aB ?_|refine aF h1 ?_|refine aF h2 ?_|refine aF c1 ?_|refine aA (fun hw=>?_) (fun hw=>?_)<;>try omega|fail
    all_goals first|exact aZ|(refine aP ?_ rfl;rw[← hE]<;>rfl)
   ·rw[if_pos Ra]at hE
    repeat' first|simp (disch:=omega) only[go_sem,aC,aD,aE,aj,au,ak,Nat.reduceAdd,Nat.reduceBEq,↓reduceIte,he]|refine aB ?_|refine aF h1 ?_|refine aF h2 ?_|refine aF c1 ?_|refine aA (fun hw=>?_) (fun hw=>?_)<;>try omega|fail
    all_goals first|exact aZ|(refine aP ?_ rfl;rw[← hE]<;>rfl)
  rw[if_neg k1]at hE
  by_cases k2:k=2
  ·rw[if_pos k2]at hE
   by_cases Yj:e3=0
   ·rw[if_neg (by omega)]at hE
    generalize bS ⟨2,0,x⟩=b at *
    cases b
    all_goals
     simp only[if_true,Bool.false_eq_true,if_false]at hE
     repeat' first|simp (disch:=omega) only[go_sem,aC,aD,aE,aj,au,ak,Nat.reduceAdd,Nat.reduceBEq,↓reduceIte,he,Yj,k2]|refine aB ?_|refine aF h1 ?_|refine aF h3 ?_|refine aF c2 ?_|refine aA (fun hw=>?_) (fun hw=>?_)<;>try omega|fail
    all_goals first|exact aZ|(refine aP ?_ rfl;rw[← hE]<;>rfl)
   ·rw[if_pos Yj]at hE
    repeat' first|simp (disch:=omega) only[go_sem,aC,aD,aE,aj,au,ak,Nat.reduceAdd,Nat.reduceBEq,↓reduceIte,he,k2]|refine aB ?_|refine aF h1 ?_|refine aF h3 ?_|refine aF c2 ?_|refine aA (fun hw=>?_) (fun hw=>?_)<;>try omega|fail
    all_goals first|exact aZ|(refine aP ?_ rfl;rw[← hE]<;>rfl)
  rw[if_neg k2]at hE
  repeat' first|simp (disch:=omega) only[go_sem,aC,aD,aE,aj,au,ak,Nat.reduceAdd,Nat.reduceBEq,↓reduceIte,he]|refine aB ?_|refine aF h1 ?_|refine aA (fun hw=>?_) (fun hw=>?_)<;>try omega|fail
  all_goals first|exact aZ|(refine aP ?_ rfl;rw[← hE]<;>rfl)
 ·rw[if_pos he]at hE
  repeat' first|refine aB ?_|refine aF h1 ?_|refine aA (fun hw=>?_) (fun hw=>?_)<;>try omega|fail
  all_goals first|exact aZ|(refine aP ?_ rfl;rw[← hE]<;>rfl)
def AP(v:dy): aH × Int:=if bS v then(ff v,0)else ([],2)
theorem EM(v:dy): (ff v).length≤30+v.s.length:=by
 have h1:=d_ v.kind
 have h2:=d_ v.n
 have h3:=d_ v.s.length
 unfold ff bY
 rw[List.length_append]
 split
 ·rw[List.length_append];omega
 split
 ·omega
 ·simp;omega
theorem Ua(k n:Int)(s:aH)(hn:mC n)(hs:s.length≤2 ^ 60): aq Tryz.prog xG [.agg [I k,I n,.str s]] (.bJ [.str (AP ⟨k,n,s⟩).1,I (AP ⟨k,n,s⟩).2]):=by
 have c1:=mA k n s hn.1 hn.2
 obtain⟨E,hE⟩:∃ E,AP ⟨k,n,s⟩=E:=⟨_,rfl⟩
 rw[hE]
 unfold AP ff at hE
 dsimp only at hE
 have hk:=@rW ⟨k,n,s⟩
 dsimp only at hk
 generalize bS ⟨k,n,s⟩=b at *
 cases b
 ·simp only[kV,Bool.false_eq_true,if_false]at c1 hE
  refine aq.of_nil (CR (by simp) ?_) rfl
  unfold x6 aM
  intro Q aC aD aE
  repeat' first|refine aB ?_|refine aF c1 ?_|refine aA (fun hw=>?_) (fun hw=>?_)<;>try omega|fail
  exact aP (by rw[← hE]) rfl
 have hk:=hk rfl
 simp only[kV,if_true]at c1 hE
 have c2:=mh k ⟨by omega,by omega⟩
 have c3:=mh n hn
 have c4:=y2 s (by omega)
 have l1:=d_ k
 have l2:=d_ n
 have l3:(bY s).length≤10+s.length:=by unfold bY;have:=d_ s.length;rw[List.length_append];omega
 generalize dw k=x at *
 generalize dw n=y at *
 generalize bY s=z at *
 have a1:((x.length+y.length:Nat):Int)≤IntKind.i64.max:=by show _≤(9223372036854775807:Int);omega
 have a2:((x.length+z.length:Nat):Int)≤IntKind.i64.max:=by show _≤(9223372036854775807:Int);omega
 refine aq.of_nil (CR (by simp) ?_) rfl
 unfold x6 aM
 intro Q aC aD aE
 repeat' first|refine aB ?_|refine aF c1 ?_|refine aF c2 ?_|refine aF c3 ?_|refine aF c4 ?_|refine aA (fun hw=>?_) (fun hw=>?_)<;>try omega|fail
 all_goals first
  | exact aZ
  |(refine aP ?_ rfl;rw[← hE];simp_all;done)
  |(refine aP ?_ rfl;rw[← hE,if_neg (by omega),if_neg (by omega),List.append_nil];done)
theorem Ub(k n:Int)(s:aH)(hk:mC k)(hn:mC n)(hs:s.length≤2 ^ 60): aq Tryz.prog xJ [.agg [I k,I n,.str s]] (.str (ff ⟨k,n,s⟩)):=by
 obtain⟨E,hE⟩:∃ E,ff ⟨k,n,s⟩=E:=⟨_,rfl⟩
 rw[hE]
 unfold ff at hE
 dsimp only at hE
 have c2:=mj k hk
 have c3:=mj n hn
 have c4:=uQ s (by omega)
 have l1:=d_ k
 have l2:=d_ n
 have l3:(bY s).length≤10+s.length:=by unfold bY;have:=d_ s.length;rw[List.length_append];omega
 generalize dw k=x at *
 generalize dw n=y at *
 generalize bY s=z at *
 have a1:((x.length+y.length:Nat):Int)≤IntKind.i64.max:=by show _≤(9223372036854775807:Int);omega
 have a2:((x.length+z.length:Nat):Int)≤IntKind.i64.max:=by show _≤(9223372036854775807:Int);omega
 refine aq.of_nil (NJ (by simp) ?_) rfl
 unfold Fl aM
 intro Q aC aD aE
 repeat' first|refine aB ?_|refine aF c2 ?_|refine aF c3 ?_|refine aF c4 ?_|refine aA (fun hw=>?_) (fun hw=>?_)<;>try omega|fail
 all_goals first
  | exact aZ
  |(refine aL ?_ rfl;rw[← hE];simp_all;done)
  |(refine aL ?_ rfl;rw[← hE,if_neg (by omega),if_neg (by omega),List.append_nil];done)
end Go.Proofs.YtmbgnaoilncbnaaGreatDoor
