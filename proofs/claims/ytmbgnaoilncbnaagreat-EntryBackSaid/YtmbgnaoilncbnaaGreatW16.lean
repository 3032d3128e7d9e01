/- Part of a proof: see Root. -/
import Derived.Test.YtmbgnaoilncbnaaGreatW15
set_option linter.unnecessarySimpa false
set_option linter.unusedSimpArgs false
set_option linter.unusedVariables false
namespace Go.Proofs.YtmbgnaoilncbnaaGreat
open Go.AM
set_option maxRecDepth 4000
theorem wrap_u64 (x : Int) : wrapK .u64 x = x % 18446744073709551616 := rfl
theorem wrap_u8 (x : Int) : wrapK .u8 x = x % 256 := rfl
theorem wrap_i64 (x : Int) : wrapK .i64 x = if 9223372036854775808 ≤ x % 18446744073709551616 then x % 18446744073709551616 - 18446744073709551616 else x % 18446744073709551616 := by
  show IntKind.wrap .i64 x = _
  simp [IntKind.wrap, IntKind.bits, IntKind.signed]
theorem xor_zero (k : IntKind) (x : Nat) (h : x < 2 ^ k.bits) : ((BitVec.ofInt k.bits (x : Int)) ^^^ (BitVec.ofInt k.bits 0)).toNat = x := by
  have : BitVec.ofInt k.bits 0 = 0#k.bits := by simp
  rw [this, BitVec.xor_zero]
  simp [Nat.mod_eq_of_lt h]
theorem xor_ones64 (x : Nat) (h : x < 18446744073709551616) (y : Int) (hy : y % 18446744073709551616 = 18446744073709551615) : ((BitVec.ofInt 64 (x : Int)) ^^^ (BitVec.ofInt 64 y)).toNat = 18446744073709551615 - x := by
  have e : BitVec.ofInt 64 y = BitVec.allOnes 64 := by
    apply BitVec.eq_of_toNat_eq
    rw [BitVec.toNat_ofInt, BitVec.toNat_allOnes]; omega
  rw [e, BitVec.xor_allOnes, BitVec.toNat_not]
  have : (BitVec.ofInt 64 (x : Int)).toNat = x := by rw [BitVec.toNat_ofInt]; omega
  rw [this]
theorem code_bits {n : Int} (h : -9223372036854775808 ≤ n ∧ n ≤ 9223372036854775807) : bitsO .xor .u64 (wrapK .u64 (wrapK .u64 n * 2)) (wrapK .u64 (n.fdiv 9223372036854775808)) = codeN n := by
  rw [bitsO_eq]
  show wrapK .u64 (((BitVec.ofInt 64 (wrapK .u64 (wrapK .u64 n * 2))) ^^^ (BitVec.ofInt 64 (wrapK .u64 (n.fdiv 9223372036854775808)))).toNat : Int) = codeN n
  rw [Int.fdiv_eq_ediv_of_nonneg _ (by decide)]
  simp only [wrap_u64]
  unfold codeN
  by_cases hn : n < 0
  · rw [if_pos hn]
    have e1 : (n % 18446744073709551616 * 2 % 18446744073709551616 : Int) = ((2 * n + 18446744073709551616).toNat : Int) := by omega
    rw [e1, xor_ones64 _ (by omega) _ (by omega)]
    omega
  · rw [if_neg hn]
    have e1 : (n % 18446744073709551616 * 2 % 18446744073709551616 : Int) = ((2 * n).toNat : Int) := by omega
    have e2 : (n / 9223372036854775808 % 18446744073709551616 : Int) = 0 := by omega
    rw [e1, e2]
    have := xor_zero .u64 (2 * n).toNat (by show _ < 18446744073709551616; omega)
    have e3 : IntKind.u64.bits = 64 := rfl
    rw [e3] at this
    rw [this]; omega
theorem and_mask (w k x : Nat) (hx : x < 2 ^ w) (hk : k ≤ w) : ((BitVec.ofInt w (x : Int)) &&& (BitVec.ofInt w ((2 ^ k - 1 : Nat) : Int))).toNat = x % 2 ^ k := by
  have h2 : 2 ^ k - 1 < 2 ^ w := Nat.lt_of_lt_of_le (Nat.sub_lt (Nat.pow_pos (by decide)) (by decide)) (Nat.pow_le_pow_right (by decide) hk)
  rw [BitVec.toNat_and]
  have e1 : (BitVec.ofInt w (x : Int)).toNat = x := by rw [BitVec.ofInt_natCast, BitVec.toNat_ofNat, Nat.mod_eq_of_lt hx]
  have e2 : (BitVec.ofInt w ((2 ^ k - 1 : Nat) : Int)).toNat = 2 ^ k - 1 := by rw [BitVec.ofInt_natCast, BitVec.toNat_ofNat, Nat.mod_eq_of_lt h2]
  rw [e1, e2, Nat.and_two_pow_sub_one_eq_mod]
theorem num_bits {c : Nat} (h : c < 18446744073709551616) : bitsO .xor .i64 (wrapK .i64 ((c : Int).fdiv 2)) (wrapK .i64 (0 - wrapK .i64 (bitsO .and .u64 (c : Int) 1))) = numC c := by
  rw [bitsO_eq]
  have ha : bitsK .and .u64 (c : Int) 1 = ((c % 2 : Nat) : Int) := by
    show wrapK .u64 (((BitVec.ofInt 64 (c : Int)) &&& (BitVec.ofInt 64 1)).toNat : Int) = _
    have := and_mask 64 1 c h (by decide)
    have e : ((2 ^ 1 - 1 : Nat) : Int) = 1 := by decide
    rw [e] at this
    rw [this, wrap_u64]; omega
  rw [ha, Int.fdiv_eq_ediv_of_nonneg _ (by decide)]
  show wrapK .i64 (((BitVec.ofInt 64 (wrapK .i64 ((c : Int) / 2))) ^^^ (BitVec.ofInt 64 (wrapK .i64 (0 - wrapK .i64 ((c % 2 : Nat) : Int))))).toNat : Int) = numC c
  have e1 : wrapK .i64 ((c : Int) / 2) = ((c / 2 : Nat) : Int) := by rw [wrap_i64]; split <;> omega
  have e2 : wrapK .i64 ((c % 2 : Nat) : Int) = ((c % 2 : Nat) : Int) := by rw [wrap_i64]; split <;> omega
  rw [e1, e2]
  unfold numC
  by_cases hn : c % 2 = 1
  · rw [if_pos hn, xor_ones64 _ (by omega) _ (by rw [wrap_i64]; split <;> omega), wrap_i64]; split <;> omega
  · rw [if_neg hn]
    have e3 : wrapK .i64 (0 - ((c % 2 : Nat) : Int)) = 0 := by rw [wrap_i64]; split <;> omega
    rw [e3]
    have := xor_zero .i64 (c / 2) (by show _ < 18446744073709551616; omega)
    have e3 : IntKind.i64.bits = 64 := rfl
    rw [e3] at this
    rw [this, wrap_i64]; split <;> omega
theorem low_bits {x : Int} {c : Nat} (h : x % 256 = ((c % 256 : Nat) : Int)) : bitsO .and .u8 (wrapK .u8 x) 127 = ((c % 128 : Nat) : Int) := by
  rw [bitsO_eq]
  show wrapK .u8 (((BitVec.ofInt 8 (wrapK .u8 x)) &&& (BitVec.ofInt 8 127)).toNat : Int) = _
  have := and_mask 8 7 (c % 256) (by omega) (by decide)
  have e : ((2 ^ 7 - 1 : Nat) : Int) = 127 := by decide
  rw [e] at this
  rw [wrap_u8 x, h, this, wrap_u8]; omega
theorem or_low {w k x : Nat} {y : Nat} (hx : x < 2 ^ k) (hw : 2 ^ k * y + x < 2 ^ w) : ((BitVec.ofInt w (x : Int)) ||| (BitVec.ofInt w ((2 ^ k * y : Nat) : Int))).toNat = 2 ^ k * y + x := by
  rw [BitVec.toNat_or]
  have e1 : (BitVec.ofInt w (x : Int)).toNat = x := by rw [BitVec.ofInt_natCast, BitVec.toNat_ofNat, Nat.mod_eq_of_lt (by omega)]
  have e2 : (BitVec.ofInt w ((2 ^ k * y : Nat) : Int)).toNat = 2 ^ k * y := by rw [BitVec.ofInt_natCast, BitVec.toNat_ofNat, Nat.mod_eq_of_lt (by omega)]
  rw [e1, e2, Nat.or_comm, Nat.two_pow_add_eq_or_of_lt hx]
theorem more_bits {d : Nat} (h : d < 128) : bitsO .or .u8 (d : Int) 128 = ((128 + d : Nat) : Int) := by
  rw [bitsO_eq]
  show wrapK .u8 (((BitVec.ofInt 8 (d : Int)) ||| (BitVec.ofInt 8 128)).toNat : Int) = _
  have := or_low (w := 8) (k := 7) (x := d) (y := 1) (by omega) (by omega)
  have e : ((2 ^ 7 * 1 : Nat) : Int) = 128 := by decide
  rw [e] at this
  rw [this, wrap_u8]; omega
theorem acc_bits {c d i : Nat} (hc : c < 128 ^ i) (h : c + d * 128 ^ i < 18446744073709551616) : bitsO .or .u64 (c : Int) (wrapK .u64 ((d : Int) * 2 ^ (7 * i))) = ((c + d * 128 ^ i : Nat) : Int) := by
  have e0 : (2 : Nat) ^ (7 * i) = 128 ^ i := by rw [Nat.pow_mul]
  have e1 : ((d : Int) * 2 ^ (7 * i)) = ((2 ^ (7 * i) * d : Nat) : Int) := by push_cast; rw [Int.mul_comm]
  rw [bitsO_eq, e1]
  have h2 : 2 ^ (7 * i) * d < 18446744073709551616 := by rw [e0, Nat.mul_comm]; omega
  have e2 : wrapK .u64 ((2 ^ (7 * i) * d : Nat) : Int) = ((2 ^ (7 * i) * d : Nat) : Int) := by rw [wrap_u64]; omega
  rw [e2]
  show wrapK .u64 (((BitVec.ofInt 64 (c : Int)) ||| (BitVec.ofInt 64 ((2 ^ (7 * i) * d : Nat) : Int))).toNat : Int) = _
  rw [or_low (by rw [e0]; exact hc) (by rw [e0, Nat.mul_comm]; omega), wrap_u64, e0, Nat.mul_comm]; omega
def lowB (c : Nat) : UInt8 := UInt8.ofNat (c % 128)
def moreB (c : Nat) : UInt8 := UInt8.ofNat (128 + c % 128)
theorem lowB_nat (c : Nat) : ((c % 128 : Nat) : Int) = ((lowB c).toNat : Int) := by rw [lowB, u8 _ (by omega)]
theorem moreB_nat (c : Nat) : bitsO .or .u8 ((lowB c).toNat : Int) 128 = ((moreB c).toNat : Int) := by
  rw [← lowB_nat, more_bits (by omega), moreB, u8 _ (by omega)]
theorem eB_snoc (s : Str) (b : UInt8) : eBytes s ++ [AV.int .u8 b.toNat] = eBytes (s ++ [b]) := by simp
theorem varF_low {k c : Nat} (h : c < 128) : varF k c = [lowB c] := by
  rw [lowB, Nat.mod_eq_of_lt h]; cases k with
  | zero => rfl
  | succ k => rw [varF, if_pos h]
theorem varF_more {k c : Nat} (h : 128 ≤ c) : varF (k + 1) c = moreB c :: varF k (c / 128) := by rw [varF, if_neg (by omega)]; rfl
theorem octet_code (n : Int) (h : rng n) : CallF Tryz.prog n_octet_code [I n] (.int .u64 (codeN n)) := by
  refine CallF.of_nil (of_octet_code (by simp) ?_) rfl
  unfold b_octet_code WpR
  intro Q hQr hQn hQp
  repeat' first | refine go_ ?_ | refine br_ (fun hw => ?_) (fun hw => ?_) <;> try omega | fail
  refine leafE ?_ rfl
  exact congrArg (AV.int .u64) (code_bits h)
theorem octet_low64 (c : Nat) : CallF Tryz.prog n_octet_low_uint64 [.int .u64 c] (.int .u8 ((lowB c).toNat)) := by
  refine CallF.of_nil (of_octet_low_uint64 (by simp) ?_) rfl
  unfold b_octet_low_uint64 WpR
  intro Q hQr hQn hQp
  repeat' first | refine go_ ?_ | refine br_ (fun hw => ?_) (fun hw => ?_) <;> try omega | fail
  refine leafE ?_ rfl
  refine congrArg (AV.int .u8) ?_
  rw [← lowB_nat]
  exact low_bits (by omega)
theorem octet_lowI (c : Nat) : CallF Tryz.prog n_octet_low_int [I c] (.int .u8 ((lowB c).toNat)) := by
  refine CallF.of_nil (of_octet_low_int (by simp) ?_) rfl
  unfold b_octet_low_int WpR
  intro Q hQr hQn hQp
  repeat' first | refine go_ ?_ | refine br_ (fun hw => ?_) (fun hw => ?_) <;> try omega | fail
  refine leafE ?_ rfl
  refine congrArg (AV.int .u8) ?_
  rw [← lowB_nat]
  exact low_bits (by omega)
theorem octet_number (c : Nat) (h : c < 18446744073709551616) : CallF Tryz.prog n_octet_number [.int .u64 c] (I (numC c)) := by
  refine CallF.of_nil (of_octet_number (by simp) ?_) rfl
  unfold b_octet_number WpR
  intro Q hQr hQn hQp
  repeat' first | refine go_ ?_ | refine br_ (fun hw => ?_) (fun hw => ?_) <;> try omega | fail
  refine leafE ?_ rfl
  exact congrArg I (num_bits h)
theorem octet_Num (n : Int) (h : rng n) : CallF Tryz.prog n_octet_Num [I n] (.str (numB n)) := by
  have hc := codeN_lt h.1 h.2
  obtain ⟨E, hE⟩ : ∃ E, numB n = E := ⟨_, rfl⟩
  rw [hE]
  unfold numB at hE
  have h1 := octet_code n h
  generalize codeN n = c0 at *
  refine CallF.of_nil (of_octet_Num (by simp) ?_) rfl
  unfold b_octet_Num WpR
  intro Q hQr hQn hQp
  repeat' first | refine go_ ?_ | refine cf_ h1 ?_ | refine br_ (fun hw => ?_) (fun hw => ?_) <;> try omega | fail
  with_reducible refine loop_i [3, 4, 8, 9, 10, 11, 12, 13, 14, 15, 16, 17] (fun q : Nat × Str × Nat => [(3, .int .u64 q.2.2), (4, .own E1 0 q.2.1.length 0 q.2.1.length)]) (fun q => [.vec E1 (eBytes q.2.1)]) (fun q => q.1 ≤ 9 ∧ q.2.1.length = q.1 ∧ q.2.2 * 128 ^ q.1 < 18446744073709551616 ∧ E = q.2.1 ++ varF (9 - q.1) q.2.2) (fun q => 10 - q.1) ((0, [], c0)) ?_ ?_ ?_ ?_
  · exact ⟨by omega, rfl, by show c0 * 1 < _; omega, by simp [hE]⟩
  · rfl
  · exact at_
  rintro ⟨i, s, c⟩ r ⟨g1, g2, g3, g4⟩
  dsimp only at g1 g2 g3 g4
  have hl := octet_low64 c
  have hm := moreB_nat c
  have hq : (c : Int).fdiv (2 ^ (Int.toNat 7).min 64) = ((c / 128 : Nat) : Int) := by
    show (c : Int).fdiv 128 = _
    rw [Int.fdiv_eq_ediv_of_nonneg _ (by decide)]; omega
  by_cases hb : 128 ≤ c
  · have hi : i < 9 := by
      rcases Nat.lt_or_ge i 9 with h | h
      · exact h
      · obtain rfl : i = 9 := by omega
        have e : (128 : Nat) ^ 9 = 9223372036854775808 := by decide
        rw [e] at g3; omega
    obtain ⟨k, hk⟩ : ∃ k, 9 - i = k + 1 := ⟨8 - i, by omega⟩
    rw [hk, varF_more hb] at g4
    repeat' first | simp (disch := omega) only [go_sem, hQr, hQn, hQp, wrapK_i64, wrapK_u8, wrapK_u64, Nat.reduceAdd, Nat.reduceBEq, ↓reduceIte, hm, hq, eB_snoc] | refine go_ ?_ | refine cf_ hl ?_ | refine br_ (fun hw => ?_) (fun hw => ?_) <;> try omega | fail
    refine ⟨(i + 1, s ++ [moreB c], c / 128), ?_, ?_, ?_, ou_, at_⟩ <;> (try dsimp only)
    · refine ⟨by omega, by simp [g2], ?_, ?_⟩
      · have e2 : c / 128 * 128 ^ (i + 1) = 128 * (c / 128) * 128 ^ i := by
          rw [Nat.pow_succ, Nat.mul_comm (128 ^ i) 128, ← Nat.mul_assoc, Nat.mul_comm (c / 128) 128]
        exact Nat.lt_of_le_of_lt (by rw [e2]; exact Nat.mul_le_mul_right _ (by omega)) g3
      · have : 9 - (i + 1) = k := by omega
        rw [this]; simp [g4]
    · omega
    all_goals (simp [g2]; done)
  · rw [varF_low (by omega)] at g4
    repeat' first | simp (disch := omega) only [go_sem, hQr, hQn, hQp, wrapK_i64, wrapK_u8, wrapK_u64, Nat.reduceAdd, Nat.reduceBEq, ↓reduceIte, eB_snoc] | refine go_ ?_ | refine cf_ hl ?_ | refine br_ (fun hw => ?_) (fun hw => ?_) <;> try omega | fail
    exact leafE (by rw [g4]) rfl
def eN (t : Int × Str × Int) : AV := .tup [I t.1, .str t.2.1, I t.2.2]
def eS (t : Str × Str × Int) : AV := .tup [.str t.1, .str t.2.1, I t.2.2]
theorem octet_TakeNum (s : Str) (hs : s.length ≤ 2 ^ 62) : CallF Tryz.prog n_octet_TakeNum [.str s] (eN (takeN s)) := by
  obtain ⟨E, hE⟩ : ∃ E, takeN s = E := ⟨_, rfl⟩
  rw [hE]
  unfold takeN at hE
  obtain ⟨m, hm1, hm2⟩ : ∃ m : Nat, m = min s.length 10 ∧ (if (10 : Int) < (s.length : Int) then (10 : Int) else (s.length : Int)) = (m : Int) := ⟨min s.length 10, rfl, by split <;> omega⟩
  refine CallF.of_nil (of_octet_TakeNum (by simp) ?_) rfl
  unfold b_octet_TakeNum WpR
  intro Q hQr hQn hQp
  repeat' first | simp (disch := omega) only [go_sem, hQr, hQn, hQp, wrapK_i64, wrapK_u8, wrapK_u64, Nat.reduceAdd, Nat.reduceBEq, ↓reduceIte, hm2] | refine go_ ?_ | refine br_ (fun hw => ?_) (fun hw => ?_) <;> try omega | fail
  with_reducible refine loop_i [2, 3, 4, 5, 6, 7, 11, 12, 13, 14, 15, 16, 17, 18, 19, 20, 21, 22, 23, 24, 25, 26, 27, 28, 29, 30, 31, 32, 33, 34, 35, 36, 37, 38, 39, 40, 41, 42, 43, 44, 45, 46, 47, 48] (fun q : Nat × Nat => [(11, I q.1), (5, .int .u64 q.2)]) (fun _ => []) (fun q => q.1 ≤ m ∧ q.2 < 128 ^ q.1 ∧ q.1 ≤ 9 ∧ E = goV q.1 q.2 (s.drop q.1)) (fun q => m - q.1) ((0, 0)) ?_ ?_ ?_ ?_
  · exact ⟨by omega, by decide, by decide, by rw [← hE]; rfl⟩
  · rfl
  · exact at_
  rintro ⟨i, c⟩ r ⟨g1, g2, g4, g3⟩
  dsimp only at g1 g2 g3 g4
  by_cases hi : i < m
  · have hil : i < s.length := by omega
    rw [drop_at0 hil, goV] at g3
    obtain ⟨b, hb⟩ : ∃ b, s.getD i 0 = b := ⟨_, rfl⟩
    rw [hb] at g3
    have hb8 : b.toNat < 256 := b.toNat_lt
    by_cases he : (0 < i ∧ b.toNat = 0) ∨ (i = 9 ∧ 1 < b.toNat)
    · rw [if_pos he] at g3
      repeat' first | simp (disch := omega) only [go_sem, hQr, hQn, hQp, wrapK_i64, wrapK_u8, wrapK_u64, Nat.reduceAdd, Nat.reduceBEq, ↓reduceIte, hb] | refine go_ ?_ | refine br_ (fun hw => ?_) (fun hw => ?_) <;> try omega | fail
      all_goals first
        | exact ab_
        | (refine leafNE ?_ rfl; rw [g3])
    · rw [if_neg he] at g3
      have hl := octet_lowI b.toNat
      have hmin : Nat.min ((7 * (i : Int)).toNat) 64 = 7 * i := by show min _ 64 = _; omega
      have hsum : c + b.toNat % 128 * 128 ^ i < 18446744073709551616 := by
        by_cases h9 : i = 9
        · subst h9
          have e : (128 : Nat) ^ 9 = 9223372036854775808 := by decide
          rw [e] at g2 ⊢; omega
        · have e : (128 : Nat) ^ (i + 1) ≤ 128 ^ 9 := Nat.pow_le_pow_right (by decide) (by omega)
          rw [Nat.pow_succ] at e
          have e2 : (128 : Nat) ^ 9 = 9223372036854775808 := by decide
          have : b.toNat % 128 * 128 ^ i ≤ 127 * 128 ^ i := Nat.mul_le_mul_right _ (by omega)
          omega
      have hacc := acc_bits g2 hsum
      rw [lowB_nat] at hacc
      have hlow : ((lowB b.toNat).toNat : Int) < 128 := by rw [← lowB_nat]; omega
      have hn := octet_number _ hsum
      obtain ⟨c', hc'⟩ : ∃ c', c + b.toNat % 128 * 128 ^ i = c' := ⟨_, rfl⟩
      rw [hc'] at hacc hn g3 hsum
      repeat' first | simp (disch := omega) only [go_sem, hQr, hQn, hQp, wrapK_i64, wrapK_u8, wrapK_u64, Nat.reduceAdd, Nat.reduceBEq, ↓reduceIte, hb, hmin, hacc] | refine go_ ?_ | refine cf_ hl ?_ | refine cf_ hn ?_ | refine br_ (fun hw => ?_) (fun hw => ?_) <;> try omega | fail
      all_goals first
        | exact ab_
        | (rw [if_pos (by omega)] at g3; refine leafNE ?_ rfl; rw [g3]; done)
        | (rw [if_neg (by omega)] at g3
           refine ⟨(i + 1, c'), ?_, ?_, by first | rfl | (simp [go_sem]; done), ou_, at_⟩ <;> (try dsimp only)
           · refine ⟨by omega, ?_, by omega, g3⟩
             rw [Nat.pow_succ, ← hc']
             have : b.toNat % 128 * 128 ^ i ≤ 127 * 128 ^ i := Nat.mul_le_mul_right _ (by omega)
             omega
           · omega)
  · rw [List.drop_of_length_le (by omega), goV] at g3
    repeat' first | refine go_ ?_ | refine br_ (fun hw => ?_) (fun hw => ?_) <;> try omega | fail
    refine leafNE ?_ rfl
    rw [g3]
theorem octet_size (s : Str) (most : Int) (hs : s.length ≤ 2 ^ 62) : CallF Tryz.prog n_octet_size [.str s, I most] (eN (if (takeN s).2.2 ≠ 0 then (0, [], (takeN s).2.2) else if (takeN s).1 < 0 then (0, [], 4) else if (takeN s).1 > most then (0, [], 5) else ((takeN s).1, (takeN s).2.1, 0))) := by
  have h1 := octet_TakeNum s hs
  generalize takeN s = t at *
  obtain ⟨n, r, e⟩ := t
  simp only [eN] at h1
  refine CallF.of_nil (of_octet_size (by simp) ?_) rfl
  unfold b_octet_size WpR
  intro Q hQr hQn hQp
  repeat' first | refine go_ ?_ | refine cf_ h1 ?_ | refine br_ (fun hw => ?_) (fun hw => ?_) <;> try omega | fail
  all_goals (refine leafNE ?_ rfl)
  · rw [if_pos hw]
  · rw [if_neg (by omega), if_pos (by omega)]
  · rw [if_neg (by omega), if_neg (by omega), if_pos (by omega)]
  · rw [if_neg (by omega), if_neg (by omega), if_neg (by omega)]
theorem octet_TakeText (s : Str) (most : Int) (hs : s.length ≤ 2 ^ 62) : CallF Tryz.prog n_octet_TakeText [.str s, I most] (eS (takeT s most)) := by
  have h1 := octet_size s most hs
  have hl := (takeN_len s).1
  unfold takeT
  generalize takeN s = t at *
  obtain ⟨n, r, e⟩ := t
  dsimp only at h1 hl ⊢
  by_cases c1 : e ≠ 0
  · rw [if_pos c1] at h1 ⊢
    simp only [eN] at h1
    refine CallF.of_nil (of_octet_TakeText (by simp) ?_) rfl
    unfold b_octet_TakeText WpR
    intro Q hQr hQn hQp
    repeat' first | refine go_ ?_ | refine cf_ h1 ?_ | refine br_ (fun hw => ?_) (fun hw => ?_) <;> try omega | fail
    exact leafNE rfl rfl
  by_cases c2 : n < 0
  · rw [if_neg c1, if_pos c2] at h1 ⊢
    simp only [eN] at h1
    refine CallF.of_nil (of_octet_TakeText (by simp) ?_) rfl
    unfold b_octet_TakeText WpR
    intro Q hQr hQn hQp
    repeat' first | refine go_ ?_ | refine cf_ h1 ?_ | refine br_ (fun hw => ?_) (fun hw => ?_) <;> try omega | fail
    exact leafNE rfl rfl
  by_cases c3 : n > most
  · rw [if_neg c1, if_neg c2, if_pos c3] at h1 ⊢
    simp only [eN] at h1
    refine CallF.of_nil (of_octet_TakeText (by simp) ?_) rfl
    unfold b_octet_TakeText WpR
    intro Q hQr hQn hQp
    repeat' first | refine go_ ?_ | refine cf_ h1 ?_ | refine br_ (fun hw => ?_) (fun hw => ?_) <;> try omega | fail
    exact leafNE rfl rfl
  rw [if_neg c1, if_neg c2, if_neg c3] at h1 ⊢
  simp only [eN] at h1
  by_cases c4 : n > r.length
  · rw [if_pos c4]
    refine CallF.of_nil (of_octet_TakeText (by simp) ?_) rfl
    unfold b_octet_TakeText WpR
    intro Q hQr hQn hQp
    repeat' first | refine go_ ?_ | refine cf_ h1 ?_ | refine br_ (fun hw => ?_) (fun hw => ?_) <;> try omega | fail
    exact leafNE rfl rfl
  rw [if_neg c4]
  obtain ⟨k, rfl⟩ : ∃ k : Nat, n = (k : Int) := ⟨n.toNat, by omega⟩
  refine CallF.of_nil (of_octet_TakeText (by simp) ?_) rfl
  unfold b_octet_TakeText WpR
  intro Q hQr hQn hQp
  repeat' first | refine go_ ?_ | refine cf_ h1 ?_ | refine br_ (fun hw => ?_) (fun hw => ?_) <;> try omega | fail
  refine leafNE ?_ rfl
  simp
theorem octet_Text (s : Str) (hs : s.length ≤ 2 ^ 61) : CallF Tryz.prog n_octet_Text [.str s] (.str (textB s)) := by
  have h1 := octet_Num s.length ⟨by omega, by omega⟩
  have h2 := numB_len s.length
  unfold textB
  generalize numB s.length = x at *
  refine CallF.of_nil (of_octet_Text (by simp) ?_) rfl
  unfold b_octet_Text WpR
  intro Q hQr hQn hQp
  have hadd : ((x.length + s.length : Nat) : Int) ≤ IntKind.i64.max := by show _ ≤ (9223372036854775807 : Int); omega
  repeat' first | refine go_ ?_ | refine cf_ h1 ?_ | refine br_ (fun hw => ?_) (fun hw => ?_) <;> try omega | fail
  exact leafE rfl rfl
theorem ref01_code (n : Int) (h : rng n) : CallF Tryz.prog n_ref01_code [I n] (.int .u64 (codeN n)) := by
  obtain ⟨h1, h2⟩ := h
  refine CallF.of_nil (of_ref01_code (by simp) ?_) rfl
  unfold b_ref01_code WpR
  intro Q hQr hQn hQp
  repeat' first | refine go_ ?_ | refine br_ (fun hw => ?_) (fun hw => ?_) <;> try omega | fail
  all_goals (refine leafE ?_ rfl; refine congrArg (AV.int .u64) ?_; unfold codeN)
  · rw [if_pos (by omega)]; omega
  · rw [if_neg (by omega)]; omega
theorem ref01_number (c : Nat) (h : c < 18446744073709551616) : CallF Tryz.prog n_ref01_number [.int .u64 c] (I (numC c)) := by
  refine CallF.of_nil (of_ref01_number (by simp) ?_) rfl
  unfold b_ref01_number WpR
  intro Q hQr hQn hQp
  have e1 : Int.tmod (c : Int) 2 = ((c % 2 : Nat) : Int) := by rw [Int.tmod_eq_emod_of_nonneg (by omega)]; omega
  have e2 : Int.tdiv (c : Int) 2 = ((c / 2 : Nat) : Int) := by rw [Int.tdiv_eq_ediv_of_nonneg (by omega)]; omega
  repeat' first | simp (disch := omega) only [go_sem, hQr, hQn, hQp, wrapK_i64, wrapK_u8, wrapK_u64, Nat.reduceAdd, Nat.reduceBEq, ↓reduceIte, e1, e2] | refine go_ ?_ | refine br_ (fun hw => ?_) (fun hw => ?_) <;> try omega | fail
  all_goals (refine leafE ?_ rfl; refine congrArg I ?_; unfold numC)
  · rw [if_pos (by omega)]
  · rw [if_neg (by omega)]
theorem ref01_Num (n : Int) (h : rng n) : CallF Tryz.prog n_ref01_Num [I n] (.str (numB n)) := by
  have hc := codeN_lt h.1 h.2
  obtain ⟨E, hE⟩ : ∃ E, numB n = E := ⟨_, rfl⟩
  rw [hE]
  unfold numB at hE
  have h1 := ref01_code n h
  generalize codeN n = c0 at *
  refine CallF.of_nil (of_ref01_Num (by simp) ?_) rfl
  unfold b_ref01_Num WpR
  intro Q hQr hQn hQp
  repeat' first | refine go_ ?_ | refine cf_ h1 ?_ | refine br_ (fun hw => ?_) (fun hw => ?_) <;> try omega | fail
  with_reducible refine loop_i [3, 4, 7, 8, 9, 10, 11, 12, 13, 14, 15, 16, 17] (fun q : Nat × Str × Nat => [(3, .int .u64 q.2.2), (4, .own E1 0 q.2.1.length 0 q.2.1.length)]) (fun q => [.vec E1 (eBytes q.2.1)]) (fun q => q.1 ≤ 9 ∧ q.2.1.length = q.1 ∧ q.2.2 * 128 ^ q.1 < 18446744073709551616 ∧ E = q.2.1 ++ varF (9 - q.1) q.2.2) (fun q => 10 - q.1) ((0, [], c0)) ?_ ?_ ?_ ?_
  · exact ⟨by omega, rfl, by show c0 * 1 < _; omega, by simp [hE]⟩
  · rfl
  · exact at_
  rintro ⟨i, s, c⟩ r ⟨g1, g2, g3, g4⟩
  dsimp only at g1 g2 g3 g4
  have hc64 : c < 18446744073709551616 := Nat.lt_of_le_of_lt (Nat.le_mul_of_pos_right c (Nat.pow_pos (by decide))) g3
  have hm : 128 + (c : Int) % 128 = ((moreB c).toNat : Int) := by rw [moreB, u8 _ (by omega)]; omega
  have hb8 : (moreB c).toNat < 256 := (moreB c).toNat_lt
  by_cases hb : 128 ≤ c
  · have hi : i < 9 := by
      rcases Nat.lt_or_ge i 9 with h | h
      · exact h
      · obtain rfl : i = 9 := by omega
        have e : (128 : Nat) ^ 9 = 9223372036854775808 := by decide
        rw [e] at g3; omega
    obtain ⟨k, hk⟩ : ∃ k, 9 - i = k + 1 := ⟨8 - i, by omega⟩
    rw [hk, varF_more hb] at g4
    repeat' first | simp (disch := omega) only [go_sem, hQr, hQn, hQp, wrapK_i64, wrapK_u8, wrapK_u64, Nat.reduceAdd, Nat.reduceBEq, ↓reduceIte, hm, eB_snoc] | refine go_ ?_ | refine br_ (fun hw => ?_) (fun hw => ?_) <;> try omega | fail
    refine ⟨(i + 1, s ++ [moreB c], c / 128), ?_, ?_, ?_, ou_, at_⟩ <;> (try dsimp only)
    · refine ⟨by omega, by simp [g2], ?_, ?_⟩
      · have e2 : c / 128 * 128 ^ (i + 1) = 128 * (c / 128) * 128 ^ i := by
          rw [Nat.pow_succ, Nat.mul_comm (128 ^ i) 128, ← Nat.mul_assoc, Nat.mul_comm (c / 128) 128]
        exact Nat.lt_of_le_of_lt (by rw [e2]; exact Nat.mul_le_mul_right _ (by omega)) g3
      · have : 9 - (i + 1) = k := by omega
        rw [this]; simp [g4]
    · omega
    all_goals (first | (simp [g2]; done) | skip)
  · rw [varF_low (by omega)] at g4
    have hlo : (c : Int) = ((lowB c).toNat : Int) := by rw [← lowB_nat]; omega
    have hw8 : wrapK .u8 (c : Int) = ((lowB c).toNat : Int) := by rw [wrap_u8, ← lowB_nat]; omega
    repeat' first | simp (disch := omega) only [go_sem, hQr, hQn, hQp, wrapK_i64, wrapK_u8, wrapK_u64, Nat.reduceAdd, Nat.reduceBEq, ↓reduceIte, hw8, eB_snoc] | refine go_ ?_ | refine br_ (fun hw => ?_) (fun hw => ?_) <;> try omega | fail
    exact leafE (by rw [g4]) rfl
theorem ref01_TakeNum (s : Str) (hs : s.length ≤ 2 ^ 62) : CallF Tryz.prog n_ref01_TakeNum [.str s] (eN (takeN s)) := by
  obtain ⟨E, hE⟩ : ∃ E, takeN s = E := ⟨_, rfl⟩
  rw [hE]
  unfold takeN at hE
  refine CallF.of_nil (of_ref01_TakeNum (by simp) ?_) rfl
  unfold b_ref01_TakeNum WpR
  intro Q hQr hQn hQp
  repeat' first | refine go_ ?_ | refine br_ (fun hw => ?_) (fun hw => ?_) <;> try omega | fail
  with_reducible refine loop_i [2, 3, 4, 5, 6, 7, 8, 9, 10, 11, 12, 13, 14, 15, 16, 17, 18, 19, 20, 21, 22, 23, 24, 25, 26, 27, 28, 29, 30, 31, 32, 33, 34, 35, 36, 37, 38, 39, 40, 41, 42, 43, 44, 45, 46, 47, 48, 49, 50, 51, 52, 53, 54] (fun q : Nat × Nat => [(7, I q.1), (5, .int .u64 q.2), (6, .int .u64 ((128 ^ q.1 : Nat) : Int))]) (fun _ => []) (fun q => q.1 ≤ s.length ∧ q.2 < 128 ^ q.1 ∧ q.1 ≤ 9 ∧ E = goV q.1 q.2 (s.drop q.1)) (fun q => s.length - q.1) ((0, 0)) ?_ ?_ ?_ ?_
  · exact ⟨by omega, by decide, by decide, by rw [← hE]; rfl⟩
  · rfl
  · exact at_
  rintro ⟨i, c⟩ r ⟨g1, g2, g4, g3⟩
  dsimp only at g1 g2 g3 g4
  by_cases hi : i < s.length
  · rw [drop_at0 hi, goV] at g3
    obtain ⟨b, hb⟩ : ∃ b, s.getD i 0 = b := ⟨_, rfl⟩
    rw [hb] at g3
    have hb8 : b.toNat < 256 := b.toNat_lt
    by_cases he : (0 < i ∧ b.toNat = 0) ∨ (i = 9 ∧ 1 < b.toNat)
    · rw [if_pos he] at g3
      repeat' first | simp (disch := omega) only [go_sem, hQr, hQn, hQp, wrapK_i64, wrapK_u8, wrapK_u64, Nat.reduceAdd, Nat.reduceBEq, ↓reduceIte, hb] | refine go_ ?_ | refine br_ (fun hw => ?_) (fun hw => ?_) <;> try omega | fail
      all_goals first
        | exact ab_
        | (refine leafNE ?_ rfl; rw [g3])
    · rw [if_neg he] at g3
      have p9 : (128 : Nat) ^ i ≤ 9223372036854775808 := Nat.pow_le_pow_right (n := 128) (by decide) g4
      have hd : Int.tmod (b.toNat : Int) 128 = ((b.toNat % 128 : Nat) : Int) := by rw [Int.tmod_eq_emod_of_nonneg (by omega)]; omega
      have hsum : c + b.toNat % 128 * 128 ^ i < 18446744073709551616 := by
        by_cases h9 : i = 9
        · subst h9
          have e : (128 : Nat) ^ 9 = 9223372036854775808 := by decide
          rw [e] at g2 ⊢; omega
        · have e : (128 : Nat) ^ (i + 1) ≤ 128 ^ 9 := Nat.pow_le_pow_right (by decide) (by omega)
          rw [Nat.pow_succ] at e
          have e2 : (128 : Nat) ^ 9 = 9223372036854775808 := by decide
          have : b.toNat % 128 * 128 ^ i ≤ 127 * 128 ^ i := Nat.mul_le_mul_right _ (by omega)
          omega
      have hmul : wrapK .u64 (((b.toNat % 128 : Nat) : Int) * ((128 ^ i : Nat) : Int)) = ((b.toNat % 128 * 128 ^ i : Nat) : Int) := by
        rw [← Int.natCast_mul, wrap_u64]; omega
      have hadd : wrapK .u64 ((c : Int) + ((b.toNat % 128 * 128 ^ i : Nat) : Int)) = ((c + b.toNat % 128 * 128 ^ i : Nat) : Int) := by
        rw [wrap_u64]; omega
      have hn := ref01_number _ hsum
      have hlt : c + b.toNat % 128 * 128 ^ i < 128 ^ (i + 1) := by
        rw [Nat.pow_succ]
        have : b.toNat % 128 * 128 ^ i ≤ 127 * 128 ^ i := Nat.mul_le_mul_right _ (by omega)
        omega
      have hpw : i ≠ 9 → wrapK .u64 (((128 ^ i : Nat) : Int) * 128) = ((128 ^ (i + 1) : Nat) : Int) := fun h9 => by
        have e : (128 : Nat) ^ (i + 1) ≤ 128 ^ 9 := Nat.pow_le_pow_right (by decide) (by omega)
        have e2 : (128 : Nat) ^ 9 = 9223372036854775808 := by decide
        rw [Nat.pow_succ] at e ⊢
        rw [wrap_u64]; omega
      obtain ⟨c', hc'⟩ : ∃ c', c + b.toNat % 128 * 128 ^ i = c' := ⟨_, rfl⟩
      rw [hc'] at hadd hn g3 hsum hlt
      by_cases h9 : b.toNat < 128
      · rw [if_pos h9] at g3
        repeat' first | simp (disch := omega) only [go_sem, hQr, hQn, hQp, wrapK_i64, wrapK_u8, wrapK_u64, Nat.reduceAdd, Nat.reduceBEq, ↓reduceIte, hb, hd, hmul, hadd] | refine go_ ?_ | refine cf_ hn ?_ | refine br_ (fun hw => ?_) (fun hw => ?_) <;> try omega | fail
        all_goals first
          | exact ab_
          | (refine leafNE ?_ rfl; rw [g3]; done)
      · rw [if_neg h9] at g3
        have hpw := hpw (by omega)
        repeat' first | simp (disch := omega) only [go_sem, hQr, hQn, hQp, wrapK_i64, wrapK_u8, wrapK_u64, Nat.reduceAdd, Nat.reduceBEq, ↓reduceIte, hb, hd, hmul, hadd, hpw] | refine go_ ?_ | refine cf_ hn ?_ | refine br_ (fun hw => ?_) (fun hw => ?_) <;> try omega | fail
        all_goals first
          | exact ab_
          | (refine ⟨(i + 1, c'), ?_, ?_, by first | rfl | (simp [go_sem]; done), ou_, at_⟩ <;> (try dsimp only)
             · exact ⟨by omega, hlt, by omega, g3⟩
             · omega)
  · rw [List.drop_of_length_le (by omega), goV] at g3
    repeat' first | refine go_ ?_ | refine br_ (fun hw => ?_) (fun hw => ?_) <;> try omega | fail
    refine leafNE ?_ rfl
    rw [g3]
theorem ref01_TakeText (s : Str) (most : Int) (hs : s.length ≤ 2 ^ 62) : CallF Tryz.prog n_ref01_TakeText [.str s, I most] (eS (takeT s most)) := by
  have h1 := ref01_TakeNum s hs
  have hl := (takeN_len s).1
  unfold takeT
  generalize takeN s = t at *
  obtain ⟨n, r, e⟩ := t
  dsimp only at h1 hl ⊢
  simp only [eN] at h1
  obtain ⟨E, hE⟩ : ∃ E, (if e ≠ 0 then ([], [], e) else if n < 0 then ([], [], 4) else if n > most then ([], [], 5) else if n > r.length then ([], [], 3) else (r.take n.toNat, r.drop n.toNat, 0) : Str × Str × Int) = E := ⟨_, rfl⟩
  rw [hE]
  refine CallF.of_nil (of_ref01_TakeText (by simp) ?_) rfl
  unfold b_ref01_TakeText WpR
  intro Q hQr hQn hQp
  by_cases hk : 0 ≤ n
  · obtain ⟨k, rfl⟩ : ∃ k : Nat, n = (k : Int) := ⟨n.toNat, by omega⟩
    repeat' first | refine go_ ?_ | refine cf_ h1 ?_ | refine br_ (fun hw => ?_) (fun hw => ?_) <;> try omega | fail
    all_goals first | exact ab_ | refine leafNE ?_ rfl
    · rw [if_pos hw] at hE; rw [← hE]
    · rw [if_neg (by omega), if_neg (by omega), if_pos (by omega)] at hE; rw [← hE]
    · rw [if_neg (by omega), if_neg (by omega), if_neg (by omega), if_pos (by omega)] at hE; rw [← hE]
    · rw [if_neg (by omega), if_neg (by omega), if_neg (by omega), if_neg (by omega)] at hE; rw [← hE]; simp
  · repeat' first | refine go_ ?_ | refine cf_ h1 ?_ | refine br_ (fun hw => ?_) (fun hw => ?_) <;> try omega | fail
    all_goals first | exact ab_ | refine leafNE ?_ rfl
    · rw [if_pos hw] at hE; rw [← hE]
    · rw [if_neg (by omega), if_pos (by omega)] at hE; rw [← hE]
theorem ref01_Text (s : Str) (hs : s.length ≤ 2 ^ 61) : CallF Tryz.prog n_ref01_Text [.str s] (.str (textB s)) := by
  have h1 := ref01_Num s.length ⟨by omega, by omega⟩
  have h2 := numB_len s.length
  unfold textB
  generalize numB s.length = x at *
  refine CallF.of_nil (of_ref01_Text (by simp) ?_) rfl
  unfold b_ref01_Text WpR
  intro Q hQr hQn hQp
  have hadd : ((x.length + s.length : Nat) : Int) ≤ IntKind.i64.max := by show _ ≤ (9223372036854775807 : Int); omega
  repeat' first | refine go_ ?_ | refine cf_ h1 ?_ | refine br_ (fun hw => ?_) (fun hw => ?_) <;> try omega | fail
  exact leafE rfl rfl
def eVS (t : Val × Str × Int) : AV := .tup [.agg [I t.1.kind, I t.1.n, .str t.1.s], .str t.2.1, I t.2.2]
def eVsS (t : List Val × Str × Int) : AV := .tup [eVals t.1, .str t.2.1, I t.2.2]
theorem value_Take (s : Str) (hs : s.length ≤ 2 ^ 61) : CallF Tryz.prog n_value_Take [.str s] (eVS (takeV s)) := by
  obtain ⟨E, hE⟩ : ∃ E, takeV s = E := ⟨_, rfl⟩
  rw [hE]
  unfold takeV at hE
  have h1 := octet_TakeNum s (by omega)
  have hr := takeN_len s
  have hg := takeN_rng s
  generalize takeN s = t at *
  obtain ⟨k, r, e⟩ := t
  dsimp only at hE hr hg
  simp only [eN] at h1
  have h2 := octet_TakeNum r (by omega)
  have h3 := octet_TakeText r 40 (by omega)
  have hg2 := takeN_rng r
  generalize takeN r = t at *
  obtain ⟨n, r2, e2⟩ := t
  generalize takeT r 40 = u at *
  obtain ⟨x, r3, e3⟩ := u
  dsimp only at hE hg2
  simp only [eN, eS] at h2 h3
  have c1 := value_Check k n [] hg2.1 hg2.2
  have c2 := value_Check 2 0 x (by decide) (by decide)
  have c0 := value_Check 0 0 [] (by decide) (by decide)
  have q0 : errB (rightV ⟨0, 0, []⟩) = 0 := rfl
  rw [q0] at c0
  unfold okV at hE
  refine CallF.of_nil (of_value_Take (by simp) ?_) rfl
  unfold b_value_Take WpR
  intro Q hQr hQn hQp
  by_cases he : e = 0
  · rw [if_neg (by omega)] at hE
    by_cases k0 : k = 0
    · rw [if_pos k0] at hE
      repeat' first | simp (disch := omega) only [go_sem, hQr, hQn, hQp, wrapK_i64, wrapK_u8, wrapK_u64, Nat.reduceAdd, Nat.reduceBEq, ↓reduceIte, he, k0] | refine go_ ?_ | refine cf_ h1 ?_ | refine cf_ c0 ?_ | refine br_ (fun hw => ?_) (fun hw => ?_) <;> try omega | fail
      all_goals first | exact ab_ | (refine leafNE ?_ rfl; rw [← hE] <;> rfl)
    rw [if_neg k0] at hE
    by_cases k1 : k = 1 ∨ k = 3
    · rw [if_pos k1] at hE
      by_cases he2 : e2 = 0
      · rw [if_neg (by omega)] at hE
        generalize rightV ⟨k, n, []⟩ = b at *
        cases b
        all_goals
          simp only [errB, if_true, Bool.false_eq_true, if_false] at c1 hE
          repeat' first | simp (disch := omega) only [go_sem, hQr, hQn, hQp, wrapK_i64, wrapK_u8, wrapK_u64, Nat.reduceAdd, Nat.reduceBEq, ↓reduceIte, he, he2] | refine go_ ?_ | refine cf_ h1 ?_ | refine cf_ h2 ?_ | refine cf_ c1 ?_ | refine br_ (fun hw => ?_) (fun hw => ?_) <;> try omega | fail
        all_goals first | exact ab_ | (refine leafNE ?_ rfl; rw [← hE] <;> rfl)
      · rw [if_pos he2] at hE
        repeat' first | simp (disch := omega) only [go_sem, hQr, hQn, hQp, wrapK_i64, wrapK_u8, wrapK_u64, Nat.reduceAdd, Nat.reduceBEq, ↓reduceIte, he] | refine go_ ?_ | refine cf_ h1 ?_ | refine cf_ h2 ?_ | refine cf_ c1 ?_ | refine br_ (fun hw => ?_) (fun hw => ?_) <;> try omega | fail
        all_goals first | exact ab_ | (refine leafNE ?_ rfl; rw [← hE] <;> rfl)
    rw [if_neg k1] at hE
    by_cases k2 : k = 2
    · rw [if_pos k2] at hE
      by_cases he3 : e3 = 0
      · rw [if_neg (by omega)] at hE
        generalize rightV ⟨2, 0, x⟩ = b at *
        cases b
        all_goals
          simp only [errB, if_true, Bool.false_eq_true, if_false] at c2 hE
          repeat' first | simp (disch := omega) only [go_sem, hQr, hQn, hQp, wrapK_i64, wrapK_u8, wrapK_u64, Nat.reduceAdd, Nat.reduceBEq, ↓reduceIte, he, he3, k2] | refine go_ ?_ | refine cf_ h1 ?_ | refine cf_ h3 ?_ | refine cf_ c2 ?_ | refine br_ (fun hw => ?_) (fun hw => ?_) <;> try omega | fail
        all_goals first | exact ab_ | (refine leafNE ?_ rfl; rw [← hE] <;> rfl)
      · rw [if_pos he3] at hE
        repeat' first | simp (disch := omega) only [go_sem, hQr, hQn, hQp, wrapK_i64, wrapK_u8, wrapK_u64, Nat.reduceAdd, Nat.reduceBEq, ↓reduceIte, he, k2] | refine go_ ?_ | refine cf_ h1 ?_ | refine cf_ h3 ?_ | refine cf_ c2 ?_ | refine br_ (fun hw => ?_) (fun hw => ?_) <;> try omega | fail
        all_goals first | exact ab_ | (refine leafNE ?_ rfl; rw [← hE] <;> rfl)
    rw [if_neg k2] at hE
    repeat' first | simp (disch := omega) only [go_sem, hQr, hQn, hQp, wrapK_i64, wrapK_u8, wrapK_u64, Nat.reduceAdd, Nat.reduceBEq, ↓reduceIte, he] | refine go_ ?_ | refine cf_ h1 ?_ | refine br_ (fun hw => ?_) (fun hw => ?_) <;> try omega | fail
    all_goals first | exact ab_ | (refine leafNE ?_ rfl; rw [← hE] <;> rfl)
  · rw [if_pos he] at hE
    repeat' first | refine go_ ?_ | refine cf_ h1 ?_ | refine br_ (fun hw => ?_) (fun hw => ?_) <;> try omega | fail
    all_goals first | exact ab_ | (refine leafNE ?_ rfl; rw [← hE] <;> rfl)
theorem ref12_Take (s : Str) (hs : s.length ≤ 2 ^ 61) : CallF Tryz.prog n_ref12_Take [.str s] (eVS (takeV s)) := by
  obtain ⟨E, hE⟩ : ∃ E, takeV s = E := ⟨_, rfl⟩
  rw [hE]
  unfold takeV at hE
  have h1 := ref01_TakeNum s (by omega)
  have hr := takeN_len s
  have hg := takeN_rng s
  generalize takeN s = t at *
  obtain ⟨k, r, e⟩ := t
  dsimp only at hE hr hg
  simp only [eN] at h1
  have h2 := ref01_TakeNum r (by omega)
  have h3 := ref01_TakeText r 40 (by omega)
  have hg2 := takeN_rng r
  have hl3 := (takeT_len r 40).1
  generalize takeN r = t at *
  obtain ⟨n, r2, e2⟩ := t
  generalize takeT r 40 = u at *
  obtain ⟨x, r3, e3⟩ := u
  dsimp only at hE hg2 hl3
  simp only [eN, eS] at h2 h3
  have c1 := ref12_Right k n [] (by decide)
  have c2 := ref12_Right 2 0 x (by omega)
  have c0 := ref12_Right 0 0 [] (by decide)
  have q0 : rightV ⟨0, 0, []⟩ = true := rfl
  rw [q0] at c0
  unfold okV at hE
  refine CallF.of_nil (of_ref12_Take (by simp) ?_) rfl
  unfold b_ref12_Take WpR
  intro Q hQr hQn hQp
  by_cases he : e = 0
  · rw [if_neg (by omega)] at hE
    by_cases k0 : k = 0
    · rw [if_pos k0] at hE
      repeat' first | simp (disch := omega) only [go_sem, hQr, hQn, hQp, wrapK_i64, wrapK_u8, wrapK_u64, Nat.reduceAdd, Nat.reduceBEq, ↓reduceIte, he, k0] | refine go_ ?_ | refine cf_ h1 ?_ | refine cf_ c0 ?_ | refine br_ (fun hw => ?_) (fun hw => ?_) <;> try omega | fail
      all_goals first | exact ab_ | (refine leafNE ?_ rfl; rw [← hE] <;> rfl)
    rw [if_neg k0] at hE
    by_cases k1 : k = 1 ∨ k = 3
    · rw [if_pos k1] at hE
      by_cases he2 : e2 = 0
      · rw [if_neg (by omega)] at hE
        generalize rightV ⟨k, n, []⟩ = b at *
        cases b
        all_goals
          simp only [if_true, Bool.false_eq_true, if_false] at hE
          repeat' first | simp (disch := omega) only [go_sem, hQr, hQn, hQp, wrapK_i64, wrapK_u8, wrapK_u64, Nat.reduceAdd, Nat.reduceBEq, ↓reduceIte, he, he2] | refine go_ ?_ | refine cf_ h1 ?_ | refine cf_ h2 ?_ | refine cf_ c1 ?_ | refine br_ (fun hw => ?_) (fun hw => ?_) <;> try omega | fail
        all_goals first | exact ab_ | (refine leafNE ?_ rfl; rw [← hE] <;> rfl)
      · rw [if_pos he2] at hE
        repeat' first | simp (disch := omega) only [go_sem, hQr, hQn, hQp, wrapK_i64, wrapK_u8, wrapK_u64, Nat.reduceAdd, Nat.reduceBEq, ↓reduceIte, he] | refine go_ ?_ | refine cf_ h1 ?_ | refine cf_ h2 ?_ | refine cf_ c1 ?_ | refine br_ (fun hw => ?_) (fun hw => ?_) <;> try omega | fail
        all_goals first | exact ab_ | (refine leafNE ?_ rfl; rw [← hE] <;> rfl)
    rw [if_neg k1] at hE
    by_cases k2 : k = 2
    · rw [if_pos k2] at hE
      by_cases he3 : e3 = 0
      · rw [if_neg (by omega)] at hE
        generalize rightV ⟨2, 0, x⟩ = b at *
        cases b
        all_goals
          simp only [if_true, Bool.false_eq_true, if_false] at hE
          repeat' first | simp (disch := omega) only [go_sem, hQr, hQn, hQp, wrapK_i64, wrapK_u8, wrapK_u64, Nat.reduceAdd, Nat.reduceBEq, ↓reduceIte, he, he3, k2] | refine go_ ?_ | refine cf_ h1 ?_ | refine cf_ h3 ?_ | refine cf_ c2 ?_ | refine br_ (fun hw => ?_) (fun hw => ?_) <;> try omega | fail
        all_goals first | exact ab_ | (refine leafNE ?_ rfl; rw [← hE] <;> rfl)
      · rw [if_pos he3] at hE
        repeat' first | simp (disch := omega) only [go_sem, hQr, hQn, hQp, wrapK_i64, wrapK_u8, wrapK_u64, Nat.reduceAdd, Nat.reduceBEq, ↓reduceIte, he, k2] | refine go_ ?_ | refine cf_ h1 ?_ | refine cf_ h3 ?_ | refine cf_ c2 ?_ | refine br_ (fun hw => ?_) (fun hw => ?_) <;> try omega | fail
        all_goals first | exact ab_ | (refine leafNE ?_ rfl; rw [← hE] <;> rfl)
    rw [if_neg k2] at hE
    repeat' first | simp (disch := omega) only [go_sem, hQr, hQn, hQp, wrapK_i64, wrapK_u8, wrapK_u64, Nat.reduceAdd, Nat.reduceBEq, ↓reduceIte, he] | refine go_ ?_ | refine cf_ h1 ?_ | refine br_ (fun hw => ?_) (fun hw => ?_) <;> try omega | fail
    all_goals first | exact ab_ | (refine leafNE ?_ rfl; rw [← hE] <;> rfl)
  · rw [if_pos he] at hE
    repeat' first | refine go_ ?_ | refine cf_ h1 ?_ | refine br_ (fun hw => ?_) (fun hw => ?_) <;> try omega | fail
    all_goals first | exact ab_ | (refine leafNE ?_ rfl; rw [← hE] <;> rfl)
def bytesR (v : Val) : Str × Int := if rightV v then (bytesV v, 0) else ([], 2)
theorem bytesV_len (v : Val) : (bytesV v).length ≤ 30 + v.s.length := by
  have h1 := numB_len v.kind
  have h2 := numB_len v.n
  have h3 := numB_len v.s.length
  unfold bytesV textB
  rw [List.length_append]
  split
  · rw [List.length_append]; omega
  split
  · omega
  · simp; omega
theorem value_Bytes (k n : Int) (s : Str) (hn : rng n) (hs : s.length ≤ 2 ^ 60) : CallF Tryz.prog n_value_Bytes [.agg [I k, I n, .str s]] (.tup [.str (bytesR ⟨k, n, s⟩).1, I (bytesR ⟨k, n, s⟩).2]) := by
  have c1 := value_Check k n s hn.1 hn.2
  obtain ⟨E, hE⟩ : ∃ E, bytesR ⟨k, n, s⟩ = E := ⟨_, rfl⟩
  rw [hE]
  unfold bytesR bytesV at hE
  dsimp only at hE
  have hk := @rightV_kind ⟨k, n, s⟩
  dsimp only at hk
  generalize rightV ⟨k, n, s⟩ = b at *
  cases b
  · simp only [errB, Bool.false_eq_true, if_false] at c1 hE
    refine CallF.of_nil (of_value_Bytes (by simp) ?_) rfl
    unfold b_value_Bytes WpR
    intro Q hQr hQn hQp
    repeat' first | refine go_ ?_ | refine cf_ c1 ?_ | refine br_ (fun hw => ?_) (fun hw => ?_) <;> try omega | fail
    exact leafNE (by rw [← hE]) rfl
  have hk := hk rfl
  simp only [errB, if_true] at c1 hE
  have c2 := octet_Num k ⟨by omega, by omega⟩
  have c3 := octet_Num n hn
  have c4 := octet_Text s (by omega)
  have l1 := numB_len k
  have l2 := numB_len n
  have l3 : (textB s).length ≤ 10 + s.length := by unfold textB; have := numB_len s.length; rw [List.length_append]; omega
  generalize numB k = x at *
  generalize numB n = y at *
  generalize textB s = z at *
  have a1 : ((x.length + y.length : Nat) : Int) ≤ IntKind.i64.max := by show _ ≤ (9223372036854775807 : Int); omega
  have a2 : ((x.length + z.length : Nat) : Int) ≤ IntKind.i64.max := by show _ ≤ (9223372036854775807 : Int); omega
  refine CallF.of_nil (of_value_Bytes (by simp) ?_) rfl
  unfold b_value_Bytes WpR
  intro Q hQr hQn hQp
  repeat' first | refine go_ ?_ | refine cf_ c1 ?_ | refine cf_ c2 ?_ | refine cf_ c3 ?_ | refine cf_ c4 ?_ | refine br_ (fun hw => ?_) (fun hw => ?_) <;> try omega | fail
  all_goals first
    | exact ab_
    | (refine leafNE ?_ rfl; rw [← hE]; simp_all; done)
    | (refine leafNE ?_ rfl; rw [← hE, if_neg (by omega), if_neg (by omega), List.append_nil]; done)
theorem ref12_Bytes (k n : Int) (s : Str) (hk : rng k) (hn : rng n) (hs : s.length ≤ 2 ^ 60) : CallF Tryz.prog n_ref12_Bytes [.agg [I k, I n, .str s]] (.str (bytesV ⟨k, n, s⟩)) := by
  obtain ⟨E, hE⟩ : ∃ E, bytesV ⟨k, n, s⟩ = E := ⟨_, rfl⟩
  rw [hE]
  unfold bytesV at hE
  dsimp only at hE
  have c2 := ref01_Num k hk
  have c3 := ref01_Num n hn
  have c4 := ref01_Text s (by omega)
  have l1 := numB_len k
  have l2 := numB_len n
  have l3 : (textB s).length ≤ 10 + s.length := by unfold textB; have := numB_len s.length; rw [List.length_append]; omega
  generalize numB k = x at *
  generalize numB n = y at *
  generalize textB s = z at *
  have a1 : ((x.length + y.length : Nat) : Int) ≤ IntKind.i64.max := by show _ ≤ (9223372036854775807 : Int); omega
  have a2 : ((x.length + z.length : Nat) : Int) ≤ IntKind.i64.max := by show _ ≤ (9223372036854775807 : Int); omega
  refine CallF.of_nil (of_ref12_Bytes (by simp) ?_) rfl
  unfold b_ref12_Bytes WpR
  intro Q hQr hQn hQp
  repeat' first | refine go_ ?_ | refine cf_ c2 ?_ | refine cf_ c3 ?_ | refine cf_ c4 ?_ | refine br_ (fun hw => ?_) (fun hw => ?_) <;> try omega | fail
  all_goals first
    | exact ab_
    | (refine leafE ?_ rfl; rw [← hE]; simp_all; done)
    | (refine leafE ?_ rfl; rw [← hE, if_neg (by omega), if_neg (by omega), List.append_nil]; done)
end Go.Proofs.YtmbgnaoilncbnaaGreat
namespace Go.Proofs.YtmbgnaoilncbnaaGreat
open Go.AM
def valB (v : Val) : Bool := decide (v.s.length ≤ 300)
end Go.Proofs.YtmbgnaoilncbnaaGreat
