/- Chunks: what the texts are; numbers of fixed length, on both sides. -/
import Derived.Test.YtkimohopfhgcjaaAEval4
import Derived.Test.YtkimohopfhgcjaaB1
namespace Go.Proofs.Ytkimohopfhgcjaa
set_option linter.unnecessarySimpa false
open Go.AM
set_option linter.unusedSimpArgs false
set_option linter.unusedVariables false
set_option maxRecDepth 4000
abbrev Str := List UInt8
abbrev I (n : Int) : AV := .int .i64 n
abbrev E1 : El := ⟨false, 1⟩
/-- A number's last bytes, the greatest first. -/
def fixN (c : Nat) : Nat → Str
  | 0 => []
  | i + 1 => UInt8.ofNat (c / 256 ^ i) :: fixN c i
@[simp] theorem fixN_len (c m : Nat) : (fixN c m).length = m := by
  induction m with
  | zero => rfl
  | succ m ih => simp [fixN, ih]
def fixS (n k : Int) : Str := fixN (n % 18446744073709551616).toNat (min (max k 0) 8).toNat
abbrev eBytes (s : Str) : List AV := s.map fun b => AV.int .u8 b.toNat
theorem bytes_set (j i : Nat) (h : j = i + 1) (x : AV) (t : List AV) : (List.replicate j (AV.int .u8 0) ++ t).set i x = List.replicate i (AV.int .u8 0) ++ x :: t := by
  subst h
  rw [List.replicate_succ']
  simp
theorem shr_byte (n : Int) (h1 : -9223372036854775808 ≤ n) (h2 : n ≤ 9223372036854775807) (i : Nat) (hi : i < 8) : wrapK .u8 (n.fdiv (2 ^ (8 * i))) = ((UInt8.ofNat ((n % 18446744073709551616).toNat / 256 ^ i)).toNat : Int) := by
  have hw : ∀ x : Int, wrapK .u8 x = x % 256 := fun x => rfl
  rw [hw, UInt8.toNat_ofNat']
  rw [Int.fdiv_eq_ediv_of_nonneg _ (Int.le_of_lt (Int.pow_pos (by decide)))]
  obtain rfl | rfl | rfl | rfl | rfl | rfl | rfl | rfl : i = 0 ∨ i = 1 ∨ i = 2 ∨ i = 3 ∨ i = 4 ∨ i = 5 ∨ i = 6 ∨ i = 7 := by omega
  all_goals (simp only [Nat.reduceMul, Nat.reducePow, Int.reducePow, Nat.mul_zero, Nat.pow_zero, Int.pow_zero]; omega)
theorem octet_Fixed (n k : Int) (h1 : -9223372036854775808 ≤ n) (h2 : n ≤ 9223372036854775807) (h3 : -9223372036854775808 ≤ k) (h4 : k ≤ 9223372036854775807) : CallF Try.prog n_octet_Fixed [I n, I k] (.str (fixS n k)) := by
  obtain ⟨c, hc⟩ : ∃ c, (n % 18446744073709551616).toNat = c := ⟨_, rfl⟩
  have hm : (if (8 : Int) < (if k < (0 : Int) then (0 : Int) else k) then (8 : Int) else (if k < 0 then 0 else k)) = (((min (max k 0) 8).toNat : Nat) : Int) := by split <;> split <;> omega
  have hsh := shr_byte n h1 h2
  rw [hc] at hsh
  unfold fixS
  rw [hc]
  obtain ⟨m, hm2⟩ : ∃ m, (min (max k 0) 8).toNat = m := ⟨_, rfl⟩
  have hm8 : m ≤ 8 := by omega
  rw [hm2] at hm ⊢
  refine CallF.of_nil (of_octet_Fixed (by simp) ?_) rfl
  unfold b_octet_Fixed WpR
  intro Q hQr hQn hQp
  repeat' (first
    | simp (disch := omega) only [go_sem, hQr, hQn, hQp, Int.tdiv_eq_ediv_of_nonneg, Int.tmod_eq_emod_of_nonneg, wrapK_i64, wrapK_u8, wrapK_u64, x_get0, x_getS, x_set0, x_setS, x_getD0, x_getDS, x_lenC, x_lenN, x_drop0, x_dropS, x_take0, x_takeS, x_mapC, x_mapN, x_appC, x_appN, x_appE, x_rep0, x_repS, x_many0, x_manyS, x_cellsA, x_cellsI, x_cellsB, x_cellsS, x_cellsL, x_cellsN, x_cellsO, x_cellsR, x_cellsP, x_cellsF, x_nil1, x_nil2, x_nil3, x_contC, x_contN, boolbeq1, boolbeq2, getD_map, eBytes_nil, take_one, Bool.or_false, Bool.or_true, Bool.true_or, Bool.false_or, Nat.reduceAdd, Nat.reduceBEq, ↓reduceIte, beq_self_eq_true, Bool.and_true, Bool.true_and, Bool.and_false, Bool.false_and, Int.toNat_natCast, Int.toNat_natCast_add_one, Int.toNat_zero, List.length_map, List.length_append, Nat.zero_add, Bool.not_true, Bool.not_false, hm]
    | ((with_reducible refine req_d ?_ ?_); (· (first | (simp only [ne_eq, not_false_eq_true, true_and, and_true, AV.fits, AV.scalar, AV.cells, List.all_cons, List.all_nil, Bool.and_true, Bool.true_and, List.length_cons, List.length_nil, decide_true, beq_self_eq_true, apartAll, apartA, AV.obj, roomOk]; done) | omega | (simp [ne_eq, not_false_eq_true, true_and, and_true, AV.fits, AV.scalar, AV.cells, List.all_cons, List.all_nil, Bool.and_true, Bool.true_and, List.length_cons, List.length_nil, decide_true, beq_self_eq_true, apartAll, apartA, AV.obj, roomOk]; done) | (simp [ne_eq, not_false_eq_true, true_and, and_true, AV.fits, AV.scalar, AV.cells, List.all_cons, List.all_nil, Bool.and_true, Bool.true_and, List.length_cons, List.length_nil, decide_true, beq_self_eq_true, apartAll, apartA, AV.obj, roomOk]; omega) | assumption)))
    | with_reducible refine scope_no ?_
    | ((with_reducible refine b2sO_whole _ rfl ?_ ?_ ?_); (· simp); (· simp))
    | ((with_reducible refine condA_i (fun hw => ?_) (fun hw => ?_)) <;> ((try simp only [decide_eq_true_eq, decide_eq_false_iff_not, beq_iff_eq, beq_eq_false_iff_ne, Bool.not_eq_true', Bool.not_eq_false', Bool.not_true, Bool.not_false, Int.not_lt, Int.not_le, ne_eq, Int.ofNat_lt, Int.ofNat_le, not_true_eq_false, reduceCtorEq, Int.toNat_zero] at hw) <;> (try omega)))
    | ((with_reducible refine guardK_i (fun hw => ?_) (fun hw => ?_)) <;> ((try simp only [decide_eq_true_eq, decide_eq_false_iff_not, beq_iff_eq, beq_eq_false_iff_ne, Bool.not_eq_true', Bool.not_eq_false', Bool.not_true, Bool.not_false, Int.not_lt, Int.not_le, ne_eq, Int.ofNat_lt, Int.ofNat_le, not_true_eq_false, reduceCtorEq, Int.toNat_zero] at hw) <;> (try omega))))
  with_reducible refine loop_i [6, 13, 14, 15, 16, 17, 18, 19, 20, 21, 22, 23, 24, 25, 26, 27, 28] (fun i : Nat => [(13, I i)]) (fun i => [.vec E1 (List.replicate (m - i) (AV.int .u8 0) ++ eBytes (fixN c i))]) (fun i => i ≤ m) (fun i => m - i) (0) ?_ ?_ ?_ ?_
  · simp
  · simp [fixN]
  · simp (disch := omega) only [at_nil, at_cons, and_true, go_sem, hQr, hQn, hQp, Int.tdiv_eq_ediv_of_nonneg, Int.tmod_eq_emod_of_nonneg, wrapK_i64, wrapK_u8, wrapK_u64, x_get0, x_getS, x_set0, x_setS, x_getD0, x_getDS, x_lenC, x_lenN, x_drop0, x_dropS, x_take0, x_takeS, x_mapC, x_mapN, x_appC, x_appN, x_appE, x_rep0, x_repS, x_many0, x_manyS, x_cellsA, x_cellsI, x_cellsB, x_cellsS, x_cellsL, x_cellsN, x_cellsO, x_cellsR, x_cellsP, x_cellsF, x_nil1, x_nil2, x_nil3, x_contC, x_contN, boolbeq1, boolbeq2, getD_map, eBytes_nil, take_one, Bool.or_false, Bool.or_true, Bool.true_or, Bool.false_or, Nat.reduceAdd, Nat.reduceBEq, ↓reduceIte, beq_self_eq_true, Bool.and_true, Bool.true_and, Bool.and_false, Bool.false_and, Int.toNat_natCast, Int.toNat_natCast_add_one, Int.toNat_zero, List.length_map, List.length_append, Nat.zero_add, Bool.not_true, Bool.not_false, Int.natCast_add, Int.cast_ofNat_Int] <;> (try trivial) <;> (try omega) <;> (try (repeat (first | trivial | (refine And.intro ?_ ?_) | (congr 1; omega))))
  · rintro i r hi
    by_cases hin : i < m
    · have hset := bytes_set (m - i) (m - (i + 1)) (by omega)
      have hs := hsh i (by omega)
      have he : Nat.min ((8 * (i : Int)).toNat) 64 = 8 * i := by show min _ 64 = _; omega
      have hj : ((m : Int) - 1 - (i : Int)).toNat = m - (i + 1) := by omega
      repeat' (first
        | simp (disch := omega) only [go_sem, hQr, hQn, hQp, Int.tdiv_eq_ediv_of_nonneg, Int.tmod_eq_emod_of_nonneg, wrapK_i64, wrapK_u8, wrapK_u64, x_get0, x_getS, x_set0, x_setS, x_getD0, x_getDS, x_lenC, x_lenN, x_drop0, x_dropS, x_take0, x_takeS, x_mapC, x_mapN, x_appC, x_appN, x_appE, x_rep0, x_repS, x_many0, x_manyS, x_cellsA, x_cellsI, x_cellsB, x_cellsS, x_cellsL, x_cellsN, x_cellsO, x_cellsR, x_cellsP, x_cellsF, x_nil1, x_nil2, x_nil3, x_contC, x_contN, boolbeq1, boolbeq2, getD_map, eBytes_nil, take_one, Bool.or_false, Bool.or_true, Bool.true_or, Bool.false_or, Nat.reduceAdd, Nat.reduceBEq, ↓reduceIte, beq_self_eq_true, Bool.and_true, Bool.true_and, Bool.and_false, Bool.false_and, Int.toNat_natCast, Int.toNat_natCast_add_one, Int.toNat_zero, List.length_map, List.length_append, Nat.zero_add, Bool.not_true, Bool.not_false, List.length_replicate, fixN_len, he, hs, hj, hset]
        | ((with_reducible refine req_d ?_ ?_); (· (first | (simp only [ne_eq, not_false_eq_true, true_and, and_true, AV.fits, AV.scalar, AV.cells, List.all_cons, List.all_nil, Bool.and_true, Bool.true_and, List.length_cons, List.length_nil, decide_true, beq_self_eq_true, apartAll, apartA, AV.obj, roomOk]; done) | omega | (simp [ne_eq, not_false_eq_true, true_and, and_true, AV.fits, AV.scalar, AV.cells, List.all_cons, List.all_nil, Bool.and_true, Bool.true_and, List.length_cons, List.length_nil, decide_true, beq_self_eq_true, apartAll, apartA, AV.obj, roomOk]; done) | (simp [ne_eq, not_false_eq_true, true_and, and_true, AV.fits, AV.scalar, AV.cells, List.all_cons, List.all_nil, Bool.and_true, Bool.true_and, List.length_cons, List.length_nil, decide_true, beq_self_eq_true, apartAll, apartA, AV.obj, roomOk]; omega) | assumption)))
        | with_reducible refine scope_no ?_
        | ((with_reducible refine b2sO_whole _ rfl ?_ ?_ ?_); (· simp); (· simp))
        | ((with_reducible refine condA_i (fun hw => ?_) (fun hw => ?_)) <;> ((try simp only [decide_eq_true_eq, decide_eq_false_iff_not, beq_iff_eq, beq_eq_false_iff_ne, Bool.not_eq_true', Bool.not_eq_false', Bool.not_true, Bool.not_false, Int.not_lt, Int.not_le, ne_eq, Int.ofNat_lt, Int.ofNat_le, not_true_eq_false, reduceCtorEq, Int.toNat_zero] at hw) <;> (try omega)))
        | ((with_reducible refine guardK_i (fun hw => ?_) (fun hw => ?_)) <;> ((try simp only [decide_eq_true_eq, decide_eq_false_iff_not, beq_iff_eq, beq_eq_false_iff_ne, Bool.not_eq_true', Bool.not_eq_false', Bool.not_true, Bool.not_false, Int.not_lt, Int.not_le, ne_eq, Int.ofNat_lt, Int.ofNat_le, not_true_eq_false, reduceCtorEq, Int.toNat_zero] at hw) <;> (try omega))))
      refine ⟨i + 1, ?_, ?_, by first | rfl | (simp [go_sem]; done), (by repeat (first | exact out_ovl _ _ _ | refine out_upd rfl ?_ | refine out_ovl2 rfl ?_ | (simp only [puts_cons, puts_nil]))), (by simp (disch := omega) only [at_nil, at_cons, and_true, go_sem, hQr, hQn, hQp, Int.tdiv_eq_ediv_of_nonneg, Int.tmod_eq_emod_of_nonneg, wrapK_i64, wrapK_u8, wrapK_u64, x_get0, x_getS, x_set0, x_setS, x_getD0, x_getDS, x_lenC, x_lenN, x_drop0, x_dropS, x_take0, x_takeS, x_mapC, x_mapN, x_appC, x_appN, x_appE, x_rep0, x_repS, x_many0, x_manyS, x_cellsA, x_cellsI, x_cellsB, x_cellsS, x_cellsL, x_cellsN, x_cellsO, x_cellsR, x_cellsP, x_cellsF, x_nil1, x_nil2, x_nil3, x_contC, x_contN, boolbeq1, boolbeq2, getD_map, eBytes_nil, take_one, Bool.or_false, Bool.or_true, Bool.true_or, Bool.false_or, Nat.reduceAdd, Nat.reduceBEq, ↓reduceIte, beq_self_eq_true, Bool.and_true, Bool.true_and, Bool.and_false, Bool.false_and, Int.toNat_natCast, Int.toNat_natCast_add_one, Int.toNat_zero, List.length_map, List.length_append, Nat.zero_add, Bool.not_true, Bool.not_false, Int.natCast_add, Int.cast_ofNat_Int] <;> (try trivial) <;> (try omega) <;> (try (repeat (first | trivial | (refine And.intro ?_ ?_) | (congr 1; omega)))))⟩ <;> (try dsimp only)
      · omega
      · omega
    · have hz : m - i = 0 := by omega
      have him : i = m := by omega
      repeat' (first
        | simp (disch := omega) only [go_sem, hQr, hQn, hQp, Int.tdiv_eq_ediv_of_nonneg, Int.tmod_eq_emod_of_nonneg, wrapK_i64, wrapK_u8, wrapK_u64, x_get0, x_getS, x_set0, x_setS, x_getD0, x_getDS, x_lenC, x_lenN, x_drop0, x_dropS, x_take0, x_takeS, x_mapC, x_mapN, x_appC, x_appN, x_appE, x_rep0, x_repS, x_many0, x_manyS, x_cellsA, x_cellsI, x_cellsB, x_cellsS, x_cellsL, x_cellsN, x_cellsO, x_cellsR, x_cellsP, x_cellsF, x_nil1, x_nil2, x_nil3, x_contC, x_contN, boolbeq1, boolbeq2, getD_map, eBytes_nil, take_one, Bool.or_false, Bool.or_true, Bool.true_or, Bool.false_or, Nat.reduceAdd, Nat.reduceBEq, ↓reduceIte, beq_self_eq_true, Bool.and_true, Bool.true_and, Bool.and_false, Bool.false_and, Int.toNat_natCast, Int.toNat_natCast_add_one, Int.toNat_zero, List.length_map, List.length_append, Nat.zero_add, Bool.not_true, Bool.not_false, List.length_replicate, fixN_len, hz, him, Nat.sub_self, List.replicate_zero]
        | ((with_reducible refine req_d ?_ ?_); (· (first | (simp only [ne_eq, not_false_eq_true, true_and, and_true, AV.fits, AV.scalar, AV.cells, List.all_cons, List.all_nil, Bool.and_true, Bool.true_and, List.length_cons, List.length_nil, decide_true, beq_self_eq_true, apartAll, apartA, AV.obj, roomOk]; done) | omega | (simp [ne_eq, not_false_eq_true, true_and, and_true, AV.fits, AV.scalar, AV.cells, List.all_cons, List.all_nil, Bool.and_true, Bool.true_and, List.length_cons, List.length_nil, decide_true, beq_self_eq_true, apartAll, apartA, AV.obj, roomOk]; done) | (simp [ne_eq, not_false_eq_true, true_and, and_true, AV.fits, AV.scalar, AV.cells, List.all_cons, List.all_nil, Bool.and_true, Bool.true_and, List.length_cons, List.length_nil, decide_true, beq_self_eq_true, apartAll, apartA, AV.obj, roomOk]; omega) | assumption)))
        | with_reducible refine scope_no ?_
        | ((with_reducible refine b2sO_whole _ rfl ?_ ?_ ?_); (· simp); (· simp))
        | ((with_reducible refine condA_i (fun hw => ?_) (fun hw => ?_)) <;> ((try simp only [decide_eq_true_eq, decide_eq_false_iff_not, beq_iff_eq, beq_eq_false_iff_ne, Bool.not_eq_true', Bool.not_eq_false', Bool.not_true, Bool.not_false, Int.not_lt, Int.not_le, ne_eq, Int.ofNat_lt, Int.ofNat_le, not_true_eq_false, reduceCtorEq, Int.toNat_zero] at hw) <;> (try omega)))
        | ((with_reducible refine guardK_i (fun hw => ?_) (fun hw => ?_)) <;> ((try simp only [decide_eq_true_eq, decide_eq_false_iff_not, beq_iff_eq, beq_eq_false_iff_ne, Bool.not_eq_true', Bool.not_eq_false', Bool.not_true, Bool.not_false, Int.not_lt, Int.not_le, ne_eq, Int.ofNat_lt, Int.ofNat_le, not_true_eq_false, reduceCtorEq, Int.toNat_zero] at hw) <;> (try omega))))
      all_goals refine leafE ?_ rfl
      all_goals rfl
theorem ref01_Fixed (n k : Int) (h1 : -9223372036854775808 ≤ n) (h2 : n ≤ 9223372036854775807) (h3 : -9223372036854775808 ≤ k) (h4 : k ≤ 9223372036854775807) : CallF Try.prog n_ref01_Fixed [I n, I k] (.str (fixS n k)) := by
  obtain ⟨c, hc⟩ : ∃ c, (n % 18446744073709551616).toNat = c := ⟨_, rfl⟩
  have hw : wrapK .u64 n = (c : Int) := by
    have hw : ∀ x : Int, wrapK .u64 x = x % 18446744073709551616 := fun x => rfl
    rw [hw]; omega
  unfold fixS
  rw [hc]
  obtain ⟨m, hm2⟩ : ∃ m, (min (max k 0) 8).toNat = m := ⟨_, rfl⟩
  have hm8 : m ≤ 8 := by omega
  have hc64 : c < 18446744073709551616 := by omega
  rw [hm2]
  refine CallF.of_nil (of_ref01_Fixed (by simp) ?_) rfl
  unfold b_ref01_Fixed WpR
  intro Q hQr hQn hQp
  repeat' (first
    | simp (disch := omega) only [go_sem, hQr, hQn, hQp, Int.tdiv_eq_ediv_of_nonneg, Int.tmod_eq_emod_of_nonneg, wrapK_i64, wrapK_u8, wrapK_u64, x_get0, x_getS, x_set0, x_setS, x_getD0, x_getDS, x_lenC, x_lenN, x_drop0, x_dropS, x_take0, x_takeS, x_mapC, x_mapN, x_appC, x_appN, x_appE, x_rep0, x_repS, x_many0, x_manyS, x_cellsA, x_cellsI, x_cellsB, x_cellsS, x_cellsL, x_cellsN, x_cellsO, x_cellsR, x_cellsP, x_cellsF, x_nil1, x_nil2, x_nil3, x_contC, x_contN, boolbeq1, boolbeq2, getD_map, eBytes_nil, take_one, Bool.or_false, Bool.or_true, Bool.true_or, Bool.false_or, Nat.reduceAdd, Nat.reduceBEq, ↓reduceIte, beq_self_eq_true, Bool.and_true, Bool.true_and, Bool.and_false, Bool.false_and, Int.toNat_natCast, Int.toNat_natCast_add_one, Int.toNat_zero, List.length_map, List.length_append, Nat.zero_add, Bool.not_true, Bool.not_false, hw]
    | ((with_reducible refine req_d ?_ ?_); (· (first | (simp only [ne_eq, not_false_eq_true, true_and, and_true, AV.fits, AV.scalar, AV.cells, List.all_cons, List.all_nil, Bool.and_true, Bool.true_and, List.length_cons, List.length_nil, decide_true, beq_self_eq_true, apartAll, apartA, AV.obj, roomOk]; done) | omega | (simp [ne_eq, not_false_eq_true, true_and, and_true, AV.fits, AV.scalar, AV.cells, List.all_cons, List.all_nil, Bool.and_true, Bool.true_and, List.length_cons, List.length_nil, decide_true, beq_self_eq_true, apartAll, apartA, AV.obj, roomOk]; done) | (simp [ne_eq, not_false_eq_true, true_and, and_true, AV.fits, AV.scalar, AV.cells, List.all_cons, List.all_nil, Bool.and_true, Bool.true_and, List.length_cons, List.length_nil, decide_true, beq_self_eq_true, apartAll, apartA, AV.obj, roomOk]; omega) | assumption)))
    | with_reducible refine scope_no ?_
    | ((with_reducible refine b2sO_whole _ rfl ?_ ?_ ?_); (· simp); (· simp))
    | ((with_reducible refine condA_i (fun hw => ?_) (fun hw => ?_)) <;> ((try simp only [decide_eq_true_eq, decide_eq_false_iff_not, beq_iff_eq, beq_eq_false_iff_ne, Bool.not_eq_true', Bool.not_eq_false', Bool.not_true, Bool.not_false, Int.not_lt, Int.not_le, ne_eq, Int.ofNat_lt, Int.ofNat_le, not_true_eq_false, reduceCtorEq, Int.toNat_zero] at hw) <;> (try omega)))
    | ((with_reducible refine guardK_i (fun hw => ?_) (fun hw => ?_)) <;> ((try simp only [decide_eq_true_eq, decide_eq_false_iff_not, beq_iff_eq, beq_eq_false_iff_ne, Bool.not_eq_true', Bool.not_eq_false', Bool.not_true, Bool.not_false, Int.not_lt, Int.not_le, ne_eq, Int.ofNat_lt, Int.ofNat_le, not_true_eq_false, reduceCtorEq, Int.toNat_zero] at hw) <;> (try omega))))
  with_reducible refine loop_i [5, 6, 7, 10, 11, 12, 13, 14, 15, 16, 17, 18, 19, 20, 21, 22, 23, 24, 25, 26, 27] (fun p : Nat × List AObj => [(7, I p.1), (6, .str (fixN c p.1)), (5, .int .u64 ((c / 256 ^ p.1 : Nat) : Int))]) (fun p => p.2) (fun p => p.1 ≤ m) (fun p => m - p.1) (0, []) ?_ ?_ ?_ ?_
  · simp
  · simp [fixN]
  · simp (disch := omega) only [at_nil, at_cons, and_true, go_sem, hQr, hQn, hQp, Int.tdiv_eq_ediv_of_nonneg, Int.tmod_eq_emod_of_nonneg, wrapK_i64, wrapK_u8, wrapK_u64, x_get0, x_getS, x_set0, x_setS, x_getD0, x_getDS, x_lenC, x_lenN, x_drop0, x_dropS, x_take0, x_takeS, x_mapC, x_mapN, x_appC, x_appN, x_appE, x_rep0, x_repS, x_many0, x_manyS, x_cellsA, x_cellsI, x_cellsB, x_cellsS, x_cellsL, x_cellsN, x_cellsO, x_cellsR, x_cellsP, x_cellsF, x_nil1, x_nil2, x_nil3, x_contC, x_contN, boolbeq1, boolbeq2, getD_map, eBytes_nil, take_one, Bool.or_false, Bool.or_true, Bool.true_or, Bool.false_or, Nat.reduceAdd, Nat.reduceBEq, ↓reduceIte, beq_self_eq_true, Bool.and_true, Bool.true_and, Bool.and_false, Bool.false_and, Int.toNat_natCast, Int.toNat_natCast_add_one, Int.toNat_zero, List.length_map, List.length_append, Nat.zero_add, Bool.not_true, Bool.not_false, Int.natCast_add, Int.cast_ofNat_Int] <;> (try trivial) <;> (try omega) <;> (try (repeat (first | trivial | (refine And.intro ?_ ?_) | (congr 1; omega))))
  · rintro ⟨i, τ⟩ r hi
    dsimp only at hi
    have hlt : c / 256 ^ i < 18446744073709551616 := Nat.lt_of_le_of_lt (Nat.div_le_self _ _) hc64
    have hb : wrapK .u8 (Int.tmod ((c / 256 ^ i : Nat) : Int) 256) = ((UInt8.ofNat (c / 256 ^ i)).toNat : Int) := by
      have hw : ∀ x : Int, wrapK .u8 x = x % 256 := fun x => rfl
      rw [hw, UInt8.toNat_ofNat', Int.tmod_eq_emod_of_nonneg (Int.natCast_nonneg _)]; omega
    have hd : Int.tdiv ((c / 256 ^ i : Nat) : Int) 256 = ((c / 256 ^ (i + 1) : Nat) : Int) := by
      rw [Nat.pow_succ, ← Nat.div_div_eq_div_mul, Int.tdiv_eq_ediv_of_nonneg (Int.natCast_nonneg _)]; omega
    have hww : wrapK .u64 ((c / 256 ^ (i + 1) : Nat) : Int) = ((c / 256 ^ (i + 1) : Nat) : Int) := by
      have hw : ∀ x : Int, wrapK .u64 x = x % 18446744073709551616 := fun x => rfl
      have : c / 256 ^ (i + 1) < 18446744073709551616 := Nat.lt_of_le_of_lt (Nat.div_le_self _ _) hc64
      rw [hw]
      generalize c / 256 ^ (i + 1) = x at this ⊢
      omega
    have hlen : (([UInt8.ofNat (c / 256 ^ i)].length + (fixN c i).length : Nat) : Int) ≤ IntKind.i64.max := by
      rw [fixN_len]
      show ((1 + i : Nat) : Int) ≤ 9223372036854775807
      omega
    repeat' (first
      | simp (disch := omega) only [go_sem, hQr, hQn, hQp, Int.tdiv_eq_ediv_of_nonneg, Int.tmod_eq_emod_of_nonneg, wrapK_i64, wrapK_u8, wrapK_u64, x_get0, x_getS, x_set0, x_setS, x_getD0, x_getDS, x_lenC, x_lenN, x_drop0, x_dropS, x_take0, x_takeS, x_mapC, x_mapN, x_appC, x_appN, x_appE, x_rep0, x_repS, x_many0, x_manyS, x_cellsA, x_cellsI, x_cellsB, x_cellsS, x_cellsL, x_cellsN, x_cellsO, x_cellsR, x_cellsP, x_cellsF, x_nil1, x_nil2, x_nil3, x_contC, x_contN, boolbeq1, boolbeq2, getD_map, eBytes_nil, take_one, Bool.or_false, Bool.or_true, Bool.true_or, Bool.false_or, Nat.reduceAdd, Nat.reduceBEq, ↓reduceIte, beq_self_eq_true, Bool.and_true, Bool.true_and, Bool.and_false, Bool.false_and, Int.toNat_natCast, Int.toNat_natCast_add_one, Int.toNat_zero, List.length_map, List.length_append, Nat.zero_add, Bool.not_true, Bool.not_false, hb, hd, hww]
      | ((with_reducible refine req_d ?_ ?_); (· (first | (simp only [ne_eq, not_false_eq_true, true_and, and_true, AV.fits, AV.scalar, AV.cells, List.all_cons, List.all_nil, Bool.and_true, Bool.true_and, List.length_cons, List.length_nil, decide_true, beq_self_eq_true, apartAll, apartA, AV.obj, roomOk]; done) | omega | (simp [ne_eq, not_false_eq_true, true_and, and_true, AV.fits, AV.scalar, AV.cells, List.all_cons, List.all_nil, Bool.and_true, Bool.true_and, List.length_cons, List.length_nil, decide_true, beq_self_eq_true, apartAll, apartA, AV.obj, roomOk]; done) | (simp [ne_eq, not_false_eq_true, true_and, and_true, AV.fits, AV.scalar, AV.cells, List.all_cons, List.all_nil, Bool.and_true, Bool.true_and, List.length_cons, List.length_nil, decide_true, beq_self_eq_true, apartAll, apartA, AV.obj, roomOk]; omega) | assumption)))
      | with_reducible refine scope_no ?_
      | ((with_reducible refine b2sO_whole _ rfl ?_ ?_ ?_); (· simp); (· simp))
      | ((with_reducible refine condA_i (fun hw => ?_) (fun hw => ?_)) <;> ((try simp only [decide_eq_true_eq, decide_eq_false_iff_not, beq_iff_eq, beq_eq_false_iff_ne, Bool.not_eq_true', Bool.not_eq_false', Bool.not_true, Bool.not_false, Int.not_lt, Int.not_le, ne_eq, Int.ofNat_lt, Int.ofNat_le, not_true_eq_false, reduceCtorEq, Int.toNat_zero] at hw) <;> (try omega)))
      | ((with_reducible refine guardK_i (fun hw => ?_) (fun hw => ?_)) <;> ((try simp only [decide_eq_true_eq, decide_eq_false_iff_not, beq_iff_eq, beq_eq_false_iff_ne, Bool.not_eq_true', Bool.not_eq_false', Bool.not_true, Bool.not_false, Int.not_lt, Int.not_le, ne_eq, Int.ofNat_lt, Int.ofNat_le, not_true_eq_false, reduceCtorEq, Int.toNat_zero] at hw) <;> (try omega))))
    · refine ⟨(i + 1, τ), ?_, ?_, by first | rfl | (simp [go_sem]; done), (by repeat (first | exact out_ovl _ _ _ | refine out_upd rfl ?_ | refine out_ovl2 rfl ?_ | (simp only [puts_cons, puts_nil]))), (by simp (disch := omega) only [at_nil, at_cons, and_true, go_sem, hQr, hQn, hQp, Int.tdiv_eq_ediv_of_nonneg, Int.tmod_eq_emod_of_nonneg, wrapK_i64, wrapK_u8, wrapK_u64, x_get0, x_getS, x_set0, x_setS, x_getD0, x_getDS, x_lenC, x_lenN, x_drop0, x_dropS, x_take0, x_takeS, x_mapC, x_mapN, x_appC, x_appN, x_appE, x_rep0, x_repS, x_many0, x_manyS, x_cellsA, x_cellsI, x_cellsB, x_cellsS, x_cellsL, x_cellsN, x_cellsO, x_cellsR, x_cellsP, x_cellsF, x_nil1, x_nil2, x_nil3, x_contC, x_contN, boolbeq1, boolbeq2, getD_map, eBytes_nil, take_one, Bool.or_false, Bool.or_true, Bool.true_or, Bool.false_or, Nat.reduceAdd, Nat.reduceBEq, ↓reduceIte, beq_self_eq_true, Bool.and_true, Bool.true_and, Bool.and_false, Bool.false_and, Int.toNat_natCast, Int.toNat_natCast_add_one, Int.toNat_zero, List.length_map, List.length_append, Nat.zero_add, Bool.not_true, Bool.not_false, Int.natCast_add, Int.cast_ofNat_Int] <;> (try trivial) <;> (try omega) <;> (try (repeat (first | trivial | (refine And.intro ?_ ?_) | (congr 1; omega)))))⟩ <;> (try dsimp only)
      · omega
      · omega
    · have : i = m := by omega
      subst this
      exact leafE rfl rfl
    · have : i = m := by omega
      subst this
      exact leafE rfl rfl
end Go.Proofs.Ytkimohopfhgcjaa
