/- Chunks: the laws' own functions. -/
import Derived.Test.YtkimohopfhgcjaaC6
namespace Go.Proofs.Ytkimohopfhgcjaa
set_option linter.unnecessarySimpa false
open Go.AM
set_option linter.unusedSimpArgs false
set_option linter.unusedVariables false
set_option maxRecDepth 4000
def exEdits : List Edit := [⟨[112, 0, 0], [], true, [112, 255, 255]⟩, ⟨[112, 0, 0], [120], false, []⟩]
def exPairs : List Pair := [⟨[112, 0, 0], [120]⟩]
theorem ex1 : editsS [112] [120] = (exEdits, 0) := by decide
theorem ex2 : joinS [112] exPairs = ([120], 0) := by decide
theorem law11_lives : CallF Try.prog n_law11_lives [] (.bool true) := by
  have h1 := chunk_Edits [112] [120] (by simp) (by simp)
  rw [ex1] at h1
  have h2 := chunk_Join [112] exPairs (by simp) (by simp [exPairs])
  rw [ex2] at h2
  have h3 := ref11_SameEdits exEdits exEdits (by simp [exEdits]) (by simp [exEdits])
  rw [decide_eq_true rfl] at h3
  have h4 := chunk_Count 151 (by omega) (by omega)
  rw [show cntI 151 = 2 by decide] at h4
  simp only [exPairs, exEdits, eEdits, ePairs, List.map_cons, List.map_nil, eEdit, ePair] at h1 h2 h3
  refine CallF.of_nil (of_law11_lives (by simp) ?_) rfl
  unfold b_law11_lives WpR
  intro Q hQr hQn hQp
  repeat' (first
    | simp (disch := omega) only [go_sem, hQr, hQn, hQp, Int.tdiv_eq_ediv_of_nonneg, Int.tmod_eq_emod_of_nonneg, wrapK_i64, wrapK_u8, wrapK_u64, x_get0, x_getS, x_set0, x_setS, x_getD0, x_getDS, x_lenC, x_lenN, x_drop0, x_dropS, x_take0, x_takeS, x_mapC, x_mapN, x_appC, x_appN, x_appE, x_rep0, x_repS, x_many0, x_manyS, x_cellsA, x_cellsI, x_cellsB, x_cellsS, x_cellsL, x_cellsN, x_cellsO, x_cellsR, x_cellsP, x_cellsF, x_nil1, x_nil2, x_nil3, x_contC, x_contN, boolbeq1, boolbeq2, getD_map, eBytes_nil, take_one, Bool.or_false, Bool.or_true, Bool.true_or, Bool.false_or, Nat.reduceAdd, Nat.reduceBEq, ↓reduceIte, beq_self_eq_true, Bool.and_true, Bool.true_and, Bool.and_false, Bool.false_and, Int.toNat_natCast, Int.toNat_natCast_add_one, Int.toNat_zero, List.length_map, List.length_append, Nat.zero_add, Bool.not_true, Bool.not_false]
    | with_reducible refine callL_f (h1) ?_
    | with_reducible refine callD_f (h1) ?_
    | ((with_reducible refine callL_w (h2) ?_ ?_); (· first | exact ViewL.refl (by simp [AV.pur, AV.purL, pur_ePair, pur_eEdit, pur_ePairs, pur_eEdits, purL_p, purL_e]) | (repeat (first | exact ViewL.nil _ | refine ViewL.cons ?_ ?_ | exact View.nils _ | exact View.refl _ (by simp [AV.pur, AV.purL, pur_ePair, pur_eEdit, pur_ePairs, pur_eEdits, purL_p, purL_e]) | exact View.weak _ _ _ (by simp [AV.pur, AV.purL, pur_ePair, pur_eEdit, pur_ePairs, pur_eEdits, purL_p, purL_e]) | exact View.cell _ _ rfl rfl (by simp [AV.pur, AV.purL, pur_ePair, pur_eEdit, pur_ePairs, pur_eEdits, purL_p, purL_e]) | refine View.fnL ?_ ?_ | exact View.vec rfl (by simp) (by simp) (by simp [AV.pur, AV.purL, pur_ePair, pur_eEdit, pur_ePairs, pur_eEdits, purL_p, purL_e])))))
    | ((with_reducible refine callD_w (h2) ?_ ?_); (· first | exact ViewL.refl (by simp [AV.pur, AV.purL, pur_ePair, pur_eEdit, pur_ePairs, pur_eEdits, purL_p, purL_e]) | (repeat (first | exact ViewL.nil _ | refine ViewL.cons ?_ ?_ | exact View.nils _ | exact View.refl _ (by simp [AV.pur, AV.purL, pur_ePair, pur_eEdit, pur_ePairs, pur_eEdits, purL_p, purL_e]) | exact View.weak _ _ _ (by simp [AV.pur, AV.purL, pur_ePair, pur_eEdit, pur_ePairs, pur_eEdits, purL_p, purL_e]) | exact View.cell _ _ rfl rfl (by simp [AV.pur, AV.purL, pur_ePair, pur_eEdit, pur_ePairs, pur_eEdits, purL_p, purL_e]) | refine View.fnL ?_ ?_ | exact View.vec rfl (by simp) (by simp) (by simp [AV.pur, AV.purL, pur_ePair, pur_eEdit, pur_ePairs, pur_eEdits, purL_p, purL_e])))))
    | ((with_reducible refine callL_w (h3) ?_ ?_); (· first | exact ViewL.refl (by simp [AV.pur, AV.purL, pur_ePair, pur_eEdit, pur_ePairs, pur_eEdits, purL_p, purL_e]) | (repeat (first | exact ViewL.nil _ | refine ViewL.cons ?_ ?_ | exact View.nils _ | exact View.refl _ (by simp [AV.pur, AV.purL, pur_ePair, pur_eEdit, pur_ePairs, pur_eEdits, purL_p, purL_e]) | exact View.weak _ _ _ (by simp [AV.pur, AV.purL, pur_ePair, pur_eEdit, pur_ePairs, pur_eEdits, purL_p, purL_e]) | exact View.cell _ _ rfl rfl (by simp [AV.pur, AV.purL, pur_ePair, pur_eEdit, pur_ePairs, pur_eEdits, purL_p, purL_e]) | refine View.fnL ?_ ?_ | exact View.vec rfl (by simp) (by simp) (by simp [AV.pur, AV.purL, pur_ePair, pur_eEdit, pur_ePairs, pur_eEdits, purL_p, purL_e])))))
    | ((with_reducible refine callD_w (h3) ?_ ?_); (· first | exact ViewL.refl (by simp [AV.pur, AV.purL, pur_ePair, pur_eEdit, pur_ePairs, pur_eEdits, purL_p, purL_e]) | (repeat (first | exact ViewL.nil _ | refine ViewL.cons ?_ ?_ | exact View.nils _ | exact View.refl _ (by simp [AV.pur, AV.purL, pur_ePair, pur_eEdit, pur_ePairs, pur_eEdits, purL_p, purL_e]) | exact View.weak _ _ _ (by simp [AV.pur, AV.purL, pur_ePair, pur_eEdit, pur_ePairs, pur_eEdits, purL_p, purL_e]) | exact View.cell _ _ rfl rfl (by simp [AV.pur, AV.purL, pur_ePair, pur_eEdit, pur_ePairs, pur_eEdits, purL_p, purL_e]) | refine View.fnL ?_ ?_ | exact View.vec rfl (by simp) (by simp) (by simp [AV.pur, AV.purL, pur_ePair, pur_eEdit, pur_ePairs, pur_eEdits, purL_p, purL_e])))))
    | with_reducible refine callL_f (h4) ?_
    | with_reducible refine callD_f (h4) ?_
    | ((with_reducible refine req_d ?_ ?_); (· (first | (simp only [ne_eq, not_false_eq_true, true_and, and_true, AV.fits, AV.scalar, AV.cells, List.all_cons, List.all_nil, Bool.and_true, Bool.true_and, List.length_cons, List.length_nil, decide_true, beq_self_eq_true, apartAll, apartA, AV.obj, roomOk]; done) | omega | (simp [ne_eq, not_false_eq_true, true_and, and_true, AV.fits, AV.scalar, AV.cells, List.all_cons, List.all_nil, Bool.and_true, Bool.true_and, List.length_cons, List.length_nil, decide_true, beq_self_eq_true, apartAll, apartA, AV.obj, roomOk]; done) | (simp [ne_eq, not_false_eq_true, true_and, and_true, AV.fits, AV.scalar, AV.cells, List.all_cons, List.all_nil, Bool.and_true, Bool.true_and, List.length_cons, List.length_nil, decide_true, beq_self_eq_true, apartAll, apartA, AV.obj, roomOk]; omega) | assumption)))
    | with_reducible refine scope_no ?_
    | ((with_reducible refine b2sO_whole _ rfl ?_ ?_ ?_); (· simp); (· simp))
    | ((with_reducible refine condA_i (fun hw => ?_) (fun hw => ?_)) <;> ((try simp only [decide_eq_true_eq, decide_eq_false_iff_not, beq_iff_eq, beq_eq_false_iff_ne, Bool.not_eq_true', Bool.not_eq_false', Bool.not_true, Bool.not_false, Int.not_lt, Int.not_le, ne_eq, Int.ofNat_lt, Int.ofNat_le, not_true_eq_false, reduceCtorEq, Int.toNat_zero] at hw) <;> (try omega)))
    | ((with_reducible refine guardK_i (fun hw => ?_) (fun hw => ?_)) <;> ((try simp only [decide_eq_true_eq, decide_eq_false_iff_not, beq_iff_eq, beq_eq_false_iff_ne, Bool.not_eq_true', Bool.not_eq_false', Bool.not_true, Bool.not_false, Int.not_lt, Int.not_le, ne_eq, Int.ofNat_lt, Int.ofNat_le, not_true_eq_false, reduceCtorEq, Int.toNat_zero] at hw) <;> (try omega))))
  exact leafE rfl rfl
theorem law11_ChunkEdits (pf s : Str) (n : Int) (h1 : -9223372036854775808 ≤ n) (h2 : n ≤ 9223372036854775807) : CallF Try.prog n_law11_ChunkEdits [.str pf, .str s, I n] (.bool true) := by
  by_cases hg : pf.length ≤ 300 ∧ s.length ≤ 3000 ∧ n ≤ 1099511627776
  case neg =>
    refine CallF.of_nil (of_law11_ChunkEdits (by simp) ?_) rfl
    unfold b_law11_ChunkEdits WpR
    intro Q hQr hQn hQp
    repeat' (first
      | simp (disch := omega) only [go_sem, hQr, hQn, hQp, Int.tdiv_eq_ediv_of_nonneg, Int.tmod_eq_emod_of_nonneg, wrapK_i64, wrapK_u8, wrapK_u64, x_get0, x_getS, x_set0, x_setS, x_getD0, x_getDS, x_lenC, x_lenN, x_drop0, x_dropS, x_take0, x_takeS, x_mapC, x_mapN, x_appC, x_appN, x_appE, x_rep0, x_repS, x_many0, x_manyS, x_cellsA, x_cellsI, x_cellsB, x_cellsS, x_cellsL, x_cellsN, x_cellsO, x_cellsR, x_cellsP, x_cellsF, x_nil1, x_nil2, x_nil3, x_contC, x_contN, boolbeq1, boolbeq2, getD_map, eBytes_nil, take_one, Bool.or_false, Bool.or_true, Bool.true_or, Bool.false_or, Nat.reduceAdd, Nat.reduceBEq, ↓reduceIte, beq_self_eq_true, Bool.and_true, Bool.true_and, Bool.and_false, Bool.false_and, Int.toNat_natCast, Int.toNat_natCast_add_one, Int.toNat_zero, List.length_map, List.length_append, Nat.zero_add, Bool.not_true, Bool.not_false]
      | with_reducible refine callL_f (law11_lives) ?_
      | with_reducible refine callD_f (law11_lives) ?_
      | ((with_reducible refine req_d ?_ ?_); (· (first | (simp only [ne_eq, not_false_eq_true, true_and, and_true, AV.fits, AV.scalar, AV.cells, List.all_cons, List.all_nil, Bool.and_true, Bool.true_and, List.length_cons, List.length_nil, decide_true, beq_self_eq_true, apartAll, apartA, AV.obj, roomOk]; done) | omega | (simp [ne_eq, not_false_eq_true, true_and, and_true, AV.fits, AV.scalar, AV.cells, List.all_cons, List.all_nil, Bool.and_true, Bool.true_and, List.length_cons, List.length_nil, decide_true, beq_self_eq_true, apartAll, apartA, AV.obj, roomOk]; done) | (simp [ne_eq, not_false_eq_true, true_and, and_true, AV.fits, AV.scalar, AV.cells, List.all_cons, List.all_nil, Bool.and_true, Bool.true_and, List.length_cons, List.length_nil, decide_true, beq_self_eq_true, apartAll, apartA, AV.obj, roomOk]; omega) | assumption)))
      | with_reducible refine scope_no ?_
      | ((with_reducible refine b2sO_whole _ rfl ?_ ?_ ?_); (· simp); (· simp))
      | ((with_reducible refine condA_i (fun hw => ?_) (fun hw => ?_)) <;> ((try simp only [decide_eq_true_eq, decide_eq_false_iff_not, beq_iff_eq, beq_eq_false_iff_ne, Bool.not_eq_true', Bool.not_eq_false', Bool.not_true, Bool.not_false, Int.not_lt, Int.not_le, ne_eq, Int.ofNat_lt, Int.ofNat_le, not_true_eq_false, reduceCtorEq, Int.toNat_zero] at hw) <;> (try omega)))
      | ((with_reducible refine guardK_i (fun hw => ?_) (fun hw => ?_)) <;> ((try simp only [decide_eq_true_eq, decide_eq_false_iff_not, beq_iff_eq, beq_eq_false_iff_ne, Bool.not_eq_true', Bool.not_eq_false', Bool.not_true, Bool.not_false, Int.not_lt, Int.not_le, ne_eq, Int.ofNat_lt, Int.ofNat_le, not_true_eq_false, reduceCtorEq, Int.toNat_zero] at hw) <;> (try omega))))
    all_goals first | exact leafE rfl rfl | (exfalso; omega)
  obtain ⟨g1, g2, g3⟩ := hg
  have c1 := chunk_Edits pf s (by omega) (by omega)
  have c2 := ref11_Edits pf s (by omega) (by omega)
  have c3 := chunk_Clear pf (by omega)
  have c4 := ref11_Clear pf (by omega)
  have c5 := chunk_Count n h1 (by omega)
  have c6 := ref11_Count n h1 (by omega)
  have hel : (editsS pf s).1.length ≤ 2 ^ 62 := by
    unfold editsS
    split
    · split
      · simp
      · rw [pairsS_eq]
        have : cntN s.length ≤ 3000 := by unfold cntN; split <;> omega
        simp; omega
    · simp
  have c7 := ref11_SameEdits _ _ hel hel
  rw [decide_eq_true rfl] at c7
  simp only [eEdits] at c1 c2 c7
  generalize (editsS pf s).1 = es at *
  generalize (editsS pf s).2 = ee at *
  generalize (clearS pf).1 = cs at *
  generalize (clearS pf).2 = ce at *
  refine CallF.of_nil (of_law11_ChunkEdits (by simp) ?_) rfl
  unfold b_law11_ChunkEdits WpR
  intro Q hQr hQn hQp
  repeat' (first
    | simp (disch := omega) only [go_sem, hQr, hQn, hQp, Int.tdiv_eq_ediv_of_nonneg, Int.tmod_eq_emod_of_nonneg, wrapK_i64, wrapK_u8, wrapK_u64, x_get0, x_getS, x_set0, x_setS, x_getD0, x_getDS, x_lenC, x_lenN, x_drop0, x_dropS, x_take0, x_takeS, x_mapC, x_mapN, x_appC, x_appN, x_appE, x_rep0, x_repS, x_many0, x_manyS, x_cellsA, x_cellsI, x_cellsB, x_cellsS, x_cellsL, x_cellsN, x_cellsO, x_cellsR, x_cellsP, x_cellsF, x_nil1, x_nil2, x_nil3, x_contC, x_contN, boolbeq1, boolbeq2, getD_map, eBytes_nil, take_one, Bool.or_false, Bool.or_true, Bool.true_or, Bool.false_or, Nat.reduceAdd, Nat.reduceBEq, ↓reduceIte, beq_self_eq_true, Bool.and_true, Bool.true_and, Bool.and_false, Bool.false_and, Int.toNat_natCast, Int.toNat_natCast_add_one, Int.toNat_zero, List.length_map, List.length_append, Nat.zero_add, Bool.not_true, Bool.not_false]
    | with_reducible refine callL_f (c1) ?_
    | with_reducible refine callD_f (c1) ?_
    | with_reducible refine callL_f (c2) ?_
    | with_reducible refine callD_f (c2) ?_
    | with_reducible refine callL_f (c3) ?_
    | with_reducible refine callD_f (c3) ?_
    | with_reducible refine callL_f (c4) ?_
    | with_reducible refine callD_f (c4) ?_
    | with_reducible refine callL_f (c5) ?_
    | with_reducible refine callD_f (c5) ?_
    | with_reducible refine callL_f (c6) ?_
    | with_reducible refine callD_f (c6) ?_
    | with_reducible refine callL_f (c7) ?_
    | with_reducible refine callD_f (c7) ?_
    | with_reducible refine callL_f (law11_lives) ?_
    | with_reducible refine callD_f (law11_lives) ?_
    | ((with_reducible refine req_d ?_ ?_); (· (first | (simp only [ne_eq, not_false_eq_true, true_and, and_true, AV.fits, AV.scalar, AV.cells, List.all_cons, List.all_nil, Bool.and_true, Bool.true_and, List.length_cons, List.length_nil, decide_true, beq_self_eq_true, apartAll, apartA, AV.obj, roomOk]; done) | omega | (simp [ne_eq, not_false_eq_true, true_and, and_true, AV.fits, AV.scalar, AV.cells, List.all_cons, List.all_nil, Bool.and_true, Bool.true_and, List.length_cons, List.length_nil, decide_true, beq_self_eq_true, apartAll, apartA, AV.obj, roomOk]; done) | (simp [ne_eq, not_false_eq_true, true_and, and_true, AV.fits, AV.scalar, AV.cells, List.all_cons, List.all_nil, Bool.and_true, Bool.true_and, List.length_cons, List.length_nil, decide_true, beq_self_eq_true, apartAll, apartA, AV.obj, roomOk]; omega) | assumption)))
    | with_reducible refine scope_no ?_
    | ((with_reducible refine b2sO_whole _ rfl ?_ ?_ ?_); (· simp); (· simp))
    | ((with_reducible refine condA_i (fun hw => ?_) (fun hw => ?_)) <;> ((try simp only [decide_eq_true_eq, decide_eq_false_iff_not, beq_iff_eq, beq_eq_false_iff_ne, Bool.not_eq_true', Bool.not_eq_false', Bool.not_true, Bool.not_false, Int.not_lt, Int.not_le, ne_eq, Int.ofNat_lt, Int.ofNat_le, not_true_eq_false, reduceCtorEq, Int.toNat_zero] at hw) <;> (try omega)))
    | ((with_reducible refine guardK_i (fun hw => ?_) (fun hw => ?_)) <;> ((try simp only [decide_eq_true_eq, decide_eq_false_iff_not, beq_iff_eq, beq_eq_false_iff_ne, Bool.not_eq_true', Bool.not_eq_false', Bool.not_true, Bool.not_false, Int.not_lt, Int.not_le, ne_eq, Int.ofNat_lt, Int.ofNat_le, not_true_eq_false, reduceCtorEq, Int.toNat_zero] at hw) <;> (try omega))))
  all_goals (refine leafE ?_ rfl; simp)
theorem law11_short (l : List Pair) (hl : l.length ≤ 2 ^ 62) : CallF Try.prog n_law11_short [ePairs l] (.bool (decide (l.length ≤ 30) && l.all fun p => decide (p.key.length ≤ 300) && decide (p.value.length ≤ 1000))) := by
  by_cases h30 : l.length ≤ 30
  case neg =>
    rw [decide_eq_false h30, Bool.false_and]
    refine CallF.of_nil (of_law11_short (by simp) ?_) (by simp [AV.pur, AV.purL, pur_ePair, pur_eEdit, pur_ePairs, pur_eEdits, purL_p, purL_e])
    unfold b_law11_short WpR
    intro Q hQr hQn hQp
    repeat' (first
      | simp (disch := omega) only [go_sem, hQr, hQn, hQp, Int.tdiv_eq_ediv_of_nonneg, Int.tmod_eq_emod_of_nonneg, wrapK_i64, wrapK_u8, wrapK_u64, x_get0, x_getS, x_set0, x_setS, x_getD0, x_getDS, x_lenC, x_lenN, x_drop0, x_dropS, x_take0, x_takeS, x_mapC, x_mapN, x_appC, x_appN, x_appE, x_rep0, x_repS, x_many0, x_manyS, x_cellsA, x_cellsI, x_cellsB, x_cellsS, x_cellsL, x_cellsN, x_cellsO, x_cellsR, x_cellsP, x_cellsF, x_nil1, x_nil2, x_nil3, x_contC, x_contN, boolbeq1, boolbeq2, getD_map, eBytes_nil, take_one, Bool.or_false, Bool.or_true, Bool.true_or, Bool.false_or, Nat.reduceAdd, Nat.reduceBEq, ↓reduceIte, beq_self_eq_true, Bool.and_true, Bool.true_and, Bool.and_false, Bool.false_and, Int.toNat_natCast, Int.toNat_natCast_add_one, Int.toNat_zero, List.length_map, List.length_append, Nat.zero_add, Bool.not_true, Bool.not_false]
      | ((with_reducible refine req_d ?_ ?_); (· (first | (simp only [ne_eq, not_false_eq_true, true_and, and_true, AV.fits, AV.scalar, AV.cells, List.all_cons, List.all_nil, Bool.and_true, Bool.true_and, List.length_cons, List.length_nil, decide_true, beq_self_eq_true, apartAll, apartA, AV.obj, roomOk]; done) | omega | (simp [ne_eq, not_false_eq_true, true_and, and_true, AV.fits, AV.scalar, AV.cells, List.all_cons, List.all_nil, Bool.and_true, Bool.true_and, List.length_cons, List.length_nil, decide_true, beq_self_eq_true, apartAll, apartA, AV.obj, roomOk]; done) | (simp [ne_eq, not_false_eq_true, true_and, and_true, AV.fits, AV.scalar, AV.cells, List.all_cons, List.all_nil, Bool.and_true, Bool.true_and, List.length_cons, List.length_nil, decide_true, beq_self_eq_true, apartAll, apartA, AV.obj, roomOk]; omega) | assumption)))
      | with_reducible refine scope_no ?_
      | ((with_reducible refine b2sO_whole _ rfl ?_ ?_ ?_); (· simp); (· simp))
      | ((with_reducible refine condA_i (fun hw => ?_) (fun hw => ?_)) <;> ((try simp only [decide_eq_true_eq, decide_eq_false_iff_not, beq_iff_eq, beq_eq_false_iff_ne, Bool.not_eq_true', Bool.not_eq_false', Bool.not_true, Bool.not_false, Int.not_lt, Int.not_le, ne_eq, Int.ofNat_lt, Int.ofNat_le, not_true_eq_false, reduceCtorEq, Int.toNat_zero] at hw) <;> (try omega)))
      | ((with_reducible refine guardK_i (fun hw => ?_) (fun hw => ?_)) <;> ((try simp only [decide_eq_true_eq, decide_eq_false_iff_not, beq_iff_eq, beq_eq_false_iff_ne, Bool.not_eq_true', Bool.not_eq_false', Bool.not_true, Bool.not_false, Int.not_lt, Int.not_le, ne_eq, Int.ofNat_lt, Int.ofNat_le, not_true_eq_false, reduceCtorEq, Int.toNat_zero] at hw) <;> (try omega))))
    exact leafE rfl rfl
  rw [decide_eq_true h30, Bool.true_and]
  obtain ⟨p, hp⟩ : ∃ p : Pair → Bool, p = fun p => decide (p.key.length ≤ 300) && decide (p.value.length ≤ 1000) := ⟨_, rfl⟩
  rw [← hp]
  refine CallF.of_nil (of_law11_short (by simp) ?_) (by simp [AV.pur, AV.purL, pur_ePair, pur_eEdit, pur_ePairs, pur_eEdits, purL_p, purL_e])
  unfold b_law11_short WpR
  intro Q hQr hQn hQp
  repeat' (first
    | simp (disch := omega) only [go_sem, hQr, hQn, hQp, Int.tdiv_eq_ediv_of_nonneg, Int.tmod_eq_emod_of_nonneg, wrapK_i64, wrapK_u8, wrapK_u64, x_get0, x_getS, x_set0, x_setS, x_getD0, x_getDS, x_lenC, x_lenN, x_drop0, x_dropS, x_take0, x_takeS, x_mapC, x_mapN, x_appC, x_appN, x_appE, x_rep0, x_repS, x_many0, x_manyS, x_cellsA, x_cellsI, x_cellsB, x_cellsS, x_cellsL, x_cellsN, x_cellsO, x_cellsR, x_cellsP, x_cellsF, x_nil1, x_nil2, x_nil3, x_contC, x_contN, boolbeq1, boolbeq2, getD_map, eBytes_nil, take_one, Bool.or_false, Bool.or_true, Bool.true_or, Bool.false_or, Nat.reduceAdd, Nat.reduceBEq, ↓reduceIte, beq_self_eq_true, Bool.and_true, Bool.true_and, Bool.and_false, Bool.false_and, Int.toNat_natCast, Int.toNat_natCast_add_one, Int.toNat_zero, List.length_map, List.length_append, Nat.zero_add, Bool.not_true, Bool.not_false]
    | ((with_reducible refine req_d ?_ ?_); (· (first | (simp only [ne_eq, not_false_eq_true, true_and, and_true, AV.fits, AV.scalar, AV.cells, List.all_cons, List.all_nil, Bool.and_true, Bool.true_and, List.length_cons, List.length_nil, decide_true, beq_self_eq_true, apartAll, apartA, AV.obj, roomOk]; done) | omega | (simp [ne_eq, not_false_eq_true, true_and, and_true, AV.fits, AV.scalar, AV.cells, List.all_cons, List.all_nil, Bool.and_true, Bool.true_and, List.length_cons, List.length_nil, decide_true, beq_self_eq_true, apartAll, apartA, AV.obj, roomOk]; done) | (simp [ne_eq, not_false_eq_true, true_and, and_true, AV.fits, AV.scalar, AV.cells, List.all_cons, List.all_nil, Bool.and_true, Bool.true_and, List.length_cons, List.length_nil, decide_true, beq_self_eq_true, apartAll, apartA, AV.obj, roomOk]; omega) | assumption)))
    | with_reducible refine scope_no ?_
    | ((with_reducible refine b2sO_whole _ rfl ?_ ?_ ?_); (· simp); (· simp))
    | ((with_reducible refine condA_i (fun hw => ?_) (fun hw => ?_)) <;> ((try simp only [decide_eq_true_eq, decide_eq_false_iff_not, beq_iff_eq, beq_eq_false_iff_ne, Bool.not_eq_true', Bool.not_eq_false', Bool.not_true, Bool.not_false, Int.not_lt, Int.not_le, ne_eq, Int.ofNat_lt, Int.ofNat_le, not_true_eq_false, reduceCtorEq, Int.toNat_zero] at hw) <;> (try omega)))
    | ((with_reducible refine guardK_i (fun hw => ?_) (fun hw => ?_)) <;> ((try simp only [decide_eq_true_eq, decide_eq_false_iff_not, beq_iff_eq, beq_eq_false_iff_ne, Bool.not_eq_true', Bool.not_eq_false', Bool.not_true, Bool.not_false, Int.not_lt, Int.not_le, ne_eq, Int.ofNat_lt, Int.ofNat_le, not_true_eq_false, reduceCtorEq, Int.toNat_zero] at hw) <;> (try omega))))
  with_reducible refine loop_i [2, 3, 7, 8, 9, 10, 11, 12, 13, 14, 15, 16, 17, 18, 19, 20, 21, 22, 23, 24, 25, 26, 27, 28] (fun i : Nat => [(3, I i)]) (fun _ => []) (fun i => i ≤ l.length ∧ ∀ k, k < i → p (l.getD k default) = true) (fun i => l.length - i) (0) ?_ ?_ ?_ ?_
  · simp
  · rfl
  · simp (disch := omega) only [at_nil, at_cons, and_true, go_sem, hQr, hQn, hQp, Int.tdiv_eq_ediv_of_nonneg, Int.tmod_eq_emod_of_nonneg, wrapK_i64, wrapK_u8, wrapK_u64, x_get0, x_getS, x_set0, x_setS, x_getD0, x_getDS, x_lenC, x_lenN, x_drop0, x_dropS, x_take0, x_takeS, x_mapC, x_mapN, x_appC, x_appN, x_appE, x_rep0, x_repS, x_many0, x_manyS, x_cellsA, x_cellsI, x_cellsB, x_cellsS, x_cellsL, x_cellsN, x_cellsO, x_cellsR, x_cellsP, x_cellsF, x_nil1, x_nil2, x_nil3, x_contC, x_contN, boolbeq1, boolbeq2, getD_map, eBytes_nil, take_one, Bool.or_false, Bool.or_true, Bool.true_or, Bool.false_or, Nat.reduceAdd, Nat.reduceBEq, ↓reduceIte, beq_self_eq_true, Bool.and_true, Bool.true_and, Bool.and_false, Bool.false_and, Int.toNat_natCast, Int.toNat_natCast_add_one, Int.toNat_zero, List.length_map, List.length_append, Nat.zero_add, Bool.not_true, Bool.not_false, Int.natCast_add, Int.cast_ofNat_Int] <;> (try trivial) <;> (try omega) <;> (try (repeat (first | trivial | (refine And.intro ?_ ?_) | (congr 1; omega))))
  rintro i r ⟨h1, h2⟩
  by_cases hi : i < l.length
  · obtain ⟨pr, hpr⟩ : ∃ pr, l.getD i default = pr := ⟨_, rfl⟩
    have hmem : pr ∈ l := by rw [← hpr, List.getD_eq_getElem?_getD, List.getElem?_eq_getElem hi]; exact List.getElem_mem hi
    have hbad : p pr = false → l.all p = false := fun h => List.all_eq_false.2 ⟨pr, hmem, by simp [h]⟩
    have hgood : p pr = true → ∀ k, k < i + 1 → p (l.getD k default) = true := fun h => before_succ h2 (by rw [hpr]; exact h)
    repeat' (first
      | simp (disch := omega) only [go_sem, hQr, hQn, hQp, Int.tdiv_eq_ediv_of_nonneg, Int.tmod_eq_emod_of_nonneg, wrapK_i64, wrapK_u8, wrapK_u64, x_get0, x_getS, x_set0, x_setS, x_getD0, x_getDS, x_lenC, x_lenN, x_drop0, x_dropS, x_take0, x_takeS, x_mapC, x_mapN, x_appC, x_appN, x_appE, x_rep0, x_repS, x_many0, x_manyS, x_cellsA, x_cellsI, x_cellsB, x_cellsS, x_cellsL, x_cellsN, x_cellsO, x_cellsR, x_cellsP, x_cellsF, x_nil1, x_nil2, x_nil3, x_contC, x_contN, boolbeq1, boolbeq2, getD_map, eBytes_nil, take_one, Bool.or_false, Bool.or_true, Bool.true_or, Bool.false_or, Nat.reduceAdd, Nat.reduceBEq, ↓reduceIte, beq_self_eq_true, Bool.and_true, Bool.true_and, Bool.and_false, Bool.false_and, Int.toNat_natCast, Int.toNat_natCast_add_one, Int.toNat_zero, List.length_map, List.length_append, Nat.zero_add, Bool.not_true, Bool.not_false, hpr]
      | ((with_reducible refine req_d ?_ ?_); (· (first | (simp only [ne_eq, not_false_eq_true, true_and, and_true, AV.fits, AV.scalar, AV.cells, List.all_cons, List.all_nil, Bool.and_true, Bool.true_and, List.length_cons, List.length_nil, decide_true, beq_self_eq_true, apartAll, apartA, AV.obj, roomOk]; done) | omega | (simp [ne_eq, not_false_eq_true, true_and, and_true, AV.fits, AV.scalar, AV.cells, List.all_cons, List.all_nil, Bool.and_true, Bool.true_and, List.length_cons, List.length_nil, decide_true, beq_self_eq_true, apartAll, apartA, AV.obj, roomOk]; done) | (simp [ne_eq, not_false_eq_true, true_and, and_true, AV.fits, AV.scalar, AV.cells, List.all_cons, List.all_nil, Bool.and_true, Bool.true_and, List.length_cons, List.length_nil, decide_true, beq_self_eq_true, apartAll, apartA, AV.obj, roomOk]; omega) | assumption)))
      | with_reducible refine scope_no ?_
      | ((with_reducible refine b2sO_whole _ rfl ?_ ?_ ?_); (· simp); (· simp))
      | ((with_reducible refine condA_i (fun hw => ?_) (fun hw => ?_)) <;> ((try simp only [decide_eq_true_eq, decide_eq_false_iff_not, beq_iff_eq, beq_eq_false_iff_ne, Bool.not_eq_true', Bool.not_eq_false', Bool.not_true, Bool.not_false, Int.not_lt, Int.not_le, ne_eq, Int.ofNat_lt, Int.ofNat_le, not_true_eq_false, reduceCtorEq, Int.toNat_zero] at hw) <;> (try omega)))
      | ((with_reducible refine guardK_i (fun hw => ?_) (fun hw => ?_)) <;> ((try simp only [decide_eq_true_eq, decide_eq_false_iff_not, beq_iff_eq, beq_eq_false_iff_ne, Bool.not_eq_true', Bool.not_eq_false', Bool.not_true, Bool.not_false, Int.not_lt, Int.not_le, ne_eq, Int.ofNat_lt, Int.ofNat_le, not_true_eq_false, reduceCtorEq, Int.toNat_zero] at hw) <;> (try omega))))
    · exact leafE (by rw [hbad (by subst hp; simp; omega)]) rfl
    · refine ⟨i + 1, ?_, ?_, by first | rfl | (simp [go_sem]; done), (by repeat (first | exact out_ovl _ _ _ | refine out_upd rfl ?_ | refine out_ovl2 rfl ?_ | (simp only [puts_cons, puts_nil]))), (by simp (disch := omega) only [at_nil, at_cons, and_true, go_sem, hQr, hQn, hQp, Int.tdiv_eq_ediv_of_nonneg, Int.tmod_eq_emod_of_nonneg, wrapK_i64, wrapK_u8, wrapK_u64, x_get0, x_getS, x_set0, x_setS, x_getD0, x_getDS, x_lenC, x_lenN, x_drop0, x_dropS, x_take0, x_takeS, x_mapC, x_mapN, x_appC, x_appN, x_appE, x_rep0, x_repS, x_many0, x_manyS, x_cellsA, x_cellsI, x_cellsB, x_cellsS, x_cellsL, x_cellsN, x_cellsO, x_cellsR, x_cellsP, x_cellsF, x_nil1, x_nil2, x_nil3, x_contC, x_contN, boolbeq1, boolbeq2, getD_map, eBytes_nil, take_one, Bool.or_false, Bool.or_true, Bool.true_or, Bool.false_or, Nat.reduceAdd, Nat.reduceBEq, ↓reduceIte, beq_self_eq_true, Bool.and_true, Bool.true_and, Bool.and_false, Bool.false_and, Int.toNat_natCast, Int.toNat_natCast_add_one, Int.toNat_zero, List.length_map, List.length_append, Nat.zero_add, Bool.not_true, Bool.not_false, Int.natCast_add, Int.cast_ofNat_Int] <;> (try trivial) <;> (try omega) <;> (try (repeat (first | trivial | (refine And.intro ?_ ?_) | (congr 1; omega)))))⟩ <;> (try dsimp only)
      · exact ⟨by omega, hgood (by subst hp; simp; omega)⟩
      · omega
    · exact leafE (by rw [hbad (by subst hp; simp; omega)]) rfl
  · have : l.all p = true := by
      rw [List.all_eq_true]
      intro x hx
      obtain ⟨k, hk, rfl⟩ := List.getElem_of_mem hx
      have := h2 k (by omega)
      rwa [List.getD_eq_getElem?_getD, List.getElem?_eq_getElem hk] at this
    repeat' (first
      | simp (disch := omega) only [go_sem, hQr, hQn, hQp, Int.tdiv_eq_ediv_of_nonneg, Int.tmod_eq_emod_of_nonneg, wrapK_i64, wrapK_u8, wrapK_u64, x_get0, x_getS, x_set0, x_setS, x_getD0, x_getDS, x_lenC, x_lenN, x_drop0, x_dropS, x_take0, x_takeS, x_mapC, x_mapN, x_appC, x_appN, x_appE, x_rep0, x_repS, x_many0, x_manyS, x_cellsA, x_cellsI, x_cellsB, x_cellsS, x_cellsL, x_cellsN, x_cellsO, x_cellsR, x_cellsP, x_cellsF, x_nil1, x_nil2, x_nil3, x_contC, x_contN, boolbeq1, boolbeq2, getD_map, eBytes_nil, take_one, Bool.or_false, Bool.or_true, Bool.true_or, Bool.false_or, Nat.reduceAdd, Nat.reduceBEq, ↓reduceIte, beq_self_eq_true, Bool.and_true, Bool.true_and, Bool.and_false, Bool.false_and, Int.toNat_natCast, Int.toNat_natCast_add_one, Int.toNat_zero, List.length_map, List.length_append, Nat.zero_add, Bool.not_true, Bool.not_false]
      | ((with_reducible refine req_d ?_ ?_); (· (first | (simp only [ne_eq, not_false_eq_true, true_and, and_true, AV.fits, AV.scalar, AV.cells, List.all_cons, List.all_nil, Bool.and_true, Bool.true_and, List.length_cons, List.length_nil, decide_true, beq_self_eq_true, apartAll, apartA, AV.obj, roomOk]; done) | omega | (simp [ne_eq, not_false_eq_true, true_and, and_true, AV.fits, AV.scalar, AV.cells, List.all_cons, List.all_nil, Bool.and_true, Bool.true_and, List.length_cons, List.length_nil, decide_true, beq_self_eq_true, apartAll, apartA, AV.obj, roomOk]; done) | (simp [ne_eq, not_false_eq_true, true_and, and_true, AV.fits, AV.scalar, AV.cells, List.all_cons, List.all_nil, Bool.and_true, Bool.true_and, List.length_cons, List.length_nil, decide_true, beq_self_eq_true, apartAll, apartA, AV.obj, roomOk]; omega) | assumption)))
      | with_reducible refine scope_no ?_
      | ((with_reducible refine b2sO_whole _ rfl ?_ ?_ ?_); (· simp); (· simp))
      | ((with_reducible refine condA_i (fun hw => ?_) (fun hw => ?_)) <;> ((try simp only [decide_eq_true_eq, decide_eq_false_iff_not, beq_iff_eq, beq_eq_false_iff_ne, Bool.not_eq_true', Bool.not_eq_false', Bool.not_true, Bool.not_false, Int.not_lt, Int.not_le, ne_eq, Int.ofNat_lt, Int.ofNat_le, not_true_eq_false, reduceCtorEq, Int.toNat_zero] at hw) <;> (try omega)))
      | ((with_reducible refine guardK_i (fun hw => ?_) (fun hw => ?_)) <;> ((try simp only [decide_eq_true_eq, decide_eq_false_iff_not, beq_iff_eq, beq_eq_false_iff_ne, Bool.not_eq_true', Bool.not_eq_false', Bool.not_true, Bool.not_false, Int.not_lt, Int.not_le, ne_eq, Int.ofNat_lt, Int.ofNat_le, not_true_eq_false, reduceCtorEq, Int.toNat_zero] at hw) <;> (try omega))))
    exact leafE (by rw [this]) rfl
theorem law11_ChunkJoins (pf : Str) (l : List Pair) (hl : l.length ≤ 2 ^ 50) : CallF Try.prog n_law11_ChunkJoins [.str pf, ePairs l] (.bool true) := by
  have hsh := law11_short l (by omega)
  simp only [ePairs] at hsh
  by_cases hg : pf.length ≤ 300
  case neg =>
    refine CallF.of_nil (of_law11_ChunkJoins (by simp) ?_) (by simp [AV.pur, AV.purL, pur_ePair, pur_eEdit, pur_ePairs, pur_eEdits, purL_p, purL_e])
    unfold b_law11_ChunkJoins WpR
    intro Q hQr hQn hQp
    repeat' (first
      | simp (disch := omega) only [go_sem, hQr, hQn, hQp, Int.tdiv_eq_ediv_of_nonneg, Int.tmod_eq_emod_of_nonneg, wrapK_i64, wrapK_u8, wrapK_u64, x_get0, x_getS, x_set0, x_setS, x_getD0, x_getDS, x_lenC, x_lenN, x_drop0, x_dropS, x_take0, x_takeS, x_mapC, x_mapN, x_appC, x_appN, x_appE, x_rep0, x_repS, x_many0, x_manyS, x_cellsA, x_cellsI, x_cellsB, x_cellsS, x_cellsL, x_cellsN, x_cellsO, x_cellsR, x_cellsP, x_cellsF, x_nil1, x_nil2, x_nil3, x_contC, x_contN, boolbeq1, boolbeq2, getD_map, eBytes_nil, take_one, Bool.or_false, Bool.or_true, Bool.true_or, Bool.false_or, Nat.reduceAdd, Nat.reduceBEq, ↓reduceIte, beq_self_eq_true, Bool.and_true, Bool.true_and, Bool.and_false, Bool.false_and, Int.toNat_natCast, Int.toNat_natCast_add_one, Int.toNat_zero, List.length_map, List.length_append, Nat.zero_add, Bool.not_true, Bool.not_false]
      | with_reducible refine callL_f (hsh) ?_
      | with_reducible refine callD_f (hsh) ?_
      | with_reducible refine callL_f (law11_lives) ?_
      | with_reducible refine callD_f (law11_lives) ?_
      | ((with_reducible refine req_d ?_ ?_); (· (first | (simp only [ne_eq, not_false_eq_true, true_and, and_true, AV.fits, AV.scalar, AV.cells, List.all_cons, List.all_nil, Bool.and_true, Bool.true_and, List.length_cons, List.length_nil, decide_true, beq_self_eq_true, apartAll, apartA, AV.obj, roomOk]; done) | omega | (simp [ne_eq, not_false_eq_true, true_and, and_true, AV.fits, AV.scalar, AV.cells, List.all_cons, List.all_nil, Bool.and_true, Bool.true_and, List.length_cons, List.length_nil, decide_true, beq_self_eq_true, apartAll, apartA, AV.obj, roomOk]; done) | (simp [ne_eq, not_false_eq_true, true_and, and_true, AV.fits, AV.scalar, AV.cells, List.all_cons, List.all_nil, Bool.and_true, Bool.true_and, List.length_cons, List.length_nil, decide_true, beq_self_eq_true, apartAll, apartA, AV.obj, roomOk]; omega) | assumption)))
      | with_reducible refine scope_no ?_
      | ((with_reducible refine b2sO_whole _ rfl ?_ ?_ ?_); (· simp); (· simp))
      | ((with_reducible refine condA_i (fun hw => ?_) (fun hw => ?_)) <;> ((try simp only [decide_eq_true_eq, decide_eq_false_iff_not, beq_iff_eq, beq_eq_false_iff_ne, Bool.not_eq_true', Bool.not_eq_false', Bool.not_true, Bool.not_false, Int.not_lt, Int.not_le, ne_eq, Int.ofNat_lt, Int.ofNat_le, not_true_eq_false, reduceCtorEq, Int.toNat_zero] at hw) <;> (try omega)))
      | ((with_reducible refine guardK_i (fun hw => ?_) (fun hw => ?_)) <;> ((try simp only [decide_eq_true_eq, decide_eq_false_iff_not, beq_iff_eq, beq_eq_false_iff_ne, Bool.not_eq_true', Bool.not_eq_false', Bool.not_true, Bool.not_false, Int.not_lt, Int.not_le, ne_eq, Int.ofNat_lt, Int.ofNat_le, not_true_eq_false, reduceCtorEq, Int.toNat_zero] at hw) <;> (try omega))))
    all_goals first | exact leafE rfl rfl | (exfalso; omega)
  generalize hb : (decide (l.length ≤ 30) && l.all fun p => decide (p.key.length ≤ 300) && decide (p.value.length ≤ 1000)) = b at hsh
  cases b with
  | false =>
    refine CallF.of_nil (of_law11_ChunkJoins (by simp) ?_) (by simp [AV.pur, AV.purL, pur_ePair, pur_eEdit, pur_ePairs, pur_eEdits, purL_p, purL_e])
    unfold b_law11_ChunkJoins WpR
    intro Q hQr hQn hQp
    repeat' (first
      | simp (disch := omega) only [go_sem, hQr, hQn, hQp, Int.tdiv_eq_ediv_of_nonneg, Int.tmod_eq_emod_of_nonneg, wrapK_i64, wrapK_u8, wrapK_u64, x_get0, x_getS, x_set0, x_setS, x_getD0, x_getDS, x_lenC, x_lenN, x_drop0, x_dropS, x_take0, x_takeS, x_mapC, x_mapN, x_appC, x_appN, x_appE, x_rep0, x_repS, x_many0, x_manyS, x_cellsA, x_cellsI, x_cellsB, x_cellsS, x_cellsL, x_cellsN, x_cellsO, x_cellsR, x_cellsP, x_cellsF, x_nil1, x_nil2, x_nil3, x_contC, x_contN, boolbeq1, boolbeq2, getD_map, eBytes_nil, take_one, Bool.or_false, Bool.or_true, Bool.true_or, Bool.false_or, Nat.reduceAdd, Nat.reduceBEq, ↓reduceIte, beq_self_eq_true, Bool.and_true, Bool.true_and, Bool.and_false, Bool.false_and, Int.toNat_natCast, Int.toNat_natCast_add_one, Int.toNat_zero, List.length_map, List.length_append, Nat.zero_add, Bool.not_true, Bool.not_false]
      | with_reducible refine callL_f (hsh) ?_
      | with_reducible refine callD_f (hsh) ?_
      | with_reducible refine callL_f (law11_lives) ?_
      | with_reducible refine callD_f (law11_lives) ?_
      | ((with_reducible refine req_d ?_ ?_); (· (first | (simp only [ne_eq, not_false_eq_true, true_and, and_true, AV.fits, AV.scalar, AV.cells, List.all_cons, List.all_nil, Bool.and_true, Bool.true_and, List.length_cons, List.length_nil, decide_true, beq_self_eq_true, apartAll, apartA, AV.obj, roomOk]; done) | omega | (simp [ne_eq, not_false_eq_true, true_and, and_true, AV.fits, AV.scalar, AV.cells, List.all_cons, List.all_nil, Bool.and_true, Bool.true_and, List.length_cons, List.length_nil, decide_true, beq_self_eq_true, apartAll, apartA, AV.obj, roomOk]; done) | (simp [ne_eq, not_false_eq_true, true_and, and_true, AV.fits, AV.scalar, AV.cells, List.all_cons, List.all_nil, Bool.and_true, Bool.true_and, List.length_cons, List.length_nil, decide_true, beq_self_eq_true, apartAll, apartA, AV.obj, roomOk]; omega) | assumption)))
      | with_reducible refine scope_no ?_
      | ((with_reducible refine b2sO_whole _ rfl ?_ ?_ ?_); (· simp); (· simp))
      | ((with_reducible refine condA_i (fun hw => ?_) (fun hw => ?_)) <;> ((try simp only [decide_eq_true_eq, decide_eq_false_iff_not, beq_iff_eq, beq_eq_false_iff_ne, Bool.not_eq_true', Bool.not_eq_false', Bool.not_true, Bool.not_false, Int.not_lt, Int.not_le, ne_eq, Int.ofNat_lt, Int.ofNat_le, not_true_eq_false, reduceCtorEq, Int.toNat_zero] at hw) <;> (try omega)))
      | ((with_reducible refine guardK_i (fun hw => ?_) (fun hw => ?_)) <;> ((try simp only [decide_eq_true_eq, decide_eq_false_iff_not, beq_iff_eq, beq_eq_false_iff_ne, Bool.not_eq_true', Bool.not_eq_false', Bool.not_true, Bool.not_false, Int.not_lt, Int.not_le, ne_eq, Int.ofNat_lt, Int.ofNat_le, not_true_eq_false, reduceCtorEq, Int.toNat_zero] at hw) <;> (try omega))))
    all_goals first | exact leafE rfl rfl | (exfalso; omega)
  | true =>
    have hv : ∀ k, k < l.length → (l.getD k default).value.length ≤ 2 ^ 50 := fun k hk => by
      simp only [Bool.and_eq_true, List.all_eq_true, decide_eq_true_eq] at hb
      have := hb.2 (l.getD k default) (by rw [List.getD_eq_getElem?_getD, List.getElem?_eq_getElem hk]; exact List.getElem_mem hk)
      omega
    have c1 := chunk_Join pf l (by omega) hl
    have c2 := ref11_Join pf l (by omega) hl hv
    simp only [ePairs] at c1 c2
    generalize (joinS pf l).1 = js at *
    generalize (joinS pf l).2 = je at *
    refine CallF.of_nil (of_law11_ChunkJoins (by simp) ?_) (by simp [AV.pur, AV.purL, pur_ePair, pur_eEdit, pur_ePairs, pur_eEdits, purL_p, purL_e])
    unfold b_law11_ChunkJoins WpR
    intro Q hQr hQn hQp
    repeat' (first
      | simp (disch := omega) only [go_sem, hQr, hQn, hQp, Int.tdiv_eq_ediv_of_nonneg, Int.tmod_eq_emod_of_nonneg, wrapK_i64, wrapK_u8, wrapK_u64, x_get0, x_getS, x_set0, x_setS, x_getD0, x_getDS, x_lenC, x_lenN, x_drop0, x_dropS, x_take0, x_takeS, x_mapC, x_mapN, x_appC, x_appN, x_appE, x_rep0, x_repS, x_many0, x_manyS, x_cellsA, x_cellsI, x_cellsB, x_cellsS, x_cellsL, x_cellsN, x_cellsO, x_cellsR, x_cellsP, x_cellsF, x_nil1, x_nil2, x_nil3, x_contC, x_contN, boolbeq1, boolbeq2, getD_map, eBytes_nil, take_one, Bool.or_false, Bool.or_true, Bool.true_or, Bool.false_or, Nat.reduceAdd, Nat.reduceBEq, ↓reduceIte, beq_self_eq_true, Bool.and_true, Bool.true_and, Bool.and_false, Bool.false_and, Int.toNat_natCast, Int.toNat_natCast_add_one, Int.toNat_zero, List.length_map, List.length_append, Nat.zero_add, Bool.not_true, Bool.not_false]
      | with_reducible refine callL_f (hsh) ?_
      | with_reducible refine callD_f (hsh) ?_
      | with_reducible refine callL_f (c1) ?_
      | with_reducible refine callD_f (c1) ?_
      | with_reducible refine callL_f (c2) ?_
      | with_reducible refine callD_f (c2) ?_
      | with_reducible refine callL_f (law11_lives) ?_
      | with_reducible refine callD_f (law11_lives) ?_
      | ((with_reducible refine req_d ?_ ?_); (· (first | (simp only [ne_eq, not_false_eq_true, true_and, and_true, AV.fits, AV.scalar, AV.cells, List.all_cons, List.all_nil, Bool.and_true, Bool.true_and, List.length_cons, List.length_nil, decide_true, beq_self_eq_true, apartAll, apartA, AV.obj, roomOk]; done) | omega | (simp [ne_eq, not_false_eq_true, true_and, and_true, AV.fits, AV.scalar, AV.cells, List.all_cons, List.all_nil, Bool.and_true, Bool.true_and, List.length_cons, List.length_nil, decide_true, beq_self_eq_true, apartAll, apartA, AV.obj, roomOk]; done) | (simp [ne_eq, not_false_eq_true, true_and, and_true, AV.fits, AV.scalar, AV.cells, List.all_cons, List.all_nil, Bool.and_true, Bool.true_and, List.length_cons, List.length_nil, decide_true, beq_self_eq_true, apartAll, apartA, AV.obj, roomOk]; omega) | assumption)))
      | with_reducible refine scope_no ?_
      | ((with_reducible refine b2sO_whole _ rfl ?_ ?_ ?_); (· simp); (· simp))
      | ((with_reducible refine condA_i (fun hw => ?_) (fun hw => ?_)) <;> ((try simp only [decide_eq_true_eq, decide_eq_false_iff_not, beq_iff_eq, beq_eq_false_iff_ne, Bool.not_eq_true', Bool.not_eq_false', Bool.not_true, Bool.not_false, Int.not_lt, Int.not_le, ne_eq, Int.ofNat_lt, Int.ofNat_le, not_true_eq_false, reduceCtorEq, Int.toNat_zero] at hw) <;> (try omega)))
      | ((with_reducible refine guardK_i (fun hw => ?_) (fun hw => ?_)) <;> ((try simp only [decide_eq_true_eq, decide_eq_false_iff_not, beq_iff_eq, beq_eq_false_iff_ne, Bool.not_eq_true', Bool.not_eq_false', Bool.not_true, Bool.not_false, Int.not_lt, Int.not_le, ne_eq, Int.ofNat_lt, Int.ofNat_le, not_true_eq_false, reduceCtorEq, Int.toNat_zero] at hw) <;> (try omega))))
    all_goals (refine leafE ?_ rfl; simp)
end Go.Proofs.Ytkimohopfhgcjaa
