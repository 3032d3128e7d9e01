/- Chunks: joined by the program. -/
import Derived.Test.YtkimohopfhgcjaaC5
namespace Go.Proofs.Ytkimohopfhgcjaa
set_option linter.unnecessarySimpa false
open Go.AM
set_option linter.unusedSimpArgs false
set_option linter.unusedVariables false
set_option maxRecDepth 4000
theorem Bld.push {σ : Store} {l : Nat} {s : Str} (h : Bld σ l s) (ρ : Store) : Bld (σ ++ ρ) l s := by
  obtain ⟨p, v, h1, h2, h3⟩ := h
  refine ⟨p, v, by rw [List.getElem?_append_left (lt_of h1)]; exact h1, h2, ?_⟩
  rcases h3 with h3 | ⟨h3, k, h4, h5, h6⟩
  · exact .inl h3
  · exact .inr ⟨h3, k, h4, h5, by rw [List.getElem?_append_left (lt_of h6)]; exact h6⟩
/-- The objects ahead of the loop. -/
abbrev S4 (l : List Pair) (d : AObj) (τ : Store) : Store := .cells [.lst false EP (l.map ePair)] :: .cells [.str []] :: .cells [.int .i64 0] :: d :: τ
theorem S4_beside {l : List Pair} {d : AObj} {τ σ' : Store} {s : Str} (hb : Beside 3 (S4 l d τ) σ') (h : Bld σ' 3 s) : ∃ d' τ', σ' = S4 l d' τ' := by
  obtain ⟨p, v, h1, _⟩ := h
  obtain ⟨τ', rfl⟩ := heads4 (hb.2 0 _ rfl (by decide) (fun _ _ => by simp)) (hb.2 1 _ rfl (by decide) (fun _ _ => by simp)) (hb.2 2 _ rfl (by decide) (fun _ _ => by simp)) h1
  exact ⟨_, _, rfl⟩
theorem S4_beside3 {l : List Pair} {d : AObj} {τ σ' : Store} (hb : Beside 3 (S4 l d τ) σ') : ∃ τ', σ' = .cells [.lst false EP (l.map ePair)] :: .cells [.str []] :: .cells [.int .i64 0] :: τ' :=
  heads3 (hb.2 0 _ rfl (by decide) (fun _ _ => by simp)) (hb.2 1 _ rfl (by decide) (fun _ _ => by simp)) (hb.2 2 _ rfl (by decide) (fun _ _ => by simp))
theorem chunk_Join (pf : Str) (l : List Pair) (hp : pf.length ≤ 2 ^ 50) (hl : l.length ≤ 2 ^ 50) : CallF Try.prog n_chunk_Join [.str pf, ePairs l] (.tup [.str (joinS pf l).1, I (joinS pf l).2]) := by
  have hcr := chunk_right pf (by omega)
  by_cases hr : rightP pf = true
  case neg =>
    have e2 : joinS pf l = ([], 2) := by unfold joinS; rw [if_neg hr]
    rw [e2]
    have hr' : rightP pf = false := by simpa using hr
    rw [hr'] at hcr
    refine CallF.of_nil (of_chunk_Join (by simp) ?_) (by simp [AV.pur, AV.purL, pur_ePair, pur_eEdit, pur_ePairs, pur_eEdits, purL_p, purL_e])
    unfold b_chunk_Join WpR
    intro Q hQr hQn hQp
    repeat' (first
      | simp (disch := omega) only [go_sem, hQr, hQn, hQp, Int.tdiv_eq_ediv_of_nonneg, Int.tmod_eq_emod_of_nonneg, wrapK_i64, wrapK_u8, wrapK_u64, x_get0, x_getS, x_set0, x_setS, x_getD0, x_getDS, x_lenC, x_lenN, x_drop0, x_dropS, x_take0, x_takeS, x_mapC, x_mapN, x_appC, x_appN, x_appE, x_rep0, x_repS, x_many0, x_manyS, x_cellsA, x_cellsI, x_cellsB, x_cellsS, x_cellsL, x_cellsN, x_cellsO, x_cellsR, x_cellsP, x_cellsF, x_nil1, x_nil2, x_nil3, x_contC, x_contN, boolbeq1, boolbeq2, getD_map, eBytes_nil, take_one, Bool.or_false, Bool.or_true, Bool.true_or, Bool.false_or, Nat.reduceAdd, Nat.reduceBEq, ↓reduceIte, beq_self_eq_true, Bool.and_true, Bool.true_and, Bool.and_false, Bool.false_and, Int.toNat_natCast, Int.toNat_natCast_add_one, Int.toNat_zero, List.length_map, List.length_append, Nat.zero_add, Bool.not_true, Bool.not_false]
      | with_reducible refine callL_f (hcr) ?_
      | with_reducible refine callD_f (hcr) ?_
      | ((with_reducible refine req_d ?_ ?_); (· (first | (simp only [ne_eq, not_false_eq_true, true_and, and_true, AV.fits, AV.scalar, AV.cells, List.all_cons, List.all_nil, Bool.and_true, Bool.true_and, List.length_cons, List.length_nil, decide_true, beq_self_eq_true, apartAll, apartA, AV.obj, roomOk]; done) | omega | (simp [ne_eq, not_false_eq_true, true_and, and_true, AV.fits, AV.scalar, AV.cells, List.all_cons, List.all_nil, Bool.and_true, Bool.true_and, List.length_cons, List.length_nil, decide_true, beq_self_eq_true, apartAll, apartA, AV.obj, roomOk]; done) | (simp [ne_eq, not_false_eq_true, true_and, and_true, AV.fits, AV.scalar, AV.cells, List.all_cons, List.all_nil, Bool.and_true, Bool.true_and, List.length_cons, List.length_nil, decide_true, beq_self_eq_true, apartAll, apartA, AV.obj, roomOk]; omega) | assumption)))
      | with_reducible refine scope_no ?_
      | ((with_reducible refine b2sO_whole _ rfl ?_ ?_ ?_); (· simp); (· simp))
      | ((with_reducible refine condA_i (fun hw => ?_) (fun hw => ?_)) <;> ((try simp only [decide_eq_true_eq, decide_eq_false_iff_not, beq_iff_eq, beq_eq_false_iff_ne, Bool.not_eq_true', Bool.not_eq_false', Bool.not_true, Bool.not_false, Int.not_lt, Int.not_le, ne_eq, Int.ofNat_lt, Int.ofNat_le, not_true_eq_false, reduceCtorEq, Int.toNat_zero] at hw) <;> (try omega)))
      | ((with_reducible refine guardK_i (fun hw => ?_) (fun hw => ?_)) <;> ((try simp only [decide_eq_true_eq, decide_eq_false_iff_not, beq_iff_eq, beq_eq_false_iff_ne, Bool.not_eq_true', Bool.not_eq_false', Bool.not_true, Bool.not_false, Int.not_lt, Int.not_le, ne_eq, Int.ofNat_lt, Int.ofNat_le, not_true_eq_false, reduceCtorEq, Int.toNat_zero] at hw) <;> (try omega))))
    refine leafNE rfl rfl
  rw [hr] at hcr
  by_cases h0 : l = []
  · have e2 : joinS pf l = ([], 6) := by unfold joinS; rw [if_pos hr, if_pos h0]
    rw [e2]
    subst h0
    refine CallF.of_nil (of_chunk_Join (by simp) ?_) (by simp [AV.pur, AV.purL, pur_ePair, pur_eEdit, pur_ePairs, pur_eEdits, purL_p, purL_e])
    unfold b_chunk_Join WpR
    intro Q hQr hQn hQp
    repeat' (first
      | simp (disch := omega) only [go_sem, hQr, hQn, hQp, Int.tdiv_eq_ediv_of_nonneg, Int.tmod_eq_emod_of_nonneg, wrapK_i64, wrapK_u8, wrapK_u64, x_get0, x_getS, x_set0, x_setS, x_getD0, x_getDS, x_lenC, x_lenN, x_drop0, x_dropS, x_take0, x_takeS, x_mapC, x_mapN, x_appC, x_appN, x_appE, x_rep0, x_repS, x_many0, x_manyS, x_cellsA, x_cellsI, x_cellsB, x_cellsS, x_cellsL, x_cellsN, x_cellsO, x_cellsR, x_cellsP, x_cellsF, x_nil1, x_nil2, x_nil3, x_contC, x_contN, boolbeq1, boolbeq2, getD_map, eBytes_nil, take_one, Bool.or_false, Bool.or_true, Bool.true_or, Bool.false_or, Nat.reduceAdd, Nat.reduceBEq, ↓reduceIte, beq_self_eq_true, Bool.and_true, Bool.true_and, Bool.and_false, Bool.false_and, Int.toNat_natCast, Int.toNat_natCast_add_one, Int.toNat_zero, List.length_map, List.length_append, Nat.zero_add, Bool.not_true, Bool.not_false]
      | with_reducible refine callL_f (hcr) ?_
      | with_reducible refine callD_f (hcr) ?_
      | ((with_reducible refine req_d ?_ ?_); (· (first | (simp only [ne_eq, not_false_eq_true, true_and, and_true, AV.fits, AV.scalar, AV.cells, List.all_cons, List.all_nil, Bool.and_true, Bool.true_and, List.length_cons, List.length_nil, decide_true, beq_self_eq_true, apartAll, apartA, AV.obj, roomOk]; done) | omega | (simp [ne_eq, not_false_eq_true, true_and, and_true, AV.fits, AV.scalar, AV.cells, List.all_cons, List.all_nil, Bool.and_true, Bool.true_and, List.length_cons, List.length_nil, decide_true, beq_self_eq_true, apartAll, apartA, AV.obj, roomOk]; done) | (simp [ne_eq, not_false_eq_true, true_and, and_true, AV.fits, AV.scalar, AV.cells, List.all_cons, List.all_nil, Bool.and_true, Bool.true_and, List.length_cons, List.length_nil, decide_true, beq_self_eq_true, apartAll, apartA, AV.obj, roomOk]; omega) | assumption)))
      | with_reducible refine scope_no ?_
      | ((with_reducible refine b2sO_whole _ rfl ?_ ?_ ?_); (· simp); (· simp))
      | ((with_reducible refine condA_i (fun hw => ?_) (fun hw => ?_)) <;> ((try simp only [decide_eq_true_eq, decide_eq_false_iff_not, beq_iff_eq, beq_eq_false_iff_ne, Bool.not_eq_true', Bool.not_eq_false', Bool.not_true, Bool.not_false, Int.not_lt, Int.not_le, ne_eq, Int.ofNat_lt, Int.ofNat_le, not_true_eq_false, reduceCtorEq, Int.toNat_zero] at hw) <;> (try omega)))
      | ((with_reducible refine guardK_i (fun hw => ?_) (fun hw => ?_)) <;> ((try simp only [decide_eq_true_eq, decide_eq_false_iff_not, beq_iff_eq, beq_eq_false_iff_ne, Bool.not_eq_true', Bool.not_eq_false', Bool.not_true, Bool.not_false, Int.not_lt, Int.not_le, ne_eq, Int.ofNat_lt, Int.ofNat_le, not_true_eq_false, reduceCtorEq, Int.toNat_zero] at hw) <;> (try omega))))
    refine leafNE rfl rfl
  have hpos : 0 < l.length := List.length_pos_iff.2 h0
  have e2 : joinS pf l = if goodJ pf l then (catS l, 0) else ([], 4) := by unfold joinS; rw [if_pos hr, if_neg h0]
  rw [e2]
  refine CallF.of_nil (of_chunk_Join (by simp) ?_) (by simp [AV.pur, AV.purL, pur_ePair, pur_eEdit, pur_ePairs, pur_eEdits, purL_p, purL_e])
  unfold b_chunk_Join WpR
  intro Q hQr hQn hQp
  repeat' (first
    | simp (disch := omega) only [go_sem, hQr, hQn, hQp, Int.tdiv_eq_ediv_of_nonneg, Int.tmod_eq_emod_of_nonneg, wrapK_i64, wrapK_u8, wrapK_u64, x_get0, x_getS, x_set0, x_setS, x_getD0, x_getDS, x_lenC, x_lenN, x_drop0, x_dropS, x_take0, x_takeS, x_mapC, x_mapN, x_appC, x_appN, x_appE, x_rep0, x_repS, x_many0, x_manyS, x_cellsA, x_cellsI, x_cellsB, x_cellsS, x_cellsL, x_cellsN, x_cellsO, x_cellsR, x_cellsP, x_cellsF, x_nil1, x_nil2, x_nil3, x_contC, x_contN, boolbeq1, boolbeq2, getD_map, eBytes_nil, take_one, Bool.or_false, Bool.or_true, Bool.true_or, Bool.false_or, Nat.reduceAdd, Nat.reduceBEq, ↓reduceIte, beq_self_eq_true, Bool.and_true, Bool.true_and, Bool.and_false, Bool.false_and, Int.toNat_natCast, Int.toNat_natCast_add_one, Int.toNat_zero, List.length_map, List.length_append, Nat.zero_add, Bool.not_true, Bool.not_false]
    | with_reducible refine callL_f (hcr) ?_
    | with_reducible refine callD_f (hcr) ?_
    | ((with_reducible refine req_d ?_ ?_); (· (first | (simp only [ne_eq, not_false_eq_true, true_and, and_true, AV.fits, AV.scalar, AV.cells, List.all_cons, List.all_nil, Bool.and_true, Bool.true_and, List.length_cons, List.length_nil, decide_true, beq_self_eq_true, apartAll, apartA, AV.obj, roomOk]; done) | omega | (simp [ne_eq, not_false_eq_true, true_and, and_true, AV.fits, AV.scalar, AV.cells, List.all_cons, List.all_nil, Bool.and_true, Bool.true_and, List.length_cons, List.length_nil, decide_true, beq_self_eq_true, apartAll, apartA, AV.obj, roomOk]; done) | (simp [ne_eq, not_false_eq_true, true_and, and_true, AV.fits, AV.scalar, AV.cells, List.all_cons, List.all_nil, Bool.and_true, Bool.true_and, List.length_cons, List.length_nil, decide_true, beq_self_eq_true, apartAll, apartA, AV.obj, roomOk]; omega) | assumption)))
    | with_reducible refine scope_no ?_
    | ((with_reducible refine b2sO_whole _ rfl ?_ ?_ ?_); (· simp); (· simp))
    | ((with_reducible refine condA_i (fun hw => ?_) (fun hw => ?_)) <;> ((try simp only [decide_eq_true_eq, decide_eq_false_iff_not, beq_iff_eq, beq_eq_false_iff_ne, Bool.not_eq_true', Bool.not_eq_false', Bool.not_true, Bool.not_false, Int.not_lt, Int.not_le, ne_eq, Int.ofNat_lt, Int.ofNat_le, not_true_eq_false, reduceCtorEq, Int.toNat_zero] at hw) <;> (try omega)))
    | ((with_reducible refine guardK_i (fun hw => ?_) (fun hw => ?_)) <;> ((try simp only [decide_eq_true_eq, decide_eq_false_iff_not, beq_iff_eq, beq_eq_false_iff_ne, Bool.not_eq_true', Bool.not_eq_false', Bool.not_true, Bool.not_false, Int.not_lt, Int.not_le, ne_eq, Int.ofNat_lt, Int.ofNat_le, not_true_eq_false, reduceCtorEq, Int.toNat_zero] at hw) <;> (try omega))))
  with_reducible refine loop_i [8, 23, 24, 25, 26, 27, 28, 29, 30, 31, 32, 33, 34, 35, 36, 37, 38] (fun q : Nat × AObj × Store => [(23, I q.1)]) (fun q => S4 l q.2.1 q.2.2) (fun q => q.1 ≤ l.length ∧ Bld (S4 l q.2.1 q.2.2) 3 (catS (l.take q.1)) ∧ (catS (l.take q.1)).length ≤ 1550) (fun q => l.length - q.1) (0, .cellsT (some TB) [.nilp, .nils], []) ?_ ?_ ?_ ?_
  · refine ⟨Nat.zero_le _, ⟨_, _, rfl, .inl rfl, .inl ⟨rfl, rfl⟩⟩, by simp [catS]⟩
  · rfl
  · simp (disch := omega) only [at_nil, at_cons, and_true, go_sem, hQr, hQn, hQp, Int.tdiv_eq_ediv_of_nonneg, Int.tmod_eq_emod_of_nonneg, wrapK_i64, wrapK_u8, wrapK_u64, x_get0, x_getS, x_set0, x_setS, x_getD0, x_getDS, x_lenC, x_lenN, x_drop0, x_dropS, x_take0, x_takeS, x_mapC, x_mapN, x_appC, x_appN, x_appE, x_rep0, x_repS, x_many0, x_manyS, x_cellsA, x_cellsI, x_cellsB, x_cellsS, x_cellsL, x_cellsN, x_cellsO, x_cellsR, x_cellsP, x_cellsF, x_nil1, x_nil2, x_nil3, x_contC, x_contN, boolbeq1, boolbeq2, getD_map, eBytes_nil, take_one, Bool.or_false, Bool.or_true, Bool.true_or, Bool.false_or, Nat.reduceAdd, Nat.reduceBEq, ↓reduceIte, beq_self_eq_true, Bool.and_true, Bool.true_and, Bool.and_false, Bool.false_and, Int.toNat_natCast, Int.toNat_natCast_add_one, Int.toNat_zero, List.length_map, List.length_append, Nat.zero_add, Bool.not_true, Bool.not_false, Int.natCast_add, Int.cast_ofNat_Int] <;> (try trivial) <;> (try omega) <;> (try (repeat (first | trivial | (refine And.intro ?_ ?_) | (congr 1; omega))))
  rintro ⟨i, d, τ⟩ r ⟨h1, h2, h3⟩
  dsimp only at h1 h2 h3
  have hcl := catS_le l i
  by_cases hi : i < l.length
  · obtain ⟨pr, hpr⟩ : ∃ pr, l.getD i default = pr := ⟨_, rfl⟩
    try unfold S4
    repeat' (first
      | simp (disch := omega) only [go_sem, hQr, hQn, hQp, Int.tdiv_eq_ediv_of_nonneg, Int.tmod_eq_emod_of_nonneg, wrapK_i64, wrapK_u8, wrapK_u64, x_get0, x_getS, x_set0, x_setS, x_getD0, x_getDS, x_lenC, x_lenN, x_drop0, x_dropS, x_take0, x_takeS, x_mapC, x_mapN, x_appC, x_appN, x_appE, x_rep0, x_repS, x_many0, x_manyS, x_cellsA, x_cellsI, x_cellsB, x_cellsS, x_cellsL, x_cellsN, x_cellsO, x_cellsR, x_cellsP, x_cellsF, x_nil1, x_nil2, x_nil3, x_contC, x_contN, boolbeq1, boolbeq2, getD_map, eBytes_nil, take_one, Bool.or_false, Bool.or_true, Bool.true_or, Bool.false_or, Nat.reduceAdd, Nat.reduceBEq, ↓reduceIte, beq_self_eq_true, Bool.and_true, Bool.true_and, Bool.and_false, Bool.false_and, Int.toNat_natCast, Int.toNat_natCast_add_one, Int.toNat_zero, List.length_map, List.length_append, Nat.zero_add, Bool.not_true, Bool.not_false, hpr]
      | with_reducible refine callL_any (Builder_Len _ 3 _ (Bld.push h2 _)) ?_
      | ((with_reducible refine req_d ?_ ?_); (· (first | (simp only [ne_eq, not_false_eq_true, true_and, and_true, AV.fits, AV.scalar, AV.cells, List.all_cons, List.all_nil, Bool.and_true, Bool.true_and, List.length_cons, List.length_nil, decide_true, beq_self_eq_true, apartAll, apartA, AV.obj, roomOk]; done) | omega | (simp [ne_eq, not_false_eq_true, true_and, and_true, AV.fits, AV.scalar, AV.cells, List.all_cons, List.all_nil, Bool.and_true, Bool.true_and, List.length_cons, List.length_nil, decide_true, beq_self_eq_true, apartAll, apartA, AV.obj, roomOk]; done) | (simp [ne_eq, not_false_eq_true, true_and, and_true, AV.fits, AV.scalar, AV.cells, List.all_cons, List.all_nil, Bool.and_true, Bool.true_and, List.length_cons, List.length_nil, decide_true, beq_self_eq_true, apartAll, apartA, AV.obj, roomOk]; omega) | assumption)))
      | with_reducible refine scope_no ?_
      | ((with_reducible refine b2sO_whole _ rfl ?_ ?_ ?_); (· simp); (· simp))
      | ((with_reducible refine condA_i (fun hw => ?_) (fun hw => ?_)) <;> ((try simp only [decide_eq_true_eq, decide_eq_false_iff_not, beq_iff_eq, beq_eq_false_iff_ne, Bool.not_eq_true', Bool.not_eq_false', Bool.not_true, Bool.not_false, Int.not_lt, Int.not_le, ne_eq, Int.ofNat_lt, Int.ofNat_le, not_true_eq_false, reduceCtorEq, Int.toNat_zero] at hw) <;> (try omega)))
      | ((with_reducible refine guardK_i (fun hw => ?_) (fun hw => ?_)) <;> ((try simp only [decide_eq_true_eq, decide_eq_false_iff_not, beq_iff_eq, beq_eq_false_iff_ne, Bool.not_eq_true', Bool.not_eq_false', Bool.not_true, Bool.not_false, Int.not_lt, Int.not_le, ne_eq, Int.ofNat_lt, Int.ofNat_le, not_true_eq_false, reduceCtorEq, Int.toNat_zero] at hw) <;> (try omega))))
    rintro o s' ⟨rfl, rfl⟩
    have hbp : Bld (S4 l d (τ ++ [.cells [.str pr.key, .str pr.value]])) 3 (catS (l.take i)) := Bld.push h2 _
    repeat' (first
      | simp (disch := omega) only [go_sem, hQr, hQn, hQp, Int.tdiv_eq_ediv_of_nonneg, Int.tmod_eq_emod_of_nonneg, wrapK_i64, wrapK_u8, wrapK_u64, x_get0, x_getS, x_set0, x_setS, x_getD0, x_getDS, x_lenC, x_lenN, x_drop0, x_dropS, x_take0, x_takeS, x_mapC, x_mapN, x_appC, x_appN, x_appE, x_rep0, x_repS, x_many0, x_manyS, x_cellsA, x_cellsI, x_cellsB, x_cellsS, x_cellsL, x_cellsN, x_cellsO, x_cellsR, x_cellsP, x_cellsF, x_nil1, x_nil2, x_nil3, x_contC, x_contN, boolbeq1, boolbeq2, getD_map, eBytes_nil, take_one, Bool.or_false, Bool.or_true, Bool.true_or, Bool.false_or, Nat.reduceAdd, Nat.reduceBEq, ↓reduceIte, beq_self_eq_true, Bool.and_true, Bool.true_and, Bool.and_false, Bool.false_and, Int.toNat_natCast, Int.toNat_natCast_add_one, Int.toNat_zero, List.length_map, List.length_append, Nat.zero_add, Bool.not_true, Bool.not_false]
      | ((with_reducible refine req_d ?_ ?_); (· (first | (simp only [ne_eq, not_false_eq_true, true_and, and_true, AV.fits, AV.scalar, AV.cells, List.all_cons, List.all_nil, Bool.and_true, Bool.true_and, List.length_cons, List.length_nil, decide_true, beq_self_eq_true, apartAll, apartA, AV.obj, roomOk]; done) | omega | (simp [ne_eq, not_false_eq_true, true_and, and_true, AV.fits, AV.scalar, AV.cells, List.all_cons, List.all_nil, Bool.and_true, Bool.true_and, List.length_cons, List.length_nil, decide_true, beq_self_eq_true, apartAll, apartA, AV.obj, roomOk]; done) | (simp [ne_eq, not_false_eq_true, true_and, and_true, AV.fits, AV.scalar, AV.cells, List.all_cons, List.all_nil, Bool.and_true, Bool.true_and, List.length_cons, List.length_nil, decide_true, beq_self_eq_true, apartAll, apartA, AV.obj, roomOk]; omega) | assumption)))
      | with_reducible refine scope_no ?_
      | ((with_reducible refine b2sO_whole _ rfl ?_ ?_ ?_); (· simp); (· simp))
      | ((with_reducible refine condA_i (fun hw => ?_) (fun hw => ?_)) <;> ((try simp only [decide_eq_true_eq, decide_eq_false_iff_not, beq_iff_eq, beq_eq_false_iff_ne, Bool.not_eq_true', Bool.not_eq_false', Bool.not_true, Bool.not_false, Int.not_lt, Int.not_le, ne_eq, Int.ofNat_lt, Int.ofNat_le, not_true_eq_false, reduceCtorEq, Int.toNat_zero] at hw) <;> (try omega)))
      | ((with_reducible refine guardK_i (fun hw => ?_) (fun hw => ?_)) <;> ((try simp only [decide_eq_true_eq, decide_eq_false_iff_not, beq_iff_eq, beq_eq_false_iff_ne, Bool.not_eq_true', Bool.not_eq_false', Bool.not_true, Bool.not_false, Int.not_lt, Int.not_le, ne_eq, Int.ofNat_lt, Int.ofNat_le, not_true_eq_false, reduceCtorEq, Int.toNat_zero] at hw) <;> (try omega))))
    · have : ¬ goodJ pf l := fun h => by have := (good_val h hi).1; rw [hpr] at this; omega
      rw [if_neg this]
      exact leafNE rfl rfl
    · repeat' (first
        | simp (disch := omega) only [go_sem, hQr, hQn, hQp, Int.tdiv_eq_ediv_of_nonneg, Int.tmod_eq_emod_of_nonneg, wrapK_i64, wrapK_u8, wrapK_u64, x_get0, x_getS, x_set0, x_setS, x_getD0, x_getDS, x_lenC, x_lenN, x_drop0, x_dropS, x_take0, x_takeS, x_mapC, x_mapN, x_appC, x_appN, x_appE, x_rep0, x_repS, x_many0, x_manyS, x_cellsA, x_cellsI, x_cellsB, x_cellsS, x_cellsL, x_cellsN, x_cellsO, x_cellsR, x_cellsP, x_cellsF, x_nil1, x_nil2, x_nil3, x_contC, x_contN, boolbeq1, boolbeq2, getD_map, eBytes_nil, take_one, Bool.or_false, Bool.or_true, Bool.true_or, Bool.false_or, Nat.reduceAdd, Nat.reduceBEq, ↓reduceIte, beq_self_eq_true, Bool.and_true, Bool.true_and, Bool.and_false, Bool.false_and, Int.toNat_natCast, Int.toNat_natCast_add_one, Int.toNat_zero, List.length_map, List.length_append, Nat.zero_add, Bool.not_true, Bool.not_false]
        | with_reducible refine callL_any (Builder_WriteString _ 3 _ pr.value hbp (by omega)) ?_
        | ((with_reducible refine req_d ?_ ?_); (· (first | (simp only [ne_eq, not_false_eq_true, true_and, and_true, AV.fits, AV.scalar, AV.cells, List.all_cons, List.all_nil, Bool.and_true, Bool.true_and, List.length_cons, List.length_nil, decide_true, beq_self_eq_true, apartAll, apartA, AV.obj, roomOk]; done) | omega | (simp [ne_eq, not_false_eq_true, true_and, and_true, AV.fits, AV.scalar, AV.cells, List.all_cons, List.all_nil, Bool.and_true, Bool.true_and, List.length_cons, List.length_nil, decide_true, beq_self_eq_true, apartAll, apartA, AV.obj, roomOk]; done) | (simp [ne_eq, not_false_eq_true, true_and, and_true, AV.fits, AV.scalar, AV.cells, List.all_cons, List.all_nil, Bool.and_true, Bool.true_and, List.length_cons, List.length_nil, decide_true, beq_self_eq_true, apartAll, apartA, AV.obj, roomOk]; omega) | assumption)))
        | with_reducible refine scope_no ?_
        | ((with_reducible refine b2sO_whole _ rfl ?_ ?_ ?_); (· simp); (· simp))
        | ((with_reducible refine condA_i (fun hw => ?_) (fun hw => ?_)) <;> ((try simp only [decide_eq_true_eq, decide_eq_false_iff_not, beq_iff_eq, beq_eq_false_iff_ne, Bool.not_eq_true', Bool.not_eq_false', Bool.not_true, Bool.not_false, Int.not_lt, Int.not_le, ne_eq, Int.ofNat_lt, Int.ofNat_le, not_true_eq_false, reduceCtorEq, Int.toNat_zero] at hw) <;> (try omega)))
        | ((with_reducible refine guardK_i (fun hw => ?_) (fun hw => ?_)) <;> ((try simp only [decide_eq_true_eq, decide_eq_false_iff_not, beq_iff_eq, beq_eq_false_iff_ne, Bool.not_eq_true', Bool.not_eq_false', Bool.not_true, Bool.not_false, Int.not_lt, Int.not_le, ne_eq, Int.ofNat_lt, Int.ofNat_le, not_true_eq_false, reduceCtorEq, Int.toNat_zero] at hw) <;> (try omega))))
      rintro o s' ⟨rfl, hb, hbes⟩
      obtain ⟨d', τ', rfl⟩ := S4_beside hbes hb
      have hct := catS_take hi
      rw [hpr] at hct
      rw [← hct] at hb
      repeat' (first
        | simp (disch := omega) only [go_sem, hQr, hQn, hQp, Int.tdiv_eq_ediv_of_nonneg, Int.tmod_eq_emod_of_nonneg, wrapK_i64, wrapK_u8, wrapK_u64, x_get0, x_getS, x_set0, x_setS, x_getD0, x_getDS, x_lenC, x_lenN, x_drop0, x_dropS, x_take0, x_takeS, x_mapC, x_mapN, x_appC, x_appN, x_appE, x_rep0, x_repS, x_many0, x_manyS, x_cellsA, x_cellsI, x_cellsB, x_cellsS, x_cellsL, x_cellsN, x_cellsO, x_cellsR, x_cellsP, x_cellsF, x_nil1, x_nil2, x_nil3, x_contC, x_contN, boolbeq1, boolbeq2, getD_map, eBytes_nil, take_one, Bool.or_false, Bool.or_true, Bool.true_or, Bool.false_or, Nat.reduceAdd, Nat.reduceBEq, ↓reduceIte, beq_self_eq_true, Bool.and_true, Bool.true_and, Bool.and_false, Bool.false_and, Int.toNat_natCast, Int.toNat_natCast_add_one, Int.toNat_zero, List.length_map, List.length_append, Nat.zero_add, Bool.not_true, Bool.not_false]
        | ((with_reducible refine req_d ?_ ?_); (· (first | (simp only [ne_eq, not_false_eq_true, true_and, and_true, AV.fits, AV.scalar, AV.cells, List.all_cons, List.all_nil, Bool.and_true, Bool.true_and, List.length_cons, List.length_nil, decide_true, beq_self_eq_true, apartAll, apartA, AV.obj, roomOk]; done) | omega | (simp [ne_eq, not_false_eq_true, true_and, and_true, AV.fits, AV.scalar, AV.cells, List.all_cons, List.all_nil, Bool.and_true, Bool.true_and, List.length_cons, List.length_nil, decide_true, beq_self_eq_true, apartAll, apartA, AV.obj, roomOk]; done) | (simp [ne_eq, not_false_eq_true, true_and, and_true, AV.fits, AV.scalar, AV.cells, List.all_cons, List.all_nil, Bool.and_true, Bool.true_and, List.length_cons, List.length_nil, decide_true, beq_self_eq_true, apartAll, apartA, AV.obj, roomOk]; omega) | assumption)))
        | with_reducible refine scope_no ?_
        | ((with_reducible refine b2sO_whole _ rfl ?_ ?_ ?_); (· simp); (· simp))
        | ((with_reducible refine condA_i (fun hw => ?_) (fun hw => ?_)) <;> ((try simp only [decide_eq_true_eq, decide_eq_false_iff_not, beq_iff_eq, beq_eq_false_iff_ne, Bool.not_eq_true', Bool.not_eq_false', Bool.not_true, Bool.not_false, Int.not_lt, Int.not_le, ne_eq, Int.ofNat_lt, Int.ofNat_le, not_true_eq_false, reduceCtorEq, Int.toNat_zero] at hw) <;> (try omega)))
        | ((with_reducible refine guardK_i (fun hw => ?_) (fun hw => ?_)) <;> ((try simp only [decide_eq_true_eq, decide_eq_false_iff_not, beq_iff_eq, beq_eq_false_iff_ne, Bool.not_eq_true', Bool.not_eq_false', Bool.not_true, Bool.not_false, Int.not_lt, Int.not_le, ne_eq, Int.ofNat_lt, Int.ofNat_le, not_true_eq_false, reduceCtorEq, Int.toNat_zero] at hw) <;> (try omega))))
      refine ⟨(i + 1, d', τ'), ?_, ?_, by first | rfl | (simp [go_sem]; done), (by repeat (first | exact out_ovl _ _ _ | refine out_upd rfl ?_ | refine out_ovl2 rfl ?_ | (simp only [puts_cons, puts_nil]))), (by simp (disch := omega) only [at_nil, at_cons, and_true, go_sem, hQr, hQn, hQp, Int.tdiv_eq_ediv_of_nonneg, Int.tmod_eq_emod_of_nonneg, wrapK_i64, wrapK_u8, wrapK_u64, x_get0, x_getS, x_set0, x_setS, x_getD0, x_getDS, x_lenC, x_lenN, x_drop0, x_dropS, x_take0, x_takeS, x_mapC, x_mapN, x_appC, x_appN, x_appE, x_rep0, x_repS, x_many0, x_manyS, x_cellsA, x_cellsI, x_cellsB, x_cellsS, x_cellsL, x_cellsN, x_cellsO, x_cellsR, x_cellsP, x_cellsF, x_nil1, x_nil2, x_nil3, x_contC, x_contN, boolbeq1, boolbeq2, getD_map, eBytes_nil, take_one, Bool.or_false, Bool.or_true, Bool.true_or, Bool.false_or, Nat.reduceAdd, Nat.reduceBEq, ↓reduceIte, beq_self_eq_true, Bool.and_true, Bool.true_and, Bool.and_false, Bool.false_and, Int.toNat_natCast, Int.toNat_natCast_add_one, Int.toNat_zero, List.length_map, List.length_append, Nat.zero_add, Bool.not_true, Bool.not_false, Int.natCast_add, Int.cast_ofNat_Int] <;> (try trivial) <;> (try omega) <;> (try (repeat (first | trivial | (refine And.intro ?_ ?_) | (congr 1; omega)))))⟩ <;> (try dsimp only)
      · refine ⟨by omega, hb, ?_⟩
        rw [hct, List.length_append]; omega
      · omega
    · have : ¬ goodJ pf l := fun h => by have := h.1; omega
      rw [if_neg this]
      exact leafNE rfl rfl
  · have hti : l.take i = l := List.take_of_length_le (by omega)
    rw [hti] at h2 h3
    try unfold S4
    repeat' (first
      | simp (disch := omega) only [go_sem, hQr, hQn, hQp, Int.tdiv_eq_ediv_of_nonneg, Int.tmod_eq_emod_of_nonneg, wrapK_i64, wrapK_u8, wrapK_u64, x_get0, x_getS, x_set0, x_setS, x_getD0, x_getDS, x_lenC, x_lenN, x_drop0, x_dropS, x_take0, x_takeS, x_mapC, x_mapN, x_appC, x_appN, x_appE, x_rep0, x_repS, x_many0, x_manyS, x_cellsA, x_cellsI, x_cellsB, x_cellsS, x_cellsL, x_cellsN, x_cellsO, x_cellsR, x_cellsP, x_cellsF, x_nil1, x_nil2, x_nil3, x_contC, x_contN, boolbeq1, boolbeq2, getD_map, eBytes_nil, take_one, Bool.or_false, Bool.or_true, Bool.true_or, Bool.false_or, Nat.reduceAdd, Nat.reduceBEq, ↓reduceIte, beq_self_eq_true, Bool.and_true, Bool.true_and, Bool.and_false, Bool.false_and, Int.toNat_natCast, Int.toNat_natCast_add_one, Int.toNat_zero, List.length_map, List.length_append, Nat.zero_add, Bool.not_true, Bool.not_false]
      | with_reducible refine callL_any (Builder_String _ 3 _ h2 (by omega)) ?_
      | ((with_reducible refine req_d ?_ ?_); (· (first | (simp only [ne_eq, not_false_eq_true, true_and, and_true, AV.fits, AV.scalar, AV.cells, List.all_cons, List.all_nil, Bool.and_true, Bool.true_and, List.length_cons, List.length_nil, decide_true, beq_self_eq_true, apartAll, apartA, AV.obj, roomOk]; done) | omega | (simp [ne_eq, not_false_eq_true, true_and, and_true, AV.fits, AV.scalar, AV.cells, List.all_cons, List.all_nil, Bool.and_true, Bool.true_and, List.length_cons, List.length_nil, decide_true, beq_self_eq_true, apartAll, apartA, AV.obj, roomOk]; done) | (simp [ne_eq, not_false_eq_true, true_and, and_true, AV.fits, AV.scalar, AV.cells, List.all_cons, List.all_nil, Bool.and_true, Bool.true_and, List.length_cons, List.length_nil, decide_true, beq_self_eq_true, apartAll, apartA, AV.obj, roomOk]; omega) | assumption)))
      | with_reducible refine scope_no ?_
      | ((with_reducible refine b2sO_whole _ rfl ?_ ?_ ?_); (· simp); (· simp))
      | ((with_reducible refine condA_i (fun hw => ?_) (fun hw => ?_)) <;> ((try simp only [decide_eq_true_eq, decide_eq_false_iff_not, beq_iff_eq, beq_eq_false_iff_ne, Bool.not_eq_true', Bool.not_eq_false', Bool.not_true, Bool.not_false, Int.not_lt, Int.not_le, ne_eq, Int.ofNat_lt, Int.ofNat_le, not_true_eq_false, reduceCtorEq, Int.toNat_zero] at hw) <;> (try omega)))
      | ((with_reducible refine guardK_i (fun hw => ?_) (fun hw => ?_)) <;> ((try simp only [decide_eq_true_eq, decide_eq_false_iff_not, beq_iff_eq, beq_eq_false_iff_ne, Bool.not_eq_true', Bool.not_eq_false', Bool.not_true, Bool.not_false, Int.not_lt, Int.not_le, ne_eq, Int.ofNat_lt, Int.ofNat_le, not_true_eq_false, reduceCtorEq, Int.toNat_zero] at hw) <;> (try omega))))
    rintro o s' ⟨rfl, hbes⟩
    obtain ⟨τ', rfl⟩ := S4_beside3 hbes
    have hco := chunk_Count (catS l).length (by omega) (by omega)
    rw [cntI_nat] at hco
    repeat' (first
      | simp (disch := omega) only [go_sem, hQr, hQn, hQp, Int.tdiv_eq_ediv_of_nonneg, Int.tmod_eq_emod_of_nonneg, wrapK_i64, wrapK_u8, wrapK_u64, x_get0, x_getS, x_set0, x_setS, x_getD0, x_getDS, x_lenC, x_lenN, x_drop0, x_dropS, x_take0, x_takeS, x_mapC, x_mapN, x_appC, x_appN, x_appE, x_rep0, x_repS, x_many0, x_manyS, x_cellsA, x_cellsI, x_cellsB, x_cellsS, x_cellsL, x_cellsN, x_cellsO, x_cellsR, x_cellsP, x_cellsF, x_nil1, x_nil2, x_nil3, x_contC, x_contN, boolbeq1, boolbeq2, getD_map, eBytes_nil, take_one, Bool.or_false, Bool.or_true, Bool.true_or, Bool.false_or, Nat.reduceAdd, Nat.reduceBEq, ↓reduceIte, beq_self_eq_true, Bool.and_true, Bool.true_and, Bool.and_false, Bool.false_and, Int.toNat_natCast, Int.toNat_natCast_add_one, Int.toNat_zero, List.length_map, List.length_append, Nat.zero_add, Bool.not_true, Bool.not_false]
      | with_reducible refine callL_f (hco) ?_
      | with_reducible refine callD_f (hco) ?_
      | ((with_reducible refine req_d ?_ ?_); (· (first | (simp only [ne_eq, not_false_eq_true, true_and, and_true, AV.fits, AV.scalar, AV.cells, List.all_cons, List.all_nil, Bool.and_true, Bool.true_and, List.length_cons, List.length_nil, decide_true, beq_self_eq_true, apartAll, apartA, AV.obj, roomOk]; done) | omega | (simp [ne_eq, not_false_eq_true, true_and, and_true, AV.fits, AV.scalar, AV.cells, List.all_cons, List.all_nil, Bool.and_true, Bool.true_and, List.length_cons, List.length_nil, decide_true, beq_self_eq_true, apartAll, apartA, AV.obj, roomOk]; done) | (simp [ne_eq, not_false_eq_true, true_and, and_true, AV.fits, AV.scalar, AV.cells, List.all_cons, List.all_nil, Bool.and_true, Bool.true_and, List.length_cons, List.length_nil, decide_true, beq_self_eq_true, apartAll, apartA, AV.obj, roomOk]; omega) | assumption)))
      | with_reducible refine scope_no ?_
      | ((with_reducible refine b2sO_whole _ rfl ?_ ?_ ?_); (· simp); (· simp))
      | ((with_reducible refine condA_i (fun hw => ?_) (fun hw => ?_)) <;> ((try simp only [decide_eq_true_eq, decide_eq_false_iff_not, beq_iff_eq, beq_eq_false_iff_ne, Bool.not_eq_true', Bool.not_eq_false', Bool.not_true, Bool.not_false, Int.not_lt, Int.not_le, ne_eq, Int.ofNat_lt, Int.ofNat_le, not_true_eq_false, reduceCtorEq, Int.toNat_zero] at hw) <;> (try omega)))
      | ((with_reducible refine guardK_i (fun hw => ?_) (fun hw => ?_)) <;> ((try simp only [decide_eq_true_eq, decide_eq_false_iff_not, beq_iff_eq, beq_eq_false_iff_ne, Bool.not_eq_true', Bool.not_eq_false', Bool.not_true, Bool.not_false, Int.not_lt, Int.not_le, ne_eq, Int.ofNat_lt, Int.ofNat_le, not_true_eq_false, reduceCtorEq, Int.toNat_zero] at hw) <;> (try omega))))
    · have : ¬ goodJ pf l := fun h => by have := good_len h; omega
      rw [if_neg this]
      exact leafNE rfl rfl
    · have hlc : l.length = cntN (catS l).length := by omega
      repeat' (first
        | simp (disch := omega) only [go_sem, hQr, hQn, hQp, Int.tdiv_eq_ediv_of_nonneg, Int.tmod_eq_emod_of_nonneg, wrapK_i64, wrapK_u8, wrapK_u64, x_get0, x_getS, x_set0, x_setS, x_getD0, x_getDS, x_lenC, x_lenN, x_drop0, x_dropS, x_take0, x_takeS, x_mapC, x_mapN, x_appC, x_appN, x_appE, x_rep0, x_repS, x_many0, x_manyS, x_cellsA, x_cellsI, x_cellsB, x_cellsS, x_cellsL, x_cellsN, x_cellsO, x_cellsR, x_cellsP, x_cellsF, x_nil1, x_nil2, x_nil3, x_contC, x_contN, boolbeq1, boolbeq2, getD_map, eBytes_nil, take_one, Bool.or_false, Bool.or_true, Bool.true_or, Bool.false_or, Nat.reduceAdd, Nat.reduceBEq, ↓reduceIte, beq_self_eq_true, Bool.and_true, Bool.true_and, Bool.and_false, Bool.false_and, Int.toNat_natCast, Int.toNat_natCast_add_one, Int.toNat_zero, List.length_map, List.length_append, Nat.zero_add, Bool.not_true, Bool.not_false]
        | with_reducible refine callL_f (chunk_chunks pf (catS l)) ?_
        | with_reducible refine callD_f (chunk_chunks pf (catS l)) ?_
        | ((with_reducible refine req_d ?_ ?_); (· (first | (simp only [ne_eq, not_false_eq_true, true_and, and_true, AV.fits, AV.scalar, AV.cells, List.all_cons, List.all_nil, Bool.and_true, Bool.true_and, List.length_cons, List.length_nil, decide_true, beq_self_eq_true, apartAll, apartA, AV.obj, roomOk]; done) | omega | (simp [ne_eq, not_false_eq_true, true_and, and_true, AV.fits, AV.scalar, AV.cells, List.all_cons, List.all_nil, Bool.and_true, Bool.true_and, List.length_cons, List.length_nil, decide_true, beq_self_eq_true, apartAll, apartA, AV.obj, roomOk]; done) | (simp [ne_eq, not_false_eq_true, true_and, and_true, AV.fits, AV.scalar, AV.cells, List.all_cons, List.all_nil, Bool.and_true, Bool.true_and, List.length_cons, List.length_nil, decide_true, beq_self_eq_true, apartAll, apartA, AV.obj, roomOk]; omega) | assumption)))
        | with_reducible refine scope_no ?_
        | ((with_reducible refine b2sO_whole _ rfl ?_ ?_ ?_); (· simp); (· simp))
        | ((with_reducible refine condA_i (fun hw => ?_) (fun hw => ?_)) <;> ((try simp only [decide_eq_true_eq, decide_eq_false_iff_not, beq_iff_eq, beq_eq_false_iff_ne, Bool.not_eq_true', Bool.not_eq_false', Bool.not_true, Bool.not_false, Int.not_lt, Int.not_le, ne_eq, Int.ofNat_lt, Int.ofNat_le, not_true_eq_false, reduceCtorEq, Int.toNat_zero] at hw) <;> (try omega)))
        | ((with_reducible refine guardK_i (fun hw => ?_) (fun hw => ?_)) <;> ((try simp only [decide_eq_true_eq, decide_eq_false_iff_not, beq_iff_eq, beq_eq_false_iff_ne, Bool.not_eq_true', Bool.not_eq_false', Bool.not_true, Bool.not_false, Int.not_lt, Int.not_le, ne_eq, Int.ofNat_lt, Int.ofNat_le, not_true_eq_false, reduceCtorEq, Int.toNat_zero] at hw) <;> (try omega))))
      refine rng_i fun o hy => ?_
      refine (chunk_chunks_1 _ pf (catS l) (by omega) hp
        (fun i σ => (∃ τ2, σ = .cells [.lst false EP (l.map ePair)] :: .cells [.str []] :: .cells [.int .i64 0] :: (τ' ++ .cells [I i] :: o .ready none :: τ2)) ∧ ∀ k, k < i → l.getD k default = pairAt pf (catS l) k)
        (fun σ => (∃ i τ2, σ = .cells [.lst false EP (l.map ePair)] :: .cells [.str []] :: .cells [.int .i64 4] :: (τ' ++ .cells [I i] :: o .done (some .ret) :: τ2)) ∧ ¬ goodJ pf l) _ ⟨⟨[], by simp⟩, fun k hk => absurd hk (Nat.not_lt_zero _)⟩ ?_).mono ?_
      · rintro i σ hi ⟨⟨τ2, rfl⟩, hbef⟩
        have hil : i < l.length := by omega
        obtain ⟨pr, hpr⟩ : ∃ pr, l.getD i default = pr := ⟨_, rfl⟩
        refine hy _ _ _ (by simp) rfl ?_
        have hbad : pr ≠ pairAt pf (catS l) i → ¬ goodJ pf l := fun hne h => hne (hpr ▸ (good_val h hil).2)
        generalize hR : (fun (out : Out) (σ' : Store) => _) = R
        have hf : ¬ goodJ pf l → R (.ret (.bool false)) (.cells [.lst false EP (l.map ePair)] :: .cells [.str []] :: .cells [.int .i64 4] :: (τ' ++ .cells [I i] :: o .done (some .ret) :: τ2)) := fun h => by
          subst hR; exact .inr ⟨rfl, ⟨i, τ2, rfl⟩, h⟩
        have ht : pr = pairAt pf (catS l) i → R (.ret (.bool true)) (.cells [.lst false EP (l.map ePair)] :: .cells [.str []] :: .cells [.int .i64 0] :: (τ' ++ .cells [.int .i64 ((i : Int) + 1)] :: o .ready none :: τ2)) := fun h => by
          subst hR; exact .inl ⟨rfl, ⟨τ2, by simp⟩, before_succ hbef (hpr.trans h)⟩
        clear hR
        repeat' (first
          | simp (disch := omega) only [go_sem, hQr, hQn, hQp, Int.tdiv_eq_ediv_of_nonneg, Int.tmod_eq_emod_of_nonneg, wrapK_i64, wrapK_u8, wrapK_u64, x_get0, x_getS, x_set0, x_setS, x_getD0, x_getDS, x_lenC, x_lenN, x_drop0, x_dropS, x_take0, x_takeS, x_mapC, x_mapN, x_appC, x_appN, x_appE, x_rep0, x_repS, x_many0, x_manyS, x_cellsA, x_cellsI, x_cellsB, x_cellsS, x_cellsL, x_cellsN, x_cellsO, x_cellsR, x_cellsP, x_cellsF, x_nil1, x_nil2, x_nil3, x_contC, x_contN, boolbeq1, boolbeq2, getD_map, eBytes_nil, take_one, Bool.or_false, Bool.or_true, Bool.true_or, Bool.false_or, Nat.reduceAdd, Nat.reduceBEq, ↓reduceIte, beq_self_eq_true, Bool.and_true, Bool.true_and, Bool.and_false, Bool.false_and, Int.toNat_natCast, Int.toNat_natCast_add_one, Int.toNat_zero, List.length_map, List.length_append, Nat.zero_add, Bool.not_true, Bool.not_false, hpr]
          | ((with_reducible refine req_d ?_ ?_); (· (first | (simp only [ne_eq, not_false_eq_true, true_and, and_true, AV.fits, AV.scalar, AV.cells, List.all_cons, List.all_nil, Bool.and_true, Bool.true_and, List.length_cons, List.length_nil, decide_true, beq_self_eq_true, apartAll, apartA, AV.obj, roomOk]; done) | omega | (simp [ne_eq, not_false_eq_true, true_and, and_true, AV.fits, AV.scalar, AV.cells, List.all_cons, List.all_nil, Bool.and_true, Bool.true_and, List.length_cons, List.length_nil, decide_true, beq_self_eq_true, apartAll, apartA, AV.obj, roomOk]; done) | (simp [ne_eq, not_false_eq_true, true_and, and_true, AV.fits, AV.scalar, AV.cells, List.all_cons, List.all_nil, Bool.and_true, Bool.true_and, List.length_cons, List.length_nil, decide_true, beq_self_eq_true, apartAll, apartA, AV.obj, roomOk]; omega) | assumption)))
          | with_reducible refine scope_no ?_
          | ((with_reducible refine b2sO_whole _ rfl ?_ ?_ ?_); (· simp); (· simp))
          | ((with_reducible refine condA_i (fun hw => ?_) (fun hw => ?_)) <;> ((try simp only [decide_eq_true_eq, decide_eq_false_iff_not, beq_iff_eq, beq_eq_false_iff_ne, Bool.not_eq_true', Bool.not_eq_false', Bool.not_true, Bool.not_false, Int.not_lt, Int.not_le, ne_eq, Int.ofNat_lt, Int.ofNat_le, not_true_eq_false, reduceCtorEq, Int.toNat_zero] at hw) <;> (try omega)))
          | ((with_reducible refine guardK_i (fun hw => ?_) (fun hw => ?_)) <;> ((try simp only [decide_eq_true_eq, decide_eq_false_iff_not, beq_iff_eq, beq_eq_false_iff_ne, Bool.not_eq_true', Bool.not_eq_false', Bool.not_true, Bool.not_false, Int.not_lt, Int.not_le, ne_eq, Int.ofNat_lt, Int.ofNat_le, not_true_eq_false, reduceCtorEq, Int.toNat_zero] at hw) <;> (try omega))))
        · exact hf (hbad fun e => by subst e; simp_all [pairAt])
        · exact ht (pair_ext (by simp_all [pairAt]) (by simp_all [pairAt]))
        · exact hf (hbad fun e => by subst e; simp_all [pairAt])
      · rintro out σ ⟨rfl, ⟨⟨τ2, rfl⟩, hall⟩ | ⟨⟨i, τ2, rfl⟩, hno⟩⟩
        · have hgood : goodJ pf l := good_of (by omega) hlc (fun k hk => hall k (by omega))
          rw [if_pos hgood] at *
          refine endQ_ready (by simp) ?_
          repeat' (first
            | simp (disch := omega) only [go_sem, hQr, hQn, hQp, Int.tdiv_eq_ediv_of_nonneg, Int.tmod_eq_emod_of_nonneg, wrapK_i64, wrapK_u8, wrapK_u64, x_get0, x_getS, x_set0, x_setS, x_getD0, x_getDS, x_lenC, x_lenN, x_drop0, x_dropS, x_take0, x_takeS, x_mapC, x_mapN, x_appC, x_appN, x_appE, x_rep0, x_repS, x_many0, x_manyS, x_cellsA, x_cellsI, x_cellsB, x_cellsS, x_cellsL, x_cellsN, x_cellsO, x_cellsR, x_cellsP, x_cellsF, x_nil1, x_nil2, x_nil3, x_contC, x_contN, boolbeq1, boolbeq2, getD_map, eBytes_nil, take_one, Bool.or_false, Bool.or_true, Bool.true_or, Bool.false_or, Nat.reduceAdd, Nat.reduceBEq, ↓reduceIte, beq_self_eq_true, Bool.and_true, Bool.true_and, Bool.and_false, Bool.false_and, Int.toNat_natCast, Int.toNat_natCast_add_one, Int.toNat_zero, List.length_map, List.length_append, Nat.zero_add, Bool.not_true, Bool.not_false]
            | ((with_reducible refine req_d ?_ ?_); (· (first | (simp only [ne_eq, not_false_eq_true, true_and, and_true, AV.fits, AV.scalar, AV.cells, List.all_cons, List.all_nil, Bool.and_true, Bool.true_and, List.length_cons, List.length_nil, decide_true, beq_self_eq_true, apartAll, apartA, AV.obj, roomOk]; done) | omega | (simp [ne_eq, not_false_eq_true, true_and, and_true, AV.fits, AV.scalar, AV.cells, List.all_cons, List.all_nil, Bool.and_true, Bool.true_and, List.length_cons, List.length_nil, decide_true, beq_self_eq_true, apartAll, apartA, AV.obj, roomOk]; done) | (simp [ne_eq, not_false_eq_true, true_and, and_true, AV.fits, AV.scalar, AV.cells, List.all_cons, List.all_nil, Bool.and_true, Bool.true_and, List.length_cons, List.length_nil, decide_true, beq_self_eq_true, apartAll, apartA, AV.obj, roomOk]; omega) | assumption)))
            | with_reducible refine scope_no ?_
            | ((with_reducible refine b2sO_whole _ rfl ?_ ?_ ?_); (· simp); (· simp))
            | ((with_reducible refine condA_i (fun hw => ?_) (fun hw => ?_)) <;> ((try simp only [decide_eq_true_eq, decide_eq_false_iff_not, beq_iff_eq, beq_eq_false_iff_ne, Bool.not_eq_true', Bool.not_eq_false', Bool.not_true, Bool.not_false, Int.not_lt, Int.not_le, ne_eq, Int.ofNat_lt, Int.ofNat_le, not_true_eq_false, reduceCtorEq, Int.toNat_zero] at hw) <;> (try omega)))
            | ((with_reducible refine guardK_i (fun hw => ?_) (fun hw => ?_)) <;> ((try simp only [decide_eq_true_eq, decide_eq_false_iff_not, beq_iff_eq, beq_eq_false_iff_ne, Bool.not_eq_true', Bool.not_eq_false', Bool.not_true, Bool.not_false, Int.not_lt, Int.not_le, ne_eq, Int.ofNat_lt, Int.ofNat_le, not_true_eq_false, reduceCtorEq, Int.toNat_zero] at hw) <;> (try omega))))
          exact leafNE rfl rfl
        · rw [if_neg hno] at *
          refine endQ_ret (by simp) ?_
          repeat' (first
            | simp (disch := omega) only [go_sem, hQr, hQn, hQp, Int.tdiv_eq_ediv_of_nonneg, Int.tmod_eq_emod_of_nonneg, wrapK_i64, wrapK_u8, wrapK_u64, x_get0, x_getS, x_set0, x_setS, x_getD0, x_getDS, x_lenC, x_lenN, x_drop0, x_dropS, x_take0, x_takeS, x_mapC, x_mapN, x_appC, x_appN, x_appE, x_rep0, x_repS, x_many0, x_manyS, x_cellsA, x_cellsI, x_cellsB, x_cellsS, x_cellsL, x_cellsN, x_cellsO, x_cellsR, x_cellsP, x_cellsF, x_nil1, x_nil2, x_nil3, x_contC, x_contN, boolbeq1, boolbeq2, getD_map, eBytes_nil, take_one, Bool.or_false, Bool.or_true, Bool.true_or, Bool.false_or, Nat.reduceAdd, Nat.reduceBEq, ↓reduceIte, beq_self_eq_true, Bool.and_true, Bool.true_and, Bool.and_false, Bool.false_and, Int.toNat_natCast, Int.toNat_natCast_add_one, Int.toNat_zero, List.length_map, List.length_append, Nat.zero_add, Bool.not_true, Bool.not_false]
            | ((with_reducible refine req_d ?_ ?_); (· (first | (simp only [ne_eq, not_false_eq_true, true_and, and_true, AV.fits, AV.scalar, AV.cells, List.all_cons, List.all_nil, Bool.and_true, Bool.true_and, List.length_cons, List.length_nil, decide_true, beq_self_eq_true, apartAll, apartA, AV.obj, roomOk]; done) | omega | (simp [ne_eq, not_false_eq_true, true_and, and_true, AV.fits, AV.scalar, AV.cells, List.all_cons, List.all_nil, Bool.and_true, Bool.true_and, List.length_cons, List.length_nil, decide_true, beq_self_eq_true, apartAll, apartA, AV.obj, roomOk]; done) | (simp [ne_eq, not_false_eq_true, true_and, and_true, AV.fits, AV.scalar, AV.cells, List.all_cons, List.all_nil, Bool.and_true, Bool.true_and, List.length_cons, List.length_nil, decide_true, beq_self_eq_true, apartAll, apartA, AV.obj, roomOk]; omega) | assumption)))
            | with_reducible refine scope_no ?_
            | ((with_reducible refine b2sO_whole _ rfl ?_ ?_ ?_); (· simp); (· simp))
            | ((with_reducible refine condA_i (fun hw => ?_) (fun hw => ?_)) <;> ((try simp only [decide_eq_true_eq, decide_eq_false_iff_not, beq_iff_eq, beq_eq_false_iff_ne, Bool.not_eq_true', Bool.not_eq_false', Bool.not_true, Bool.not_false, Int.not_lt, Int.not_le, ne_eq, Int.ofNat_lt, Int.ofNat_le, not_true_eq_false, reduceCtorEq, Int.toNat_zero] at hw) <;> (try omega)))
            | ((with_reducible refine guardK_i (fun hw => ?_) (fun hw => ?_)) <;> ((try simp only [decide_eq_true_eq, decide_eq_false_iff_not, beq_iff_eq, beq_eq_false_iff_ne, Bool.not_eq_true', Bool.not_eq_false', Bool.not_true, Bool.not_false, Int.not_lt, Int.not_le, ne_eq, Int.ofNat_lt, Int.ofNat_le, not_true_eq_false, reduceCtorEq, Int.toNat_zero] at hw) <;> (try omega))))
          exact leafNE rfl rfl
    · have : ¬ goodJ pf l := fun h => by have := h.1; omega
      rw [if_neg this]
      exact leafNE rfl rfl
end Go.Proofs.Ytkimohopfhgcjaa
