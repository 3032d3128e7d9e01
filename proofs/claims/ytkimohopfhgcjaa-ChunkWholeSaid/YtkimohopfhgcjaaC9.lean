/- Chunks: a whole text's chunks, and one of them turned. -/
import Derived.Test.YtkimohopfhgcjaaC7
namespace Go.Proofs.Ytkimohopfhgcjaa
set_option linter.unnecessarySimpa false
open Go.AM
set_option linter.unusedSimpArgs false
set_option linter.unusedVariables false
set_option maxRecDepth 4000
theorem cat_take (pf s : Str) (i : Nat) (h : ∀ j, j < i → 150 * j ≤ s.length) : catS ((List.range i).map (pairAt pf s)) = s.take (150 * i) := by
  induction i with
  | zero => rfl
  | succ i ih =>
    rw [range_map_succ, catS_snoc, ih (fun j hj => h j (by omega))]
    have hi := h i (by omega)
    simp only [pairAt, partS]
    rw [show 150 * (i + 1) = 150 * i + 150 by omega, List.take_add]
    congr 1
    by_cases hc : 150 * i + 150 ≤ s.length
    · rw [Nat.min_eq_left hc]; congr 1; omega
    · rw [Nat.min_eq_right (by omega), List.take_of_length_le (by simp), List.take_of_length_le (by simp; omega)]
theorem cat_pairs (pf s : Str) : catS (pairsS pf s) = s := by
  rw [pairsS_eq, cat_take]
  · exact List.take_of_length_le (by unfold cntN; split <;> omega)
  · intro j hj
    unfold cntN at hj
    split at hj <;> omega
theorem join_pairs {pf s : Str} (hr : rightP pf = true) (hs : s.length ≤ 1400) : joinS pf (pairsS pf s) = (s, 0) := by
  have h1 : pairsS pf s ≠ [] := by
    intro h
    have := congrArg List.length h
    rw [pairsS_eq] at this
    simp only [List.length_map, List.length_range, List.length_nil, cntN] at this
    split at this <;> omega
  have h2 : goodJ pf (pairsS pf s) := ⟨by rw [cat_pairs]; exact hs, by rw [cat_pairs]⟩
  unfold joinS
  rw [if_pos hr, if_neg h1, if_pos h2, cat_pairs]
theorem pairs_get {pf s : Str} {k : Nat} (hk : k < cntN s.length) : (pairsS pf s)[k]? = some (pairAt pf s k) := by
  rw [pairsS_eq]; simp [hk]
theorem join_turned {pf s tn : Str} {k : Nat} (hr : rightP pf = true) (hs : s.length ≤ 1400) (hk : k < cntN s.length) :
    decide (tn = partS s k) = (decide ((joinS pf ((pairsS pf s).set k ⟨keyS pf k, tn⟩)).1 = s) && decide ((joinS pf ((pairsS pf s).set k ⟨keyS pf k, tn⟩)).2 = 0)) := by
  by_cases he : tn = partS s k
  · subst he
    have : (pairsS pf s).set k ⟨keyS pf k, partS s k⟩ = pairsS pf s := by
      refine List.ext_getElem? fun i => ?_
      by_cases hi : k = i
      · subst hi
        rw [List.getElem?_set_self', pairs_get hk]; rfl
      · rw [List.getElem?_set_ne hi]
    rw [this, join_pairs hr hs]
    simp
  · rw [decide_eq_false he]
    symm
    rw [Bool.and_eq_false_iff]
    by_cases h1 : (joinS pf ((pairsS pf s).set k ⟨keyS pf k, tn⟩)).1 = s
    · right
      rw [decide_eq_false_iff_not]
      intro h2
      generalize hl : (pairsS pf s).set k ⟨keyS pf k, tn⟩ = l at *
      unfold joinS at h1 h2
      rw [if_pos hr] at h1 h2
      split at h2
      · simp at h2
      · rename_i hne
        rw [if_neg hne] at h1
        split at h2
        · rename_i hg
          rw [if_pos hg] at h1
          have h3 := hg.2
          have h1 : catS l = s := h1
          rw [h1, ← hl] at h3
          have h4 := congrArg (fun z => z[k]?) h3
          simp only [List.getElem?_set_self', pairs_get hk] at h4
          have h5 := Option.some.inj h4
          exact he (congrArg Pair.value h5)
        · simp at h2
    · left
      rw [decide_eq_false_iff_not]
      exact h1
theorem law11_ChunkWhole (pf s tn : Str) (a : Int) : CallF Try.prog n_law11_ChunkWhole [.str pf, .str s, I a, .str tn] (.bool true) := by
  by_cases hg : pf.length ≤ 40 ∧ 1 ≤ pf.length ∧ s.length ≤ 1400 ∧ tn.length ≤ 200
  case neg =>
    refine CallF.of_nil (of_law11_ChunkWhole (by simp) ?_) rfl
    unfold b_law11_ChunkWhole WpR
    intro Q hQr hQn hQp
    repeat' (first
      | simp (disch := omega) only [go_sem, hQr, hQn, hQp, Int.tdiv_eq_ediv_of_nonneg, Int.tmod_eq_emod_of_nonneg, wrapK_i64, wrapK_u8, wrapK_u64, x_get0, x_getS, x_set0, x_setS, x_getD0, x_getDS, x_lenC, x_lenN, x_drop0, x_dropS, x_take0, x_takeS, x_mapC, x_mapN, x_appC, x_appN, x_appE, x_rep0, x_repS, x_many0, x_manyS, x_cellsA, x_cellsI, x_cellsB, x_cellsS, x_cellsL, x_cellsN, x_cellsO, x_cellsR, x_cellsP, x_cellsF, x_nil1, x_nil2, x_nil3, x_contC, x_contN, boolbeq1, boolbeq2, getD_map, eBytes_nil, take_one, Bool.or_false, Bool.or_true, Bool.true_or, Bool.false_or, Nat.reduceAdd, Nat.reduceBEq, ↓reduceIte, beq_self_eq_true, Bool.and_true, Bool.true_and, Bool.and_false, Bool.false_and, Int.toNat_natCast, Int.toNat_natCast_add_one, Int.toNat_zero, List.length_map, List.length_append, Nat.zero_add, Bool.not_true, Bool.not_false]
      | with_reducible refine callL_f (law11_lives) ?_
      | with_reducible refine callD_f (law11_lives) ?_
      | ((with_reducible refine req_d ?_ ?_); (· (first | (simp only [ne_eq, not_false_eq_true, true_and, and_true, AV.fits, AV.scalar, AV.cells, List.all_cons, List.all_nil, Bool.and_true, Bool.true_and, List.length_cons, List.length_nil, decide_true, beq_self_eq_true, apartAll, apartA, AV.obj, roomOk]; done) | omega | (simp [ne_eq, not_false_eq_true, true_and, and_true, AV.fits, AV.scalar, AV.cells, List.all_cons, List.all_nil, Bool.and_true, Bool.true_and, List.length_cons, List.length_nil, decide_true, beq_self_eq_true, apartAll, apartA, AV.obj, roomOk]; done) | (simp [ne_eq, not_false_eq_true, true_and, and_true, AV.fits, AV.scalar, AV.cells, List.all_cons, List.all_nil, Bool.and_true, Bool.true_and, List.length_cons, List.length_nil, decide_true, beq_self_eq_true, apartAll, apartA, AV.obj, roomOk]; omega) | assumption)))
      | with_reducible refine scope_no ?_
      | ((with_reducible refine b2sO_whole _ rfl ?_ ?_ ?_); (· simp); (· simp))
      | ((with_reducible refine condA_i (fun hw => ?_) (fun hw => ?_)) <;> ((try simp only [decide_eq_true_eq, decide_eq_false_iff_not, beq_iff_eq, beq_eq_false_iff_ne, Bool.not_eq_true', Bool.not_eq_false', Bool.not_true, Bool.not_false, Int.not_lt, Int.not_le, ne_eq, Int.ofNat_lt, Int.ofNat_le, not_true_eq_false, reduceCtorEq, Int.toNat_zero] at hw) <;> (try omega)))
      | ((with_reducible refine guardK_i (fun hw => ?_) (fun hw => ?_)) <;> ((try simp only [decide_eq_true_eq, decide_eq_false_iff_not, beq_iff_eq, beq_eq_false_iff_ne, Bool.not_eq_true', Bool.not_eq_false', Bool.not_true, Bool.not_false, Int.not_lt, Int.not_le, ne_eq, Int.ofNat_lt, Int.ofNat_le, not_true_eq_false, reduceCtorEq, Int.toNat_zero] at hw) <;> (try omega))))
    all_goals first | exact leafE rfl rfl | (exfalso; omega)
  obtain ⟨g1, g2, g3, g4⟩ := hg
  have hr : rightP pf = true := by simp [rightP, g1, g2]
  have c1 := chunk_Edits pf s (by omega) (by omega)
  rw [editsS_ok hr (by omega)] at c1
  have c2 := chunk_Count s.length (by omega) (by omega)
  rw [cntI_nat] at c2
  obtain ⟨X, hX⟩ : ∃ X, (pairsS pf s).map ePair = X := ⟨_, rfl⟩
  obtain ⟨c, hc⟩ : ∃ c, cntN s.length = c := ⟨_, rfl⟩
  have hc1 : 1 ≤ c ∧ c ≤ 10 := by subst hc; unfold cntN; split <;> omega
  have hXl : X.length = c := by subst hX; rw [pairsS_eq]; simp [hc]
  have hXk : ∀ k, k < c → X.getD k .undef = .agg [.str (keyS pf k), .str (partS s k)] := fun k hk => by
    subst hX; rw [List.getD_eq_getElem?_getD, List.getElem?_map, pairs_get (by omega)]; rfl
  have hXp : AV.purL X = true := by subst hX; exact purL_p _
  have j1 := chunk_Join pf (pairsS pf s) (by omega) (by rw [pairsS_eq]; simp [hc]; omega)
  rw [join_pairs hr g3] at j1
  have j2 : ∀ k, k < c → ∃ (u : Str) (g : Int), CallF Try.prog n_chunk_Join [.str pf, .lst false EP (X.set k (.agg [.str (keyS pf k), .str tn]))] (.tup [.str u, I g]) ∧ decide (tn = partS s k) = (decide (u = s) && decide (g = 0)) := fun k hk => by
    have := chunk_Join pf ((pairsS pf s).set k ⟨keyS pf k, tn⟩) (by omega) (by rw [List.length_set, pairsS_eq]; simp [hc]; omega)
    simp only [ePairs, List.map_set, hX] at this
    exact ⟨_, _, this, join_turned hr g3 (by omega)⟩
  simp only [ePairs, hX] at j1
  obtain ⟨E, hE⟩ : ∃ E, ((clearS pf).1 :: (List.range (cntN s.length)).map (editAt pf s)).map eEdit = E := ⟨_, rfl⟩
  simp only [eEdits, hE] at c1
  have hEl : E.length = c + 1 := by subst hE; simp [hc]
  have hEk : ∀ k, k < c → E.getD (k + 1) .undef = .agg [.str (keyS pf k), .str (partS s k), .bool false, .str []] := fun k hk => by
    subst hE; rw [List.map_cons, List.getD_cons_succ]; simp [hc, hk, eEdit, editAt]
  have hXr : ∀ i, i < c → (X.take i) ++ [.agg [.str (keyS pf i), .str (partS s i)]] = X.take (i + 1) := fun i hi => by
    rw [List.take_succ_eq_append_getElem (by omega)]
    have := hXk i hi
    rw [List.getD_eq_getElem?_getD, List.getElem?_eq_getElem (by omega), Option.getD_some] at this
    rw [this]
  rw [hc] at c2
  obtain ⟨A, hA⟩ : ∃ A, wrapK .u64 a = A := ⟨_, rfl⟩
  have hA2 : 0 ≤ A ∧ A < 18446744073709551616 := by
    subst hA; rw [wrapK_u64_mod]; omega
  obtain ⟨k, hk⟩ : ∃ k : Nat, A % (c : Int) = (k : Int) := ⟨(A % (c : Int)).toNat, by rw [Int.toNat_of_nonneg (Int.emod_nonneg _ (by omega))]⟩
  have hkc : k < c := by
    have := Int.emod_lt_of_pos A (show (0 : Int) < c by omega)
    omega
  obtain ⟨u, g, j3, j4⟩ := j2 k hkc
  have j5 : (tn == partS s k) = ((u == s) && (g == 0)) := by
    rw [Bool.eq_iff_iff]; rw [Bool.eq_iff_iff] at j4; simpa using j4
  clear j2 j4 hE hX
  refine CallF.of_nil (of_law11_ChunkWhole (by simp) ?_) rfl
  unfold b_law11_ChunkWhole WpR
  intro Q hQr hQn hQp
  repeat' (first
    | simp (disch := omega) only [go_sem, hQr, hQn, hQp, Int.tdiv_eq_ediv_of_nonneg, Int.tmod_eq_emod_of_nonneg, wrapK_i64, wrapK_u8, wrapK_u64, x_get0, x_getS, x_set0, x_setS, x_getD0, x_getDS, x_lenC, x_lenN, x_drop0, x_dropS, x_take0, x_takeS, x_mapC, x_mapN, x_appC, x_appN, x_appE, x_rep0, x_repS, x_many0, x_manyS, x_cellsA, x_cellsI, x_cellsB, x_cellsS, x_cellsL, x_cellsN, x_cellsO, x_cellsR, x_cellsP, x_cellsF, x_nil1, x_nil2, x_nil3, x_contC, x_contN, boolbeq1, boolbeq2, getD_map, eBytes_nil, take_one, Bool.or_false, Bool.or_true, Bool.true_or, Bool.false_or, Nat.reduceAdd, Nat.reduceBEq, ↓reduceIte, beq_self_eq_true, Bool.and_true, Bool.true_and, Bool.and_false, Bool.false_and, Int.toNat_natCast, Int.toNat_natCast_add_one, Int.toNat_zero, List.length_map, List.length_append, Nat.zero_add, Bool.not_true, Bool.not_false, hEl]
    | with_reducible refine callL_f (c1) ?_
    | with_reducible refine callD_f (c1) ?_
    | with_reducible refine callL_f (c2) ?_
    | with_reducible refine callD_f (c2) ?_
    | ((with_reducible refine req_d ?_ ?_); (· (first | (simp only [ne_eq, not_false_eq_true, true_and, and_true, AV.fits, AV.scalar, AV.cells, List.all_cons, List.all_nil, Bool.and_true, Bool.true_and, List.length_cons, List.length_nil, decide_true, beq_self_eq_true, apartAll, apartA, AV.obj, roomOk]; done) | omega | (simp [ne_eq, not_false_eq_true, true_and, and_true, AV.fits, AV.scalar, AV.cells, List.all_cons, List.all_nil, Bool.and_true, Bool.true_and, List.length_cons, List.length_nil, decide_true, beq_self_eq_true, apartAll, apartA, AV.obj, roomOk]; done) | (simp [ne_eq, not_false_eq_true, true_and, and_true, AV.fits, AV.scalar, AV.cells, List.all_cons, List.all_nil, Bool.and_true, Bool.true_and, List.length_cons, List.length_nil, decide_true, beq_self_eq_true, apartAll, apartA, AV.obj, roomOk]; omega) | assumption)))
    | with_reducible refine scope_no ?_
    | ((with_reducible refine b2sO_whole _ rfl ?_ ?_ ?_); (· simp); (· simp))
    | ((with_reducible refine condA_i (fun hw => ?_) (fun hw => ?_)) <;> ((try simp only [decide_eq_true_eq, decide_eq_false_iff_not, beq_iff_eq, beq_eq_false_iff_ne, Bool.not_eq_true', Bool.not_eq_false', Bool.not_true, Bool.not_false, Int.not_lt, Int.not_le, ne_eq, Int.ofNat_lt, Int.ofNat_le, not_true_eq_false, reduceCtorEq, Int.toNat_zero] at hw) <;> (try omega)))
    | ((with_reducible refine guardK_i (fun hw => ?_) (fun hw => ?_)) <;> ((try simp only [decide_eq_true_eq, decide_eq_false_iff_not, beq_iff_eq, beq_eq_false_iff_ne, Bool.not_eq_true', Bool.not_eq_false', Bool.not_true, Bool.not_false, Int.not_lt, Int.not_le, ne_eq, Int.ofNat_lt, Int.ofNat_le, not_true_eq_false, reduceCtorEq, Int.toNat_zero] at hw) <;> (try omega))))
  all_goals try (exfalso; omega)
  with_reducible refine loop_i [11, 12, 55, 56, 57, 58, 59, 60, 61, 62, 63, 64, 65, 66, 67, 68, 69, 70, 71, 72, 73, 74] (fun i : Nat => [(12, I ((i : Int) + 1)), (11, .own EP 0 i 0 i)]) (fun i => [.vec EP (X.take i)]) (fun i => i ≤ c) (fun i => c - i) (0) ?_ ?_ ?_ ?_
  · simp
  · simp
  · simp (disch := omega) only [at_nil, at_cons, and_true, go_sem, hQr, hQn, hQp, Int.tdiv_eq_ediv_of_nonneg, Int.tmod_eq_emod_of_nonneg, wrapK_i64, wrapK_u8, wrapK_u64, x_get0, x_getS, x_set0, x_setS, x_getD0, x_getDS, x_lenC, x_lenN, x_drop0, x_dropS, x_take0, x_takeS, x_mapC, x_mapN, x_appC, x_appN, x_appE, x_rep0, x_repS, x_many0, x_manyS, x_cellsA, x_cellsI, x_cellsB, x_cellsS, x_cellsL, x_cellsN, x_cellsO, x_cellsR, x_cellsP, x_cellsF, x_nil1, x_nil2, x_nil3, x_contC, x_contN, boolbeq1, boolbeq2, getD_map, eBytes_nil, take_one, Bool.or_false, Bool.or_true, Bool.true_or, Bool.false_or, Nat.reduceAdd, Nat.reduceBEq, ↓reduceIte, beq_self_eq_true, Bool.and_true, Bool.true_and, Bool.and_false, Bool.false_and, Int.toNat_natCast, Int.toNat_natCast_add_one, Int.toNat_zero, List.length_map, List.length_append, Nat.zero_add, Bool.not_true, Bool.not_false, Int.natCast_add, Int.cast_ofNat_Int] <;> (try trivial) <;> (try omega) <;> (try (repeat (first | trivial | (refine And.intro ?_ ?_) | (congr 1; omega))))
  rintro i r h1
  have htl : (X.take i).length = i := by rw [List.length_take]; omega
  by_cases hi : i < c
  · repeat' (first
      | simp (disch := omega) only [go_sem, hQr, hQn, hQp, Int.tdiv_eq_ediv_of_nonneg, Int.tmod_eq_emod_of_nonneg, wrapK_i64, wrapK_u8, wrapK_u64, x_get0, x_getS, x_set0, x_setS, x_getD0, x_getDS, x_lenC, x_lenN, x_drop0, x_dropS, x_take0, x_takeS, x_mapC, x_mapN, x_appC, x_appN, x_appE, x_rep0, x_repS, x_many0, x_manyS, x_cellsA, x_cellsI, x_cellsB, x_cellsS, x_cellsL, x_cellsN, x_cellsO, x_cellsR, x_cellsP, x_cellsF, x_nil1, x_nil2, x_nil3, x_contC, x_contN, boolbeq1, boolbeq2, getD_map, eBytes_nil, take_one, Bool.or_false, Bool.or_true, Bool.true_or, Bool.false_or, Nat.reduceAdd, Nat.reduceBEq, ↓reduceIte, beq_self_eq_true, Bool.and_true, Bool.true_and, Bool.and_false, Bool.false_and, Int.toNat_natCast, Int.toNat_natCast_add_one, Int.toNat_zero, List.length_map, List.length_append, Nat.zero_add, Bool.not_true, Bool.not_false, hEl, hEk i hi, htl]
      | ((with_reducible refine req_d ?_ ?_); (· (first | (simp only [ne_eq, not_false_eq_true, true_and, and_true, AV.fits, AV.scalar, AV.cells, List.all_cons, List.all_nil, Bool.and_true, Bool.true_and, List.length_cons, List.length_nil, decide_true, beq_self_eq_true, apartAll, apartA, AV.obj, roomOk]; done) | omega | (simp [ne_eq, not_false_eq_true, true_and, and_true, AV.fits, AV.scalar, AV.cells, List.all_cons, List.all_nil, Bool.and_true, Bool.true_and, List.length_cons, List.length_nil, decide_true, beq_self_eq_true, apartAll, apartA, AV.obj, roomOk]; done) | (simp [ne_eq, not_false_eq_true, true_and, and_true, AV.fits, AV.scalar, AV.cells, List.all_cons, List.all_nil, Bool.and_true, Bool.true_and, List.length_cons, List.length_nil, decide_true, beq_self_eq_true, apartAll, apartA, AV.obj, roomOk]; omega) | assumption)))
      | with_reducible refine scope_no ?_
      | ((with_reducible refine b2sO_whole _ rfl ?_ ?_ ?_); (· simp); (· simp))
      | ((with_reducible refine condA_i (fun hw => ?_) (fun hw => ?_)) <;> ((try simp only [decide_eq_true_eq, decide_eq_false_iff_not, beq_iff_eq, beq_eq_false_iff_ne, Bool.not_eq_true', Bool.not_eq_false', Bool.not_true, Bool.not_false, Int.not_lt, Int.not_le, ne_eq, Int.ofNat_lt, Int.ofNat_le, not_true_eq_false, reduceCtorEq, Int.toNat_zero] at hw) <;> (try omega)))
      | ((with_reducible refine guardK_i (fun hw => ?_) (fun hw => ?_)) <;> ((try simp only [decide_eq_true_eq, decide_eq_false_iff_not, beq_iff_eq, beq_eq_false_iff_ne, Bool.not_eq_true', Bool.not_eq_false', Bool.not_true, Bool.not_false, Int.not_lt, Int.not_le, ne_eq, Int.ofNat_lt, Int.ofNat_le, not_true_eq_false, reduceCtorEq, Int.toNat_zero] at hw) <;> (try omega))))
    refine ⟨i + 1, ?_, ?_, ?_, (by repeat (first | exact out_ovl _ _ _ | refine out_upd rfl ?_ | refine out_ovl2 rfl ?_ | (simp only [puts_cons, puts_nil]))), (by simp (disch := omega) only [at_nil, at_cons, and_true, go_sem, hQr, hQn, hQp, Int.tdiv_eq_ediv_of_nonneg, Int.tmod_eq_emod_of_nonneg, wrapK_i64, wrapK_u8, wrapK_u64, x_get0, x_getS, x_set0, x_setS, x_getD0, x_getDS, x_lenC, x_lenN, x_drop0, x_dropS, x_take0, x_takeS, x_mapC, x_mapN, x_appC, x_appN, x_appE, x_rep0, x_repS, x_many0, x_manyS, x_cellsA, x_cellsI, x_cellsB, x_cellsS, x_cellsL, x_cellsN, x_cellsO, x_cellsR, x_cellsP, x_cellsF, x_nil1, x_nil2, x_nil3, x_contC, x_contN, boolbeq1, boolbeq2, getD_map, eBytes_nil, take_one, Bool.or_false, Bool.or_true, Bool.true_or, Bool.false_or, Nat.reduceAdd, Nat.reduceBEq, ↓reduceIte, beq_self_eq_true, Bool.and_true, Bool.true_and, Bool.and_false, Bool.false_and, Int.toNat_natCast, Int.toNat_natCast_add_one, Int.toNat_zero, List.length_map, List.length_append, Nat.zero_add, Bool.not_true, Bool.not_false, Int.natCast_add, Int.cast_ofNat_Int] <;> (try trivial) <;> (try omega) <;> (try (repeat (first | trivial | (refine And.intro ?_ ?_) | (congr 1; omega)))))⟩ <;> (try dsimp only)
    · omega
    · omega
    · rw [← hXr i hi]
  · have : i = c := by omega
    subst this
    have htk : X.take i = X := List.take_of_length_le (by omega)
    have hXp2 : AV.purL (X.set k (.agg [.str (keyS pf k), .str tn])) = true := purL_iff.2 fun x hx => by
      rcases List.mem_or_eq_of_mem_set hx with h | rfl
      · exact purL_iff.1 hXp x h
      · rfl
    repeat' (first
      | simp (disch := omega) only [go_sem, hQr, hQn, hQp, Int.tdiv_eq_ediv_of_nonneg, Int.tmod_eq_emod_of_nonneg, wrapK_i64, wrapK_u8, wrapK_u64, x_get0, x_getS, x_set0, x_setS, x_getD0, x_getDS, x_lenC, x_lenN, x_drop0, x_dropS, x_take0, x_takeS, x_mapC, x_mapN, x_appC, x_appN, x_appE, x_rep0, x_repS, x_many0, x_manyS, x_cellsA, x_cellsI, x_cellsB, x_cellsS, x_cellsL, x_cellsN, x_cellsO, x_cellsR, x_cellsP, x_cellsF, x_nil1, x_nil2, x_nil3, x_contC, x_contN, boolbeq1, boolbeq2, getD_map, eBytes_nil, take_one, Bool.or_false, Bool.or_true, Bool.true_or, Bool.false_or, Nat.reduceAdd, Nat.reduceBEq, ↓reduceIte, beq_self_eq_true, Bool.and_true, Bool.true_and, Bool.and_false, Bool.false_and, Int.toNat_natCast, Int.toNat_natCast_add_one, Int.toNat_zero, List.length_map, List.length_append, Nat.zero_add, Bool.not_true, Bool.not_false, hEl, htk, hXl, hA, hk, hXk k hkc, List.length_set]
      | (with_reducible refine callL_v j1 (.cons (View.refl _ rfl) (.cons (View.vec rfl hXl.symm hXl.symm hXp) (.nil _))) rfl ?_)
      | (with_reducible refine callL_v j3 (.cons (View.refl _ rfl) (.cons (View.vec rfl (by simp [hXl]) (by simp [hXl]) hXp2) (.nil _))) rfl ?_)
      | with_reducible refine callL_f (law11_lives) ?_
      | with_reducible refine callD_f (law11_lives) ?_
      | ((with_reducible refine req_d ?_ ?_); (· (first | (simp only [ne_eq, not_false_eq_true, true_and, and_true, AV.fits, AV.scalar, AV.cells, List.all_cons, List.all_nil, Bool.and_true, Bool.true_and, List.length_cons, List.length_nil, decide_true, beq_self_eq_true, apartAll, apartA, AV.obj, roomOk]; done) | omega | (simp [ne_eq, not_false_eq_true, true_and, and_true, AV.fits, AV.scalar, AV.cells, List.all_cons, List.all_nil, Bool.and_true, Bool.true_and, List.length_cons, List.length_nil, decide_true, beq_self_eq_true, apartAll, apartA, AV.obj, roomOk]; done) | (simp [ne_eq, not_false_eq_true, true_and, and_true, AV.fits, AV.scalar, AV.cells, List.all_cons, List.all_nil, Bool.and_true, Bool.true_and, List.length_cons, List.length_nil, decide_true, beq_self_eq_true, apartAll, apartA, AV.obj, roomOk]; omega) | assumption)))
      | with_reducible refine scope_no ?_
      | ((with_reducible refine b2sO_whole _ rfl ?_ ?_ ?_); (· simp); (· simp))
      | ((with_reducible refine condA_i (fun hw => ?_) (fun hw => ?_)) <;> ((try simp only [decide_eq_true_eq, decide_eq_false_iff_not, beq_iff_eq, beq_eq_false_iff_ne, Bool.not_eq_true', Bool.not_eq_false', Bool.not_true, Bool.not_false, Int.not_lt, Int.not_le, ne_eq, Int.ofNat_lt, Int.ofNat_le, not_true_eq_false, reduceCtorEq, Int.toNat_zero] at hw) <;> (try omega)))
      | ((with_reducible refine guardK_i (fun hw => ?_) (fun hw => ?_)) <;> ((try simp only [decide_eq_true_eq, decide_eq_false_iff_not, beq_iff_eq, beq_eq_false_iff_ne, Bool.not_eq_true', Bool.not_eq_false', Bool.not_true, Bool.not_false, Int.not_lt, Int.not_le, ne_eq, Int.ofNat_lt, Int.ofNat_le, not_true_eq_false, reduceCtorEq, Int.toNat_zero] at hw) <;> (try omega))))
    all_goals clear hQr hQn hQp j1 j3 c1 c2 hEk hXr hXk hXp hXp2
    all_goals first | exact leafE rfl rfl | (exfalso; simp_all; done)
end Go.Proofs.Ytkimohopfhgcjaa
