/- Part of a proof: see Root. -/
import Derived.Test.YtmbgnaoilncbnaaGreatW16
set_option linter.unnecessarySimpa false
set_option linter.unusedSimpArgs false
set_option linter.unusedVariables false
namespace Go.Proofs.YtmbgnaoilncbnaaGreat
open Go.AM
set_option maxRecDepth 4000
theorem value_TakeRow (s : Str) (most : Int) (hs : s.length ≤ 2 ^ 30) : CallF Tryz.prog n_value_TakeRow [.str s, I most] (eVsS (takeR s most)) := by
  have h1 := octet_TakeNum s (by omega)
  have hr := takeN_len s
  obtain ⟨E, hE⟩ : ∃ E, takeR s most = E := ⟨_, rfl⟩
  rw [hE]
  unfold takeR at hE
  generalize takeN s = t at *
  obtain ⟨n, r, e⟩ := t
  dsimp only at hE hr
  simp only [eN] at h1
  refine CallF.of_nil (of_value_TakeRow (by simp) ?_) (by simp [eVsS])
  unfold b_value_TakeRow WpR
  intro Q hQr hQn hQp
  by_cases hb : e ≠ 0 ∨ n < 0 ∨ n > most
  · repeat' first | refine go_ ?_ | refine cf_ h1 ?_ | refine br_ (fun hw => ?_) (fun hw => ?_) <;> try omega | fail
    all_goals first | exact ab_ | refine leafN ?_
    · rw [if_pos (by omega)] at hE; rw [← hE]; exact vw_
    · rw [if_neg (by omega), if_pos (by omega)] at hE; rw [← hE]; exact vw_
    · rw [if_neg (by omega), if_neg (by omega), if_pos (by omega)] at hE; rw [← hE]; exact vw_
  rw [if_neg (by omega), if_neg (by omega), if_neg (by omega)] at hE
  repeat' first | refine go_ ?_ | refine cf_ h1 ?_ | refine br_ (fun hw => ?_) (fun hw => ?_) <;> try omega | fail
  all_goals first | exact ab_ | skip
  with_reducible refine loop_i [4, 5, 6, 8, 9, 10, 11, 29, 30, 31, 32, 33, 34, 35, 36, 37, 38, 39, 40, 41, 42, 43, 44, 45] (fun q : List Val × Str × List AObj => [(10, .own EV 0 q.1.length 0 q.1.length), (8, .str q.2.1)]) (fun q => .vec EV (q.1.map eVal) :: q.2.2) (fun q => q.1.length + q.2.1.length ≤ 2 ^ 30 ∧ q.1.length ≤ n.toNat ∧ E = takeVs (n.toNat - q.1.length) q.1 q.2.1) (fun q => n.toNat - q.1.length) (([], r, [])) ?_ ?_ ?_ ?_
  · exact ⟨by simp; omega, by simp, hE.symm⟩
  · rfl
  · exact at_
  rintro ⟨out, r, τ⟩ u ⟨g1, g2, g3⟩
  dsimp only at g1 g2 g3
  by_cases hn : (out.length : Int) < n
  · obtain ⟨k, hk⟩ : ∃ k, n.toNat - out.length = k + 1 := ⟨n.toNat - out.length - 1, by omega⟩
    rw [hk, takeVs] at g3
    have h2 := value_Take r (by omega)
    have hv := takeV_ok r
    generalize takeV r = t at *
    obtain ⟨v, r2, e2⟩ := t
    dsimp only at g3 hv
    simp only [eVS] at h2
    by_cases he : e2 = 0
    · rw [if_neg (by omega)] at g3
      have hlt := hv.2.1 he
      repeat' first | simp (disch := omega) only [go_sem, hQr, hQn, hQp, wrapK_i64, wrapK_u8, wrapK_u64, Nat.reduceAdd, Nat.reduceBEq, ↓reduceIte, he] | refine go_ ?_ | refine cf_ h2 ?_ | refine br_ (fun hw => ?_) (fun hw => ?_) <;> try omega | fail
      all_goals first
        | exact ab_
        | (refine ⟨(out ++ [v], r2, τ ++ [AObj.cells [I v.kind, I v.n, .str v.s]]), ?_, ?_, ?_, ou_, at_⟩
           · have e : n.toNat - (out ++ [v]).length = k := by simp; omega
             dsimp only
             rw [e]; exact ⟨by simp; omega, by simp; omega, g3⟩
           · simp; omega
           · first | rfl | (simp [go_sem]; done))
    · rw [if_pos he] at g3
      repeat' first | refine go_ ?_ | refine cf_ h2 ?_ | refine br_ (fun hw => ?_) (fun hw => ?_) <;> try omega | fail
      all_goals first | exact ab_ | (refine leafN ?_; rw [g3]; exact vw_)
  · have : n.toNat - out.length = 0 := by omega
    rw [this, takeVs] at g3
    repeat' first | refine go_ ?_ | refine br_ (fun hw => ?_) (fun hw => ?_) <;> try omega | fail
    refine leafN ?_
    rw [g3]
    exact ViewL.cons (View.vec rfl (by simp) (by simp) (purL_v _)) (ViewL.refl rfl)
theorem ref12_TakeRow (s : Str) (most : Int) (hs : s.length ≤ 2 ^ 30) : CallF Tryz.prog n_ref12_TakeRow [.str s, I most] (eVsS (takeR s most)) := by
  have h1 := ref01_TakeNum s (by omega)
  have hr := takeN_len s
  obtain ⟨E, hE⟩ : ∃ E, takeR s most = E := ⟨_, rfl⟩
  rw [hE]
  unfold takeR at hE
  generalize takeN s = t at *
  obtain ⟨n, r, e⟩ := t
  dsimp only at hE hr
  simp only [eN] at h1
  refine CallF.of_nil (of_ref12_TakeRow (by simp) ?_) (by simp [eVsS])
  unfold b_ref12_TakeRow WpR
  intro Q hQr hQn hQp
  by_cases hb : e ≠ 0 ∨ n < 0 ∨ n > most
  · repeat' first | refine go_ ?_ | refine cf_ h1 ?_ | refine br_ (fun hw => ?_) (fun hw => ?_) <;> try omega | fail
    all_goals first | exact ab_ | refine leafN ?_
    · rw [if_pos (by omega)] at hE; rw [← hE]; exact vw_
    · rw [if_neg (by omega), if_pos (by omega)] at hE; rw [← hE]; exact vw_
    · rw [if_neg (by omega), if_neg (by omega), if_pos (by omega)] at hE; rw [← hE]; exact vw_
  rw [if_neg (by omega), if_neg (by omega), if_neg (by omega)] at hE
  repeat' first | refine go_ ?_ | refine cf_ h1 ?_ | refine br_ (fun hw => ?_) (fun hw => ?_) <;> try omega | fail
  all_goals first | exact ab_ | skip
  with_reducible refine loop_i [4, 5, 6, 8, 10, 11, 12, 13, 31, 32, 33, 34, 35, 36, 37, 38, 39, 40, 41, 42, 43, 44, 45, 46, 47, 48] (fun q : List Val × Str × List AObj => [(10, .own EV 0 q.1.length 0 q.1.length), (8, .str q.2.1)]) (fun q => .vec EV (q.1.map eVal) :: q.2.2) (fun q => q.1.length + q.2.1.length ≤ 2 ^ 30 ∧ q.1.length ≤ n.toNat ∧ E = takeVs (n.toNat - q.1.length) q.1 q.2.1) (fun q => n.toNat - q.1.length) (([], r, [])) ?_ ?_ ?_ ?_
  · exact ⟨by simp; omega, by simp, hE.symm⟩
  · rfl
  · exact at_
  rintro ⟨out, r, τ⟩ u ⟨g1, g2, g3⟩
  dsimp only at g1 g2 g3
  by_cases hn : (out.length : Int) < n
  · obtain ⟨k, hk⟩ : ∃ k, n.toNat - out.length = k + 1 := ⟨n.toNat - out.length - 1, by omega⟩
    rw [hk, takeVs] at g3
    have h2 := ref12_Take r (by omega)
    have hv := takeV_ok r
    generalize takeV r = t at *
    obtain ⟨v, r2, e2⟩ := t
    dsimp only at g3 hv
    simp only [eVS] at h2
    by_cases he : e2 = 0
    · rw [if_neg (by omega)] at g3
      have hlt := hv.2.1 he
      repeat' first | simp (disch := omega) only [go_sem, hQr, hQn, hQp, wrapK_i64, wrapK_u8, wrapK_u64, Nat.reduceAdd, Nat.reduceBEq, ↓reduceIte, he] | refine go_ ?_ | refine cf_ h2 ?_ | refine br_ (fun hw => ?_) (fun hw => ?_) <;> try omega | fail
      all_goals first
        | exact ab_
        | (refine ⟨(out ++ [v], r2, τ ++ [AObj.cells [I v.kind, I v.n, .str v.s]]), ?_, ?_, ?_, ou_, at_⟩
           · have e : n.toNat - (out ++ [v]).length = k := by simp; omega
             dsimp only
             rw [e]; exact ⟨by simp; omega, by simp; omega, g3⟩
           · simp; omega
           · first | rfl | (simp [go_sem]; done))
    · rw [if_pos he] at g3
      repeat' first | refine go_ ?_ | refine cf_ h2 ?_ | refine br_ (fun hw => ?_) (fun hw => ?_) <;> try omega | fail
      all_goals first | exact ab_ | (refine leafN ?_; rw [g3]; exact vw_)
  · have : n.toNat - out.length = 0 := by omega
    rw [this, takeVs] at g3
    repeat' first | refine go_ ?_ | refine br_ (fun hw => ?_) (fun hw => ?_) <;> try omega | fail
    refine leafN ?_
    rw [g3]
    exact ViewL.cons (View.vec rfl (by simp) (by simp) (purL_v _)) (ViewL.refl rfl)
def rowR (l : List Val) : Str × Int := if l.all rightV then (rowB l, 0) else ([], 2)
theorem rowB_snoc {l : List Val} {i : Nat} (hi : i < l.length) (x : Str) : x ++ (l.take (i + 1)).flatMap bytesV = (x ++ (l.take i).flatMap bytesV) ++ bytesV (l.getD i default) := by
  rw [take_succ hi, List.flatMap_append]; simp
theorem value_Row (l : List Val) (hl : okVals l) : CallF Tryz.prog n_value_Row [eVals l] (.tup [.str (rowR l).1, I (rowR l).2]) := by
  obtain ⟨hl1, hl2⟩ := hl
  have h1 := octet_Num l.length ⟨by omega, by omega⟩
  have h2 := numB_len l.length
  obtain ⟨E, hE⟩ : ∃ E, rowR l = E := ⟨_, rfl⟩
  rw [hE]
  unfold rowR rowB at hE
  generalize numB l.length = x at *
  simp only [eVals]
  refine CallF.of_nil (of_value_Row (by simp) ?_) (by simp)
  unfold b_value_Row WpR
  intro Q hQr hQn hQp
  repeat' first | refine go_ ?_ | refine cf_ h1 ?_ | refine br_ (fun hw => ?_) (fun hw => ?_) <;> try omega | fail
  with_reducible refine loop_i [2, 3, 4, 6, 7, 8, 14, 15, 16, 17, 18, 19, 20, 21, 22, 23, 24, 25, 26, 27, 28, 29] (fun q : Nat × List AObj => [(14, I q.1), (4, .str (x ++ (l.take q.1).flatMap bytesV))]) (fun q => q.2) (fun q => q.1 ≤ l.length ∧ (∀ k, k < q.1 → rightV (l.getD k default) = true) ∧ x.length + ((l.take q.1).flatMap bytesV).length ≤ 10 + q.1 * 2147483648) (fun q => l.length - q.1) ((0, [])) ?_ ?_ ?_ ?_
  · simp; omega
  · rfl
  · simp only [List.take_zero, List.flatMap_nil, List.append_nil]; simp (disch := omega) only [at_nil, at_cons, and_true, go_sem, hQr, hQn, hQp, wrapK_i64, wrapK_u8, wrapK_u64, Nat.reduceAdd, Nat.reduceBEq, ↓reduceIte, Int.natCast_add, Int.cast_ofNat_Int] <;> (try trivial) <;> (try omega) <;> (try (repeat (first | trivial | (refine And.intro ?_ ?_) | (congr 1; omega))))
  rintro ⟨i, τ⟩ r ⟨g1, g2, g3⟩
  dsimp only at g1 g2 g3
  by_cases hi : i < l.length
  · have hv := hl2 _ (getD_mem hi)
    have hne := fun h => allF (p := rightV) hi h
    have hbs := fun he => before_succ (q := fun k => rightV (l.getD k default) = true) g2 (i := i) he
    have hsn := rowB_snoc hi x
    obtain ⟨v, hve⟩ : ∃ v, l.getD i default = v := ⟨_, rfl⟩
    rw [hve] at hv hne hbs hsn
    have h3 := value_Bytes v.kind v.n v.s hv.1 (by omega)
    have hbl := bytesV_len v
    have ev : bytesR ⟨v.kind, v.n, v.s⟩ = bytesR v := rfl
    rw [ev] at h3
    unfold bytesR at h3
    obtain ⟨y, hy⟩ : ∃ y, x ++ (l.take i).flatMap bytesV = y := ⟨_, rfl⟩
    have hyl : y.length = x.length + ((l.take i).flatMap bytesV).length := by rw [← hy, List.length_append]
    have hsl := congrArg List.length hsn
    rw [hy] at hsn
    simp only [List.length_append] at hsl
    have hadd : ((y.length + (bytesV v).length : Nat) : Int) ≤ IntKind.i64.max := by show _ ≤ (9223372036854775807 : Int); omega
    generalize rightV v = b at *
    cases b
    · simp only [Bool.false_eq_true, if_false] at h3
      rw [hne rfl] at hE
      simp only [Bool.false_eq_true, if_false] at hE
      repeat' first | simp (disch := omega) only [go_sem, hQr, hQn, hQp, wrapK_i64, wrapK_u8, wrapK_u64, Nat.reduceAdd, Nat.reduceBEq, ↓reduceIte, hve, hy] | refine go_ ?_ | refine cf_ h3 ?_ | refine br_ (fun hw => ?_) (fun hw => ?_) <;> try omega | fail
      all_goals first | exact ab_ | (exact leafNE (by rw [← hE]) rfl)
    · simp only [if_true] at h3
      repeat' first | simp (disch := omega) only [go_sem, hQr, hQn, hQp, wrapK_i64, wrapK_u8, wrapK_u64, Nat.reduceAdd, Nat.reduceBEq, ↓reduceIte, hve, hy] | refine go_ ?_ | refine cf_ h3 ?_ | refine br_ (fun hw => ?_) (fun hw => ?_) <;> try omega | fail
      all_goals first
        | exact ab_
        | (refine ⟨(i + 1, τ ++ [AObj.cells [I v.kind, I v.n, .str v.s]]), ?_, ?_, ?_, ou_, ?_⟩
           · refine ⟨by dsimp only; omega, hbs rfl, ?_⟩
             dsimp only
             omega
           · dsimp only; omega
           · first | rfl | (simp [go_sem]; done)
           · dsimp only; rw [hsn]; simp (disch := omega) only [at_nil, at_cons, and_true, go_sem, hQr, hQn, hQp, wrapK_i64, wrapK_u8, wrapK_u64, Nat.reduceAdd, Nat.reduceBEq, ↓reduceIte, Int.natCast_add, Int.cast_ofNat_Int] <;> (try trivial) <;> (try omega) <;> (try (repeat (first | trivial | (refine And.intro ?_ ?_) | (congr 1; omega)))))
  · have ht : l.take i = l := List.take_of_length_le (by omega)
    rw [allN (fun k hk => g2 k (by omega)), if_pos rfl] at hE
    repeat' first | simp (disch := omega) only [go_sem, hQr, hQn, hQp, wrapK_i64, wrapK_u8, wrapK_u64, Nat.reduceAdd, Nat.reduceBEq, ↓reduceIte, ht] | refine go_ ?_ | refine br_ (fun hw => ?_) (fun hw => ?_) <;> try omega | fail
    exact leafNE (by rw [← hE]) rfl
theorem ref12_Row (l : List Val) (hl : okVals l) (hr : l.all rightV = true) : CallF Tryz.prog n_ref12_Row [eVals l] (.str (rowB l)) := by
  obtain ⟨hl1, hl2⟩ := hl
  have h1 := ref01_Num l.length ⟨by omega, by omega⟩
  have h2 := numB_len l.length
  obtain ⟨E, hE⟩ : ∃ E, rowB l = E := ⟨_, rfl⟩
  rw [hE]
  unfold rowB at hE
  generalize numB l.length = x at *
  simp only [eVals]
  refine CallF.of_nil (of_ref12_Row (by simp) ?_) (by simp)
  unfold b_ref12_Row WpR
  intro Q hQr hQn hQp
  repeat' first | refine go_ ?_ | refine cf_ h1 ?_ | refine br_ (fun hw => ?_) (fun hw => ?_) <;> try omega | fail
  with_reducible refine loop_i [3, 4, 8, 9, 10, 11, 12, 13, 14, 15, 16, 17, 18, 19, 20] (fun q : Nat => [(4, I q), (3, .str (x ++ (l.take q).flatMap bytesV))]) (fun _ => []) (fun q => q ≤ l.length ∧ x.length + ((l.take q).flatMap bytesV).length ≤ 10 + q * 2147483648) (fun q => l.length - q) (0) ?_ ?_ ?_ ?_
  · simp; omega
  · rfl
  · simp only [List.take_zero, List.flatMap_nil, List.append_nil]; simp (disch := omega) only [at_nil, at_cons, and_true, go_sem, hQr, hQn, hQp, wrapK_i64, wrapK_u8, wrapK_u64, Nat.reduceAdd, Nat.reduceBEq, ↓reduceIte, Int.natCast_add, Int.cast_ofNat_Int] <;> (try trivial) <;> (try omega) <;> (try (repeat (first | trivial | (refine And.intro ?_ ?_) | (congr 1; omega))))
  rintro i r ⟨g1, g3⟩
  by_cases hi : i < l.length
  · have hv := hl2 _ (getD_mem hi)
    have hrt := List.all_eq_true.1 hr _ (getD_mem hi)
    have hsn := rowB_snoc hi x
    obtain ⟨v, hve⟩ : ∃ v, l.getD i default = v := ⟨_, rfl⟩
    rw [hve] at hv hsn hrt
    have hk := rightV_kind hrt
    have h3 := ref12_Bytes v.kind v.n v.s ⟨by omega, by omega⟩ hv.1 (by omega)
    have hbl := bytesV_len v
    have ev : bytesV ⟨v.kind, v.n, v.s⟩ = bytesV v := rfl
    rw [ev] at h3
    obtain ⟨y, hy⟩ : ∃ y, x ++ (l.take i).flatMap bytesV = y := ⟨_, rfl⟩
    have hyl : y.length = x.length + ((l.take i).flatMap bytesV).length := by rw [← hy, List.length_append]
    have hsl := congrArg List.length hsn
    rw [hy] at hsn
    simp only [List.length_append] at hsl
    have hadd : ((y.length + (bytesV v).length : Nat) : Int) ≤ IntKind.i64.max := by show _ ≤ (9223372036854775807 : Int); omega
    repeat' first | simp (disch := omega) only [go_sem, hQr, hQn, hQp, wrapK_i64, wrapK_u8, wrapK_u64, Nat.reduceAdd, Nat.reduceBEq, ↓reduceIte, hve, hy] | refine go_ ?_ | refine cf_ h3 ?_ | refine br_ (fun hw => ?_) (fun hw => ?_) <;> try omega | fail
    refine ⟨i + 1, ?_, ?_, ?_, ou_, ?_⟩
    · refine ⟨by omega, ?_⟩
      omega
    · dsimp only; omega
    · first | rfl | (simp [go_sem]; done)
    · dsimp only; rw [hsn]; simp (disch := omega) only [at_nil, at_cons, and_true, go_sem, hQr, hQn, hQp, wrapK_i64, wrapK_u8, wrapK_u64, Nat.reduceAdd, Nat.reduceBEq, ↓reduceIte, Int.natCast_add, Int.cast_ofNat_Int] <;> (try trivial) <;> (try omega) <;> (try (repeat (first | trivial | (refine And.intro ?_ ?_) | (congr 1; omega))))
  · have ht : l.take i = l := List.take_of_length_le (by omega)
    repeat' first | simp (disch := omega) only [go_sem, hQr, hQn, hQp, wrapK_i64, wrapK_u8, wrapK_u64, Nat.reduceAdd, Nat.reduceBEq, ↓reduceIte, ht] | refine go_ ?_ | refine br_ (fun hw => ?_) (fun hw => ?_) <;> try omega | fail
    exact leafE (by rw [← hE]) rfl
theorem ref12_RightRow (l : List Val) (hl : okVals l) : CallF Tryz.prog n_ref12_RightRow [eVals l] (.bool (l.all rightV)) := by
  obtain ⟨hl1, hl2⟩ := hl
  obtain ⟨E, hE⟩ : ∃ E, l.all rightV = E := ⟨_, rfl⟩
  rw [hE]
  simp only [eVals]
  refine CallF.of_nil (of_ref12_RightRow (by simp) ?_) (by simp)
  unfold b_ref12_RightRow WpR
  intro Q hQr hQn hQp
  repeat' first | refine go_ ?_ | refine br_ (fun hw => ?_) (fun hw => ?_) <;> try omega | fail
  with_reducible refine loop_i [2, 3, 4, 5, 6, 7, 8, 9, 10, 11, 12, 13, 14, 15] (fun q : Nat => [(3, I q)]) (fun _ => []) (fun q => q ≤ l.length ∧ ∀ k, k < q → rightV (l.getD k default) = true) (fun q => l.length - q) (0) ?_ ?_ ?_ ?_
  · simp
  · rfl
  · exact at_
  rintro i r ⟨g1, g2⟩
  by_cases hi : i < l.length
  · have hv := hl2 _ (getD_mem hi)
    have hne := fun h => allF (p := rightV) hi h
    have hbs := fun he => before_succ (q := fun k => rightV (l.getD k default) = true) g2 (i := i) he
    obtain ⟨v, hve⟩ : ∃ v, l.getD i default = v := ⟨_, rfl⟩
    rw [hve] at hv hne hbs
    have h3 := ref12_Right v.kind v.n v.s (by omega)
    have ev : rightV ⟨v.kind, v.n, v.s⟩ = rightV v := rfl
    rw [ev] at h3
    generalize rightV v = b at *
    repeat' first | simp (disch := omega) only [go_sem, hQr, hQn, hQp, wrapK_i64, wrapK_u8, wrapK_u64, Nat.reduceAdd, Nat.reduceBEq, ↓reduceIte, hve] | refine go_ ?_ | refine cf_ h3 ?_ | refine br_ (fun hw => ?_) (fun hw => ?_) <;> try omega | fail
    all_goals first
      | exact ab_
      | (exact leafE (by rw [← hE, hne (by simp_all)]) rfl)
      | (refine ⟨i + 1, ?_, ?_, by first | rfl | (simp [go_sem]; done), ou_, at_⟩ <;> (try dsimp only)
         · exact ⟨by omega, hbs (by simp_all)⟩
         · omega)
  · repeat' first | refine go_ ?_ | refine br_ (fun hw => ?_) (fun hw => ?_) <;> try omega | fail
    exact leafE (by rw [← hE, allN (fun k hk => g2 k (by omega))]) rfl
theorem law16_Few (l : List Val) : CallF Tryz.prog n_law16_Row_Few [eVals l] (.bool (decide (l.length ≤ 12) && l.all valB)) := by
  obtain ⟨E, hE⟩ : ∃ E, (decide (l.length ≤ 12) && l.all valB) = E := ⟨_, rfl⟩
  rw [hE]
  simp only [eVals]
  refine CallF.of_nil (of_law16_Row_Few (by simp) ?_) (by simp)
  unfold b_law16_Row_Few WpR
  intro Q hQr hQn hQp
  repeat' first | refine go_ ?_ | refine br_ (fun hw => ?_) (fun hw => ?_) <;> try omega | fail
  · exact leafE (by rw [← hE, decide_eq_false (by omega), Bool.false_and]) rfl
  have h12 : l.length ≤ 12 := by omega
  rw [decide_eq_true h12, Bool.true_and] at hE
  with_reducible refine loop_i [2, 3, 7, 8, 9, 10, 11, 12, 13, 14, 15, 16, 17, 18, 19] (fun q : Nat => [(3, I q)]) (fun _ => []) (fun q => q ≤ l.length ∧ ∀ k, k < q → valB (l.getD k default) = true) (fun q => l.length - q) (0) ?_ ?_ ?_ ?_
  · simp
  · rfl
  · exact at_
  rintro i r ⟨g1, g2⟩
  by_cases hi : i < l.length
  · have hne := fun h => allF (p := valB) hi h
    have hbs := fun he => before_succ (q := fun k => valB (l.getD k default) = true) g2 (i := i) he
    obtain ⟨v, hve⟩ : ∃ v, l.getD i default = v := ⟨_, rfl⟩
    rw [hve] at hne hbs
    have hS : valB v = decide (v.s.length ≤ 300) := rfl
    rw [hS] at hne hbs
    repeat' first | simp (disch := omega) only [go_sem, hQr, hQn, hQp, wrapK_i64, wrapK_u8, wrapK_u64, Nat.reduceAdd, Nat.reduceBEq, ↓reduceIte, hve] | refine go_ ?_ | refine br_ (fun hw => ?_) (fun hw => ?_) <;> try omega | fail
    all_goals first
      | exact ab_
      | (exact leafE (by rw [← hE, hne (decide_eq_false (by omega))]) rfl)
      | (refine ⟨i + 1, ?_, ?_, by first | rfl | (simp [go_sem]; done), ou_, at_⟩ <;> (try dsimp only)
         · exact ⟨by omega, hbs (decide_eq_true (by omega))⟩
         · omega)
  · repeat' first | refine go_ ?_ | refine br_ (fun hw => ?_) (fun hw => ?_) <;> try omega | fail
    exact leafE (by rw [← hE, allN (fun k hk => g2 k (by omega))]) rfl
def eInt (n : Int) : AV := I n
def eInts (l : List Int) : AV := .lst false E1 (l.map eInt)
def eRows (l : List (List Val)) : AV := .lst false E1 (l.map eVals)
def cEnt (e : Ent) : List AV := [.str e.table, I e.ver, eVals e.input, I e.err, eInts e.rules, eRows e.rows]
def eEnt (e : Ent) : AV := .agg (cEnt e)
attribute [go_sem] eInt eInts eRows cEnt eEnt
theorem pur_eInts (l : List Int) : (eInts l).pur = true := by simp only [eInts, AV.pur]; exact purL_map _ _ (fun _ => rfl)
theorem pur_eRows (l : List (List Val)) : (eRows l).pur = true := by simp only [eRows, AV.pur]; exact purL_map _ _ pur_eVals
theorem purL_i (l : List Int) : AV.purL (l.map eInt) = true := purL_map _ _ (fun _ => rfl)
theorem purL_r (l : List (List Val)) : AV.purL (l.map eVals) = true := purL_map _ _ pur_eVals
theorem pur_eEnt (e : Ent) : (eEnt e).pur = true := by simp [eEnt, cEnt, AV.pur, AV.purL, pur_eInts, pur_eRows]
attribute [simp] pur_eInts pur_eRows purL_i purL_r pur_eEnt
theorem entry_plain_1 (v : Val) (hn : rng v.n) : CallF Tryz.prog n_entry_plain_1 [eVal v] (.bool (!rightV v)) := by
  have c := value_Check v.kind v.n v.s hn.1 hn.2
  have ev : rightV ⟨v.kind, v.n, v.s⟩ = rightV v := rfl
  rw [ev] at c
  obtain ⟨b, hb⟩ : ∃ b, rightV v = b := ⟨_, rfl⟩
  rw [hb] at c ⊢
  simp only [eVal]
  refine CallF.of_nil (of_entry_plain_1 (by simp) ?_) (by simp)
  unfold b_entry_plain_1 WpR
  intro Q hQr hQn hQp
  cases b
  all_goals
    simp only [errB, if_true, Bool.false_eq_true, if_false] at c
    repeat' first | refine go_ ?_ | refine cf_ c ?_ | refine br_ (fun hw => ?_) (fun hw => ?_) <;> try omega | fail
    exact leafE rfl rfl
theorem idxF_any {α : Type} [Inhabited α] (p : α → Bool) (l : List α) : decide (0 ≤ idxF p l) = l.any p := by
  rcases find_idx p l with ⟨h1, h2⟩ | ⟨i, h1, h2, h3⟩
  · rw [h1, show decide ((0 : Int) ≤ -1) = false from (by decide)]; symm
    rw [List.any_eq_false]; exact List.find?_eq_none.1 h2
  · rw [h2, decide_eq_true (by omega)]; symm
    rw [List.any_eq_true]; exact ⟨_, getD_mem h1, List.find?_some h3⟩
theorem slices_IndexFunc_Value (fn : FuncId) (p : Val → Bool) (l : List Val) (h : ∀ k, k < l.length → CallF Tryz.prog fn [eVal (l.getD k default)] (.bool (p (l.getD k default)))) (hl : l.length ≤ 2 ^ 62) :
    CallF Tryz.prog n_slices_IndexFunc_Value [eVals l, .fn (.func fn) [] []] (I (idxF p l)) := by
  refine CallF.of_nil (of_slices_IndexFunc_Value (by simp) ?_) (by simp [AV.pur, AV.purL, pur_eVals])
  unfold b_slices_IndexFunc_Value WpR
  intro Q hQr hQn hQp
  repeat' first | refine go_ ?_ | refine br_ (fun hw => ?_) (fun hw => ?_) <;> try omega | fail
  with_reducible refine loop_i [4, 5, 8, 9, 10, 11, 12, 13, 14, 15, 16, 17, 18] (fun i : Nat => [(8, I i)]) (fun _ => []) (fun i => i ≤ l.length ∧ ∀ k, k < i → p (l.getD k default) = false) (fun i => l.length - i) (0) ?_ ?_ ?_ ?_
  · simp
  · rfl
  · exact at_
  · rintro i r ⟨hi, hp⟩
    by_cases hin : i < l.length
    · have hx := h i hin
      simp only [eVal] at hx
      repeat' first | refine go_ ?_ | refine cf_ hx ?_ | refine br_ (fun hw => ?_) (fun hw => ?_) <;> try omega | fail
      · refine leafE ?_ rfl
        refine congrArg I ?_
        exact (idxF_at hin hp hw).symm
      · refine ⟨i + 1, ?_, ?_, by first | rfl | (simp [go_sem]; done), ou_, at_⟩ <;> (try dsimp only)
        · exact ⟨by omega, before_succ hp hw⟩
        · omega
    · repeat' first | refine go_ ?_ | refine br_ (fun hw => ?_) (fun hw => ?_) <;> try omega | fail
      refine leafE ?_ rfl
      refine congrArg I ?_
      exact (idxF_none fun k hk => hp k (by omega)).symm
theorem slices_ContainsFunc_Value (fn : FuncId) (p : Val → Bool) (l : List Val) (h : ∀ k, k < l.length → CallF Tryz.prog fn [eVal (l.getD k default)] (.bool (p (l.getD k default)))) (hl : l.length ≤ 2 ^ 62) :
    CallF Tryz.prog n_slices_ContainsFunc_Value [eVals l, .fn (.func fn) [] []] (.bool (l.any p)) := by
  refine CallF.of_nil (of_slices_ContainsFunc_Value (by simp) ?_) (by simp [AV.pur, AV.purL, pur_eVals])
  unfold b_slices_ContainsFunc_Value WpR
  intro Q hQr hQn hQp
  have hc := slices_IndexFunc_Value fn p l h hl
  simp only [eVals] at hc
  repeat' first | refine go_ ?_ | refine cf_ hc ?_ | refine br_ (fun hw => ?_) (fun hw => ?_) <;> try omega | fail
  all_goals refine leafE ?_ rfl
  all_goals rw [← idxF_any]
theorem not_any (l : List Val) : (!l.any fun v => !rightV v) = l.all rightV := by
  induction l with
  | nil => rfl
  | cons a l ih => rw [List.any_cons, List.all_cons, ← ih]; cases rightV a <;> simp
theorem entry_plain (l : List Val) (hl : okVals l) : CallF Tryz.prog n_entry_plain [eVals l] (.bool (plainV l)) := by
  have c := slices_ContainsFunc_Value n_entry_plain_1 (fun v => !rightV v) l (fun k hk => entry_plain_1 _ (hl.2 _ (getD_mem hk)).1) (by have := hl.1; omega)
  obtain ⟨E, hE⟩ : ∃ E, plainV l = E := ⟨_, rfl⟩
  rw [hE]
  unfold plainV at hE
  rw [← not_any] at hE
  generalize (l.any fun v => !rightV v) = b at *
  simp only [eVals] at c ⊢
  refine CallF.of_nil (of_entry_plain (by simp) ?_) (by simp)
  unfold b_entry_plain WpR
  intro Q hQr hQn hQp
  repeat' first | refine go_ ?_ | refine cf_ c ?_ | refine br_ (fun hw => ?_) (fun hw => ?_) <;> try omega | fail
  all_goals first
    | exact ab_
    | (refine leafE ?_ rfl; rw [← hE, decide_eq_true (by omega), Bool.true_and]; done)
    | (refine leafE ?_ rfl; rw [← hE, decide_eq_false (by omega), Bool.false_and]; done)
theorem rise_all {l : List Int} (h : ∀ k, k < l.length → riseK l k = true) : riseS l = true := List.all_eq_true.2 fun k hk => h k (List.mem_range.1 hk)
theorem rise_no {l : List Int} {i : Nat} (hi : i < l.length) (h : riseK l i = false) : riseS l = false := by
  cases hr : riseS l with
  | false => rfl
  | true => have := List.all_eq_true.1 hr i (List.mem_range.2 hi); rw [h] at this; cases this
theorem entry_rising (l : List Int) (hl : l.length ≤ 2 ^ 30) : CallF Tryz.prog n_entry_rising [eInts l] (.bool (riseS l)) := by
  obtain ⟨E, hE⟩ : ∃ E, riseS l = E := ⟨_, rfl⟩
  rw [hE]
  simp only [eInts]
  refine CallF.of_nil (of_entry_rising (by simp) ?_) (by simp)
  unfold b_entry_rising WpR
  intro Q hQr hQn hQp
  repeat' first | refine go_ ?_ | refine br_ (fun hw => ?_) (fun hw => ?_) <;> try omega | fail
  with_reducible refine loop_i [2, 3, 5, 8, 9, 10, 11, 12, 13, 14, 15, 16, 17, 18, 19, 20] (fun q : Nat => [(8, I q), (3, I (lastK l q))]) (fun _ => []) (fun q => q ≤ l.length ∧ ∀ k, k < q → riseK l k = true) (fun q => l.length - q) (0) ?_ ?_ ?_ ?_
  · simp
  · rfl
  · have : lastK l 0 = -1 := rfl
    rw [this]; simp (disch := omega) only [at_nil, at_cons, and_true, go_sem, hQr, hQn, hQp, wrapK_i64, wrapK_u8, wrapK_u64, Nat.reduceAdd, Nat.reduceBEq, ↓reduceIte, Int.natCast_add, Int.cast_ofNat_Int] <;> (try trivial) <;> (try omega) <;> (try (repeat (first | trivial | (refine And.intro ?_ ?_) | (congr 1; omega))))
  rintro i r ⟨g1, g2⟩
  by_cases hi : i < l.length
  · have hne := fun h => rise_no (l := l) hi h
    have hbs := fun he => before_succ (q := fun k => riseK l k = true) g2 (i := i) he
    have hk : riseK l i = decide (lastK l i < l.getD i default ∧ l.getD i default < 24) := rfl
    have hs : lastK l (i + 1) = l.getD i default := by unfold lastK; rw [if_neg (by omega), Nat.add_sub_cancel]; rfl
    obtain ⟨n, hn⟩ : ∃ n, l.getD i default = n := ⟨_, rfl⟩
    rw [hn] at hk hs
    generalize lastK l i = m at *
    repeat' first | simp (disch := omega) only [go_sem, hQr, hQn, hQp, wrapK_i64, wrapK_u8, wrapK_u64, Nat.reduceAdd, Nat.reduceBEq, ↓reduceIte, hn] | refine go_ ?_ | refine br_ (fun hw => ?_) (fun hw => ?_) <;> try omega | fail
    all_goals first
      | exact ab_
      | (exact leafE (by rw [← hE, hne (by rw [hk, decide_eq_false (by omega)])]) rfl)
      | (refine ⟨i + 1, ?_, ?_, ?_, ou_, ?_⟩
         · exact ⟨by omega, hbs (by rw [hk, decide_eq_true (by omega)])⟩
         · dsimp only; omega
         · first | rfl | (simp [go_sem]; done)
         · dsimp only; rw [hs]; simp (disch := omega) only [at_nil, at_cons, and_true, go_sem, hQr, hQn, hQp, wrapK_i64, wrapK_u8, wrapK_u64, Nat.reduceAdd, Nat.reduceBEq, ↓reduceIte, Int.natCast_add, Int.cast_ofNat_Int] <;> (try trivial) <;> (try omega) <;> (try (repeat (first | trivial | (refine And.intro ?_ ?_) | (congr 1; omega)))))
  · repeat' first | refine go_ ?_ | refine br_ (fun hw => ?_) (fun hw => ?_) <;> try omega | fail
    exact leafE (by rw [← hE, rise_all (fun k hk => g2 k (by omega))]) rfl
theorem entry_right_1 (l : List Val) (hl : okVals l) : CallF Tryz.prog n_entry_right_1 [eVals l] (.bool (!plainV l)) := by
  have c := entry_plain l hl
  generalize plainV l = b at *
  simp only [eVals] at c ⊢
  refine CallF.of_nil (of_entry_right_1 (by simp) ?_) (by simp)
  unfold b_entry_right_1 WpR
  intro Q hQr hQn hQp
  repeat' first | refine go_ ?_ | refine cf_ c ?_ | refine br_ (fun hw => ?_) (fun hw => ?_) <;> try omega | fail
  exact leafE rfl rfl
theorem slices_IndexFunc_LValue (fn : FuncId) (p : List Val → Bool) (l : List (List Val)) (h : ∀ k, k < l.length → CallF Tryz.prog fn [eVals (l.getD k default)] (.bool (p (l.getD k default)))) (hl : l.length ≤ 2 ^ 62) :
    CallF Tryz.prog n_slices_IndexFunc_LValue [eRows l, .fn (.func fn) [] []] (I (idxF p l)) := by
  refine CallF.of_nil (of_slices_IndexFunc_LValue (by simp) ?_) (by simp [AV.pur, AV.purL, pur_eRows])
  unfold b_slices_IndexFunc_LValue WpR
  intro Q hQr hQn hQp
  repeat' first | refine go_ ?_ | refine br_ (fun hw => ?_) (fun hw => ?_) <;> try omega | fail
  with_reducible refine loop_i [4, 5, 8, 9, 10, 11, 12, 13, 14, 15, 16, 17, 18] (fun i : Nat => [(8, I i)]) (fun _ => []) (fun i => i ≤ l.length ∧ ∀ k, k < i → p (l.getD k default) = false) (fun i => l.length - i) (0) ?_ ?_ ?_ ?_
  · simp
  · rfl
  · exact at_
  · rintro i r ⟨hi, hp⟩
    by_cases hin : i < l.length
    · have hx := h i hin
      simp only [eVals] at hx
      repeat' first | refine go_ ?_ | refine cf_ hx ?_ | refine br_ (fun hw => ?_) (fun hw => ?_) <;> try omega | fail
      · refine leafE ?_ rfl
        refine congrArg I ?_
        exact (idxF_at hin hp hw).symm
      · refine ⟨i + 1, ?_, ?_, by first | rfl | (simp [go_sem]; done), ou_, at_⟩ <;> (try dsimp only)
        · exact ⟨by omega, before_succ hp hw⟩
        · omega
    · repeat' first | refine go_ ?_ | refine br_ (fun hw => ?_) (fun hw => ?_) <;> try omega | fail
      refine leafE ?_ rfl
      refine congrArg I ?_
      exact (idxF_none fun k hk => hp k (by omega)).symm
theorem slices_ContainsFunc_LValue (fn : FuncId) (p : List Val → Bool) (l : List (List Val)) (h : ∀ k, k < l.length → CallF Tryz.prog fn [eVals (l.getD k default)] (.bool (p (l.getD k default)))) (hl : l.length ≤ 2 ^ 62) :
    CallF Tryz.prog n_slices_ContainsFunc_LValue [eRows l, .fn (.func fn) [] []] (.bool (l.any p)) := by
  refine CallF.of_nil (of_slices_ContainsFunc_LValue (by simp) ?_) (by simp [AV.pur, AV.purL, pur_eRows])
  unfold b_slices_ContainsFunc_LValue WpR
  intro Q hQr hQn hQp
  have hc := slices_IndexFunc_LValue fn p l h hl
  simp only [eRows] at hc
  repeat' first | refine go_ ?_ | refine cf_ hc ?_ | refine br_ (fun hw => ?_) (fun hw => ?_) <;> try omega | fail
  all_goals refine leafE ?_ rfl
  all_goals rw [← idxF_any]
theorem not_anyP (l : List (List Val)) : (!l.any fun v => !plainV v) = l.all plainV := by
  induction l with
  | nil => rfl
  | cons a l ih => rw [List.any_cons, List.all_cons, ← ih]; cases plainV a <;> simp
theorem right_no {a b c d : Bool} {B D : Int} {n : Nat} (h : ¬(a = true ∧ (1 ≤ B ∧ B ≤ 2147483648) ∧ (0 ≤ D ∧ D ≤ 99) ∧ b = true ∧ n ≤ 24 ∧ c = true)) : (a && decide (1 ≤ B ∧ B ≤ 2147483648) && decide (0 ≤ D ∧ D ≤ 99) && b && decide (n ≤ 24) && c && d) = false := by
  cases hx : (a && decide (1 ≤ B ∧ B ≤ 2147483648) && decide (0 ≤ D ∧ D ≤ 99) && b && decide (n ≤ 24) && c && d) with
  | false => rfl
  | true =>
    simp only [Bool.and_eq_true, decide_eq_true_eq] at hx
    exact absurd ⟨hx.1.1.1.1.1.1, hx.1.1.1.1.1.2, hx.1.1.1.1.2, hx.1.1.1.2, hx.1.1.2, hx.1.2⟩ h
theorem right_yes {a b c d : Bool} {B D : Int} {n : Nat} (h1 : a = true) (h2 : 1 ≤ B ∧ B ≤ 2147483648) (h3 : 0 ≤ D ∧ D ≤ 99) (h4 : b = true) (h5 : n ≤ 24) (h6 : c = true) : (a && decide (1 ≤ B ∧ B ≤ 2147483648) && decide (0 ≤ D ∧ D ≤ 99) && b && decide (n ≤ 24) && c && d) = d := by
  subst h1; subst h4; subst h6; rw [decide_eq_true h2, decide_eq_true h3, decide_eq_true h5]; simp
theorem tf {b : Bool} (h : b = true) (h' : b = false) : False := by rw [h] at h'; cases h'
theorem entry_right (e : Ent) (ok : okEnt e) : CallF Tryz.prog n_entry_right [eEnt e] (.bool (rightE e)) := by
  obtain ⟨o1, o2, o3, o4, o5, o6, o7⟩ := ok
  have c1 := lex_Name e.table (by omega)
  have c2 := entry_rising e.rules o5.1
  have c3 := entry_plain e.input o3
  have c4 := slices_ContainsFunc_LValue n_entry_right_1 (fun v => !plainV v) e.rows (fun k hk => entry_right_1 _ (o7 _ (getD_mem hk))) (by omega)
  obtain ⟨E, hE⟩ : ∃ E, rightE e = E := ⟨_, rfl⟩
  rw [hE]
  unfold rightE at hE
  rw [← not_anyP] at hE
  obtain ⟨A, B, C, D, F, G⟩ := e
  dsimp only at *
  generalize nameS A = a at *
  generalize riseS F = b at *
  generalize plainV C = c at *
  generalize (G.any fun v => !plainV v) = d at *
  simp only [eInts, eVals, eRows, eEnt, cEnt] at c2 c3 c4 ⊢
  refine CallF.of_nil (of_entry_right (by simp) ?_) (by simp)
  unfold b_entry_right WpR
  intro Q hQr hQn hQp
  repeat' first | refine go_ ?_ | refine cf_ c1 ?_ | refine cf_ c2 ?_ | refine cf_ c3 ?_ | refine cf_ c4 ?_ | refine br_ (fun hw => ?_) (fun hw => ?_) <;> try omega | fail
  all_goals first
    | exact ab_
    | (refine leafE ?_ rfl
       rw [← hE]
       refine congrArg AV.bool ?_
       first
         | (rw [right_yes (by assumption) (by omega) (by omega) (by assumption) (by omega) (by assumption)]; done)
         | (refine (right_no ?_).symm
            rintro ⟨h1, h2, h3, h4, h5, h6⟩
            first
              | omega
              | exact tf h1 (by assumption)
              | exact tf h4 (by assumption)
              | exact tf h6 (by assumption)))
    | trace_state
end Go.Proofs.YtmbgnaoilncbnaaGreat
