/- Part of a proof: see Root. -/
import Derived.Test.YthkhdedadacakaaGreatDoorY26
set_option linter.unnecessarySimpa false
set_option linter.unusedSimpArgs false
set_option linter.unusedVariables false
namespace Go.Proofs.YthkhdedadacakaaGreatDoor
open Go.AM
set_option maxRecDepth 4000
def ruleF (t : Table) (r : Rule) : Line := (lineS t r).1
def withR (t : Table) (R : List Rule) : Table := { t with rules := R }
theorem getD_getE {α : Type} [Inhabited α] {l : List α} {i : Nat} (h : i < l.length) : l.getD i default = l[i] := by
  rw [List.getD_eq_getElem?_getD, List.getElem?_eq_getElem h]; rfl
theorem frame_with {t : Table} (R : List Rule) (h : frameS t = 0) : frameS (withR t R) = if 24 < R.length then 24 else 0 := by
  unfold frameS at h
  split at h
  · omega
  split at h
  · omega
  split at h
  · omega
  split at h
  · omega
  rename_i h1 h2 h3 h4
  unfold frameS
  rw [if_neg (show ¬ nameS (withR t R).name = false from h1), if_neg (show ¬ colF (withR t R).ins false ≠ 0 from h2), if_neg (show ¬ colF (withR t R).outs (decide ((withR t R).policy = 3)) ≠ 0 from h3), if_neg (show ¬ policyS (withR t R) = false from h4)]
  rfl
theorem make_with {t : Table} (R : List Rule) (h : frameS t = 0) (hl : R.length ≤ 24) (hr : ∀ r ∈ R, (lineS t r).2.2 = 0) : makeS (withR t R) = (⟨withR t R, R.map (ruleF t)⟩, 0, 0, 0) := by
  have hln : ∀ j, lineR (withR t R) j = lineS t (R.getD j default) := fun _ => rfl
  rw [makeS_ok (by rw [frame_with R h, if_neg (by omega)]) (fun j hj => by rw [hln]; exact hr _ (getD_mem hj))]
  have : lineL (withR t R) (withR t R).rules.length = R.map (ruleF t) := by
    unfold lineL
    apply List.ext_getElem
    · simp [withR]
    · intro i h1 h2
      have hi : i < R.length := by simpa [withR] using h1
      simp only [List.getElem_map, List.getElem_range, hln]
      rw [getD_getE hi]; rfl
  rw [this]
theorem make_lines {t : Table} (h : (makeS t).2.2.2 = 0) : frameS t = 0 ∧ t.rules.length ≤ 24 ∧ (∀ r ∈ t.rules, (lineS t r).2.2 = 0) ∧ makeS t = (⟨t, t.rules.map (ruleF t)⟩, 0, 0, 0) := by
  obtain ⟨h1, h2, _⟩ := makeS_zero h
  have hr : ∀ r ∈ t.rules, (lineS t r).2.2 = 0 := fun r hr => by
    obtain ⟨i, hi, rfl⟩ := List.getElem_of_mem hr
    have := h2 i hi
    unfold lineR at this
    rwa [getD_getE hi] at this
  have hl : t.rules.length ≤ 24 := by
    have h3 := frame_with t.rules h1
    have e : withR t t.rules = t := rfl
    rw [e, h1] at h3
    split at h3
    · cases h3
    · omega
  exact ⟨h1, hl, hr, by have := make_with t.rules h1 hl hr; exact this⟩
theorem make_over {t : Table} (R : List Rule) (h : frameS t = 0) (hl : 24 < R.length) : makeS (withR t R) = (ready0, -1, 0, 24) := by
  have := frame_with R h
  rw [if_pos hl] at this
  rw [makeS_frame (by rw [this]; decide), this]
theorem ok_with {t : Table} {R : List Rule} (h : okTab t) (hl : R.length ≤ 2 ^ 30) (hr : ∀ r ∈ R, r ∈ t.rules) : okTab (withR t R) := ⟨h.1, h.2.1, h.2.2.1, hl, fun r hrr => h.2.2.2.2 r (hr r hrr)⟩
theorem pur_eR4 (r : Ready × Int × Int × Int) : (eR4 r).pur = true := by simp [eR4, AV.pur, AV.purL]
theorem place (at_ : Int) {n : Nat} (hn : 0 < n) (hl : n ≤ 26) : ∃ K : Nat, K < n ∧ wrapK .i64 ((wrapK .u64 at_).tmod (n : Int)) = (K : Int) := by
  have h0 : 0 ≤ wrapK .u64 at_ := by rw [wrapK_u64_mod]; omega
  have h1 := Int.tmod_lt_of_pos (wrapK .u64 at_) (b := (n : Int)) (by omega)
  have h2 := Int.tmod_nonneg (n : Int) h0
  refine ⟨((wrapK .u64 at_).tmod (n : Int)).toNat, by omega, ?_⟩
  rw [wrapK_i64 (by omega) (by omega)]; omega
set_option maxHeartbeats 4000000 in
theorem law18_DtableRule (t : Table) (hr : rngT t) (n : Int) (h0 : -9223372036854775808 ≤ n) (h1 : n ≤ 9223372036854775807) : CallF Tryz.prog n_law18_DtableRule [eTable t, I n] (.bool true) := by
  have cs := law18_Small t
  have cl := law18_lives
  cases hs : smallT t with
  | false =>
    rw [hs] at cs
    simp only [eTable, cTable, eCols, eRules] at cs ⊢
    refine CallF.of_nil (of_law18_DtableRule (by simp) ?_) (by simp)
    unfold b_law18_DtableRule WpR
    intro Q hQr hQn hQp
    repeat' first | refine go_ ?_ | refine cf_ cs ?_ | refine cf_ cl ?_ | refine br_ (fun hw => ?_) (fun hw => ?_) <;> try omega | fail
    all_goals first | exact ab_ | exact leafE rfl rfl
  | true =>
    rw [hs] at cs
    have ok := ok_small hs hr
    have c1 := dtable_Make t ok
    by_cases he : (makeS t).2.2.2 ≠ 0 ∨ t.rules.length = 0
    · clear ok
      generalize makeS t = M at *
      obtain ⟨M, m1, m2, m3⟩ := M
      simp only [eR4, eReady, eTable, cTable, eCols, eRules, eLines] at cs c1 ⊢
      refine CallF.of_nil (of_law18_DtableRule (by simp) ?_) (by simp)
      unfold b_law18_DtableRule WpR
      intro Q hQr hQn hQp
      dsimp only at he
      rcases he with he | he
      · repeat' first | refine go_ ?_ | refine cf_ cs ?_ | refine cf_ cl ?_ | refine cf_ c1 ?_ | refine br_ (fun hw => ?_) (fun hw => ?_) <;> try omega | fail
        all_goals first | exact ab_ | exact leafE rfl rfl
      · repeat' first | refine go_ ?_ | refine cf_ cs ?_ | refine cf_ cl ?_ | refine cf_ c1 ?_ | refine br_ (fun hw => ?_) (fun hw => ?_) <;> try omega | fail
        all_goals first | exact ab_ | exact leafE rfl rfl
    have he0 : (makeS t).2.2.2 = 0 := by omega
    have hlen0 : 0 < t.rules.length := by omega
    obtain ⟨hf, h24, hrz, hm⟩ := make_lines he0
    obtain ⟨K, hK, hKe⟩ := place n hlen0 (by omega)
    obtain ⟨ls, hls⟩ : ∃ ls, t.rules.map (ruleF t) = ls := ⟨_, rfl⟩
    rw [hm, hls] at c1
    have hlsl : ls.length = t.rules.length := by rw [← hls]; simp
    clear he0 he hm
    obtain ⟨ru, hru⟩ : ∃ ru, t.rules.getD K default = ru := ⟨_, rfl⟩
    have hmem : ru ∈ t.rules := by rw [← hru]; exact getD_mem hK
    have hl1 : (t.rules.take K ++ t.rules.drop (K + 1)).length + 1 = t.rules.length := by simp; omega
    have hz1 : ∀ r ∈ t.rules.take K ++ t.rules.drop (K + 1), r ∈ t.rules := fun r hr => by
      rcases List.mem_append.1 hr with h | h
      · exact List.mem_of_mem_take h
      · exact List.mem_of_mem_drop h
    have hz2 : ∀ r ∈ t.rules ++ [ru], r ∈ t.rules := fun r hr => by
      rcases List.mem_append.1 hr with h | h
      · exact h
      · simp only [List.mem_cons, List.not_mem_nil, or_false] at h; subst h; exact hmem
    have m1 := make_with (t.rules.take K ++ t.rules.drop (K + 1)) hf (by omega) (fun r hr => hrz r (hz1 r hr))
    have v7 : ∀ (q : Nat) (xs : List AV) (R : List Rule) (m : Nat), xs = R.map eRule → m = xs.length → ViewL (solo q (.vec ER xs)) [.agg [.str t.name, .lst false EC (t.ins.map eCol), .lst false EC (t.outs.map eCol), I t.policy, I t.agg, .own ER q m 0 m]] [eTable (withR t R)] := fun q xs R m h1 h2 => by
      subst h1
      exact .cons (View.agg' (.cons (.refl _ rfl) (.cons (.refl _ (pur_eCols _)) (.cons (.refl _ (pur_eCols _)) (.cons (.refl _ rfl) (.cons (.refl _ rfl) (.cons (View.vec (solo_at _ _) h2 h2 (purL_rule _)) (.nil _)))))))) (.nil _)
    have ok1 := ok_with ok (R := t.rules.take K ++ t.rules.drop (K + 1)) (by omega) hz1
    have ok2 := ok_with ok (R := t.rules ++ [ru]) (by simp; omega) hz2
    have d1 := dtable_Make _ ok1
    have d2 := dtable_Make _ ok2
    rw [m1] at d1
    obtain ⟨lA, hlA⟩ : ∃ l, (t.rules.take K ++ t.rules.drop (K + 1)).map (ruleF t) = l := ⟨_, rfl⟩
    rw [hlA] at d1
    have hA1 : lA.take K = ls.take K := by rw [← hlA, ← hls, List.map_append, List.take_append_of_le_length (by simp; omega), List.map_take, List.take_take, Nat.min_self]
    have hA2 : lA.drop K = ls.drop (K + 1) := by
      rw [← hlA, ← hls, List.map_append, List.drop_append_of_le_length (by simp; omega), List.drop_of_length_le (by simp; omega), List.nil_append, List.map_drop]
    have hAl : lA.length + 1 = t.rules.length := by rw [← hlA, List.length_map]; exact hl1
    have hsmL : ∀ l : List Line, l.length ≤ 30 → (∀ x ∈ l, ∃ r ∈ t.rules, x = ruleF t r) → smLns l := fun l h1 h2 => ⟨by omega, fun x hx => by
      obtain ⟨r, hr, rfl⟩ := h2 x hx
      have := ok.2.2.2.2 r hr
      exact sm_line (lineS_okL t r ok.2.1.1 ok.2.2.1.1 this.1.1 this.2.1)⟩
    have hin : ∀ x ∈ ls, ∃ r ∈ t.rules, x = ruleF t r := fun x hx => by
      rw [← hls] at hx; obtain ⟨r, hr, rfl⟩ := List.mem_map.1 hx; exact ⟨r, hr, rfl⟩
    have s1 := ref18_SameLines (ls.take K) (ls.take K) (hsmL _ (by simp; omega) (fun x hx => hin x (List.mem_of_mem_take hx))) (hsmL _ (by simp; omega) (fun x hx => hin x (List.mem_of_mem_take hx)))
    have s2 := ref18_SameLines (ls.drop (K + 1)) (ls.drop (K + 1)) (hsmL _ (by simp; omega) (fun x hx => hin x (List.mem_of_mem_drop hx))) (hsmL _ (by simp; omega) (fun x hx => hin x (List.mem_of_mem_drop hx)))
    rw [sameLns_refl] at s1 s2
    have hlk : ls.getD K default = ruleF t ru := by
      rw [← hls, getD_getE (by simpa using hK), List.getElem_map, ← getD_getE hK, hru]
    have hfa : ∀ l : List Rule, ((l.map eRule).all fun a => AV.fits ⟨true, 2⟩ a) = true := fun l => by rw [List.all_map, List.all_eq_true]; intro x _; rfl
    have hfl : ∀ l : List Line, ((l.map eLine).all fun a => AV.fits ⟨true, 2⟩ a) = true := fun l => by rw [List.all_map, List.all_eq_true]; intro x _; rfl
    have hn0 : noneL ⟨true, 2⟩ (.lst true ⟨true, 2⟩ []) = true := rfl
    have hro : ∀ m, m ≤ 30 → roomOk m ⟨true, 2⟩ := fun m hm => by unfold roomOk; dsimp only; omega
    have p1 := (pur_eR4 ((⟨withR t (t.rules.take K ++ t.rules.drop (K + 1)), lA⟩ : Ready), (0 : Int), (0 : Int), (0 : Int)))
    have p2 := pur_eR4 (makeS (withR t (t.rules ++ [ru])))
    have hcase : ∃ B : Ready × Int × Int × Int, makeS (withR t (t.rules ++ [ru])) = B ∧ (t.rules.length = 24 ∧ B.2 = (-1, 0, 24) ∨ t.rules.length ≠ 24 ∧ B.2 = (0, 0, 0) ∧ B.1.lines = ls ++ [ls.getD K default]) := by
      by_cases h : t.rules.length = 24
      · exact ⟨_, make_over (t.rules ++ [ru]) hf (by simp; omega), .inl ⟨h, rfl⟩⟩
      · exact ⟨_, make_with (t.rules ++ [ru]) hf (by simp; omega) (fun r hr => hrz r (hz2 r hr)), .inr ⟨h, rfl, by dsimp only; rw [List.map_append, hls, hlk]; rfl⟩⟩
    obtain ⟨B, hB, hB2⟩ := hcase
    rw [hB] at d2 p2
    obtain ⟨⟨BT, BL⟩, b1, b2, b3⟩ := B
    dsimp only at hB2
    have s3 : t.rules.length ≠ 24 → BL = ls ++ [ls.getD K default] → CallF Tryz.prog n_ref18_SameLines [.lst false ER (BL.map eLine), .lst false ER (ls.map eLine ++ [.agg [.lst false EC ((ls.getD K default).cells.map eCell), .lst false EX ((ls.getD K default).outs.map eExpr)]])] (.bool true) := fun _ h => by
      have hx := hsmL (ls ++ [ls.getD K default]) (by simp; omega) (fun x hx => by
        rcases List.mem_append.1 hx with hx | hx
        · exact hin x hx
        · simp only [List.mem_cons, List.not_mem_nil, or_false] at hx; exact ⟨ru, hmem, by rw [hx, hlk]⟩)
      have s := ref18_SameLines _ _ hx hx
      rw [sameLns_refl] at s
      rw [h]
      have e : (ls ++ [ls.getD K default]).map eLine = ls.map eLine ++ [.agg [.lst false EC ((ls.getD K default).cells.map eCell), .lst false EX ((ls.getD K default).outs.map eExpr)]] := by rw [List.map_append]; rfl
      rw [← e]; exact s
    clear hsmL hin ok1 ok2 hz1 hz2 hB m1 hlA
    simp only [eLines] at s1 s2
    obtain ⟨lk, hlk2⟩ : ∃ l, ls.getD K default = l := ⟨_, rfl⟩
    rw [hlk2] at s3 hB2
    have f1 := fun σ hq => CallF.freeze (σ := σ) (q := 4) d1 hq rfl (v7 4 ((t.rules.take K).map eRule ++ (t.rules.drop (K + 1)).map eRule) _ ((t.rules.take K).length + (t.rules.drop (K + 1)).length) (by rw [List.map_append]) (by simp)) p1
    have f2 := fun σ hq => CallF.freeze (σ := σ) (q := 5) d2 hq rfl (v7 5 (t.rules.map eRule ++ [.agg [.lst false E1 (ru.cells.map eStr), .lst false E1 (ru.outs.map eStr)]]) _ (t.rules.length + 1) (by rw [List.map_append]; rfl) (by simp)) p2
    clear v7 d1 d2 p1 p2
    simp only [eR4, eReady, eTable, cTable, eCols, eRules, eLines] at cs c1 f1 f2 ⊢
    refine CallF.of_nil (of_law18_DtableRule (by simp) ?_) (by simp)
    unfold b_law18_DtableRule WpR
    intro Q hQr hQn hQp
    repeat' first | simp (disch := omega) only [go_sem, hQr, hQn, hQp, wrapK_i64, wrapK_u8, wrapK_u64, Nat.reduceAdd, Nat.reduceBEq, ↓reduceIte, hKe, hfa, hn0, hru, ← List.map_take, ← List.map_drop] | refine go_ ?_ | refine cf_ cs ?_ | refine cf_ cl ?_ | refine cf_ c1 ?_ | with_reducible refine req_d (hro _ (by simp; omega)) ?_ | with_reducible refine req_d ⟨by trivial, by trivial, hro _ (by simp; omega)⟩ ?_ | refine br_ (fun hw => ?_) (fun hw => ?_) <;> try omega | fail
    refine callL_any (f1 _ rfl) ?_
    rintro o s ⟨rfl, rfl⟩
    repeat' first | refine go_ ?_ | refine br_ (fun hw => ?_) (fun hw => ?_) <;> try omega | fail
    refine callL_any (f2 _ rfl) ?_
    rintro o s ⟨rfl, rfl⟩
    rcases hB2 with ⟨h24e, hB2⟩ | ⟨h24n, hB2, hBL⟩
    · obtain ⟨rfl, rfl, rfl⟩ := hB2
      repeat' first | simp (disch := omega) only [go_sem, hQr, hQn, hQp, wrapK_i64, wrapK_u8, wrapK_u64, Nat.reduceAdd, Nat.reduceBEq, ↓reduceIte, ← List.map_take, ← List.map_drop, hA1, hA2] | refine go_ ?_ | refine cf_ cl ?_ | refine cf_ s1 ?_ | refine cf_ s2 ?_ | refine br_ (fun hw => ?_) (fun hw => ?_) <;> try omega | fail
      all_goals first | exact ab_ | exact leafE rfl rfl
    · obtain ⟨rfl, rfl, rfl⟩ := hB2
      have s4 := s3 h24n hBL
      have hpu : AV.purL (ls.map eLine ++ [.agg [.lst false EC (lk.cells.map eCell), .lst false EX (lk.outs.map eExpr)]]) = true := purL_append (purL_line _) (by simp)
      repeat' first | simp (disch := omega) only [go_sem, hQr, hQn, hQp, wrapK_i64, wrapK_u8, wrapK_u64, Nat.reduceAdd, Nat.reduceBEq, ↓reduceIte, ← List.map_take, ← List.map_drop, hA1, hA2, hfl, hn0, hlk2] | refine go_ ?_ | refine cf_ cl ?_ | refine cf_ s1 ?_ | refine cf_ s2 ?_ | with_reducible refine req_d (hro _ (by simp; omega)) ?_ | with_reducible refine req_d ⟨by trivial, by trivial, hro _ (by simp; omega)⟩ ?_ | refine br_ (fun hw => ?_) (fun hw => ?_) <;> try omega | fail
      all_goals first | exact ab_ | skip
      refine callD_v s4 (.cons (.refl _ (pur_eLines _)) (.cons (View.vec rfl (by simp) (by simp) hpu) (.nil _))) rfl ?_
      repeat' first | refine go_ ?_ | refine cf_ cl ?_ | refine br_ (fun hw => ?_) (fun hw => ?_) <;> try omega | fail
      all_goals first | exact ab_ | exact leafE rfl rfl
mutual
def smlX : Expr → Nat → Bool
  | .mk _ v s l, d => decide (d ≠ 0) && decide (s.length ≤ 300) && decide (v.s.length ≤ 300) && decide (l.length ≤ 5) && smlL l (d - 1)
def smlL : List Expr → Nat → Bool
  | [], _ => true
  | x :: r, d => smlX x d && smlL r d
end
theorem smlL_all (l : List Expr) (d : Nat) : smlL l d = l.all fun x => smlX x d := by
  induction l with
  | nil => rfl
  | cons x r ih => simp [smlL, ih]
theorem law14_small (x : Expr) : ∀ d : Nat, d ≤ 100 → CallF Tryz.prog n_law14_small [eExpr x, I d] (.bool (smlX x d)) := by
  induction x using Expr.ind with
  | h op v s l ih =>
    intro d hd
    obtain ⟨E, hE⟩ : ∃ E, smlX (.mk op v s l) d = E := ⟨_, rfl⟩
    rw [hE]
    simp only [smlX] at hE
    rw [smlL_all] at hE
    simp only [eExpr]
    by_cases hb : d = 0 ∨ 300 < s.length ∨ 300 < v.s.length ∨ 5 < l.length
    · refine CallF.of_nil (of_law14_small (by simp) ?_) (by simp)
      unfold b_law14_small WpR
      intro Q hQr hQn hQp
      repeat' first | refine go_ ?_ | refine br_ (fun hw => ?_) (fun hw => ?_) <;> try omega | fail
      all_goals first
        | exact ab_
        | (refine leafE ?_ rfl; rw [← hE]; refine congrArg AV.bool ?_; symm; simp only [Bool.and_eq_false_iff, decide_eq_false_iff_not]; omega)
    have hd0 : d ≠ 0 := by omega
    rw [decide_eq_true hd0, decide_eq_true (show s.length ≤ 300 by omega), decide_eq_true (show v.s.length ≤ 300 by omega), decide_eq_true (show l.length ≤ 5 by omega)] at hE
    simp only [Bool.true_and] at hE
    have hl5 : l.length ≤ 5 := by omega
    refine CallF.of_nil (of_law14_small (by simp) ?_) (by simp)
    unfold b_law14_small WpR
    intro Q hQr hQn hQp
    repeat' first | refine go_ ?_ | refine br_ (fun hw => ?_) (fun hw => ?_) <;> try omega | fail
    all_goals first | exact ab_ | skip
    with_reducible refine loop_i [4, 5, 27, 28, 29, 30, 31, 32, 33, 34, 35, 36, 37, 38, 39, 40, 41, 42] (fun i : Nat => [(5, I i)]) (fun _ => [.cells [I op, I v.kind, I v.n, .str v.s, .str s, .lst false EX (l.map eExpr)]]) (fun i => i ≤ l.length ∧ ∀ k, k < i → smlX (l.getD k default) (d - 1) = true) (fun i => l.length - i) (0) ?_ ?_ ?_ ?_
    · simp
    · rfl
    · exact at_
    rintro i r ⟨h1, h2⟩
    by_cases hi : i < l.length
    · have c := ih _ (getD_mem hi) (d - 1) (by omega)
      have hne := fun h => allF (p := fun x => smlX x (d - 1)) hi h
      have hbs := fun he => before_succ (q := fun k => smlX (l.getD k default) (d - 1) = true) h2 (i := i) he
      generalize smlX (l.getD i default) (d - 1) = u at c hne hbs
      have e1 : ((d - 1 : Nat) : Int) = (d : Int) - 1 := by omega
      rw [e1, eExpr_eq] at c
      repeat' first | refine go_ ?_ | refine cf_ c ?_ | refine br_ (fun hw => ?_) (fun hw => ?_) <;> try omega | fail
      all_goals first
        | exact ab_
        | (refine leafE ?_ rfl; rw [← hE, hne (by simp_all)])
        | (refine ⟨i + 1, ?_, ?_, by first | rfl | (simp [go_sem]; done), ou_, at_⟩ <;> (try dsimp only)
           · exact ⟨by omega, hbs (by simp_all)⟩
           · omega)
    · repeat' first | refine go_ ?_ | refine br_ (fun hw => ?_) (fun hw => ?_) <;> try omega | fail
      refine leafE ?_ rfl; rw [← hE, allN (fun k hk => h2 k (by omega))]
theorem sml_br (x : Expr) : ∀ d, smlX x d = true → brX x := by
  induction x using Expr.ind with
  | h op v s l ih =>
    intro d h
    simp only [smlX, Bool.and_eq_true, decide_eq_true_eq] at h
    rw [smlL_all, List.all_eq_true] at h
    exact ⟨by have := h.1.2; omega, brL_of (fun y hy => ih y hy _ (h.2 y hy))⟩
theorem wrap_mod (n : Int) : wrapK .i64 n = if 9223372036854775808 ≤ n % 18446744073709551616 then n % 18446744073709551616 - 18446744073709551616 else n % 18446744073709551616 := by
  show IntKind.wrap .i64 n = _
  simp [IntKind.wrap, IntKind.bits, IntKind.signed]
theorem wrap_add (a b : Int) : wrapK .i64 (wrapK .i64 a + wrapK .i64 b) = wrapK .i64 (a + b) := by
  rw [wrap_mod a, wrap_mod b, wrap_mod, wrap_mod (a + b)]
  split <;> split <;> split <;> split <;> omega
theorem szL_app (l m : List Expr) : szL (l ++ m) = szL l + szL m := by
  induction l with
  | nil => simp [szL]
  | cons x r ih => simp only [List.cons_append, szL, ih]; omega
theorem szL_take {l : List Expr} {i : Nat} (h : i < l.length) : szL (l.take (i + 1)) = szL (l.take i) + szS (l.getD i default) := by
  rw [take_succ h, szL_app]; simp [szL]
theorem ref14_Size (x : Expr) : brX x → CallF Tryz.prog n_ref14_Size [eExpr x] (I (wrapK .i64 (szS x : Int))) := by
  induction x using Expr.ind with
  | h op v s l ih =>
    intro hb
    obtain ⟨hl, hbl⟩ := hb
    obtain ⟨E, hE⟩ : ∃ E, wrapK .i64 ((szS (.mk op v s l) : Nat) : Int) = E := ⟨_, rfl⟩
    rw [hE]
    simp only [szS] at hE
    simp only [eExpr]
    refine CallF.of_nil (of_ref14_Size (by simp) ?_) (by simp)
    unfold b_ref14_Size WpR
    intro Q hQr hQn hQp
    repeat' first | refine go_ ?_ | refine br_ (fun hw => ?_) (fun hw => ?_) <;> try omega | fail
    have e0 : wrapK .i64 ((1 : Int) + (szL (l.take 0) : Int)) = 1 := by rw [List.take_zero]; simp only [szL]; exact wrapK_i64 (by omega) (by omega)
    with_reducible refine loop_i [3, 4, 5, 6, 7, 8, 9, 10, 11, 12, 13, 14, 15, 16, 17, 18, 19] (fun i : Nat => [(4, I i), (3, I (wrapK .i64 (1 + (szL (l.take i) : Int))))]) (fun _ => [.cells [I op, I v.kind, I v.n, .str v.s, .str s, .lst false EX (l.map eExpr)]]) (fun i => i ≤ l.length) (fun i => l.length - i) (0) ?_ ?_ ?_ ?_
    · simp
    · rfl
    · rw [e0]
      exact at_
    rintro i r h1
    clear e0
    by_cases hi : i < l.length
    · have c := ih _ (getD_mem hi) (brL_mem hbl (getD_mem hi))
      have hwr := wrap_add (1 + (szL (l.take i) : Int)) (szS (l.getD i default) : Int)
      have e : (1 : Int) + (szL (l.take i) : Int) + (szS (l.getD i default) : Int) = 1 + (szL (l.take (i + 1)) : Int) := by rw [szL_take hi]; omega
      rw [e] at hwr
      generalize wrapK .i64 (1 + (szL (l.take i) : Int)) = A at *
      generalize wrapK .i64 (szS (l.getD i default) : Int) = B at *
      rw [eExpr_eq] at c
      repeat' first | simp (disch := omega) only [go_sem, hQr, hQn, hQp, wrapK_i64, wrapK_u8, wrapK_u64, Nat.reduceAdd, Nat.reduceBEq, ↓reduceIte, hwr] | refine go_ ?_ | refine cf_ c ?_ | refine br_ (fun hw => ?_) (fun hw => ?_) <;> try omega | fail
      refine ⟨i + 1, ?_, ?_, by first | rfl | (simp [go_sem]; done), ou_, ?_⟩
      · dsimp only; omega
      · dsimp only; omega
      · dsimp only
        rw [← hwr]
        exact at_
    · have ht : l.take i = l := List.take_of_length_le (by omega)
      rw [ht]
      have e : ((szL l + 1 : Nat) : Int) = 1 + (szL l : Int) := by omega
      rw [e] at hE
      rw [hE]
      repeat' first | refine go_ ?_ | refine br_ (fun hw => ?_) (fun hw => ?_) <;> try omega | fail
      exact leafE rfl rfl
def smallX (x : Expr) : Bool := smlX x 30 && decide (wrapK .i64 (szS x : Int) ≤ 300)
theorem law14_Small (x : Expr) : CallF Tryz.prog n_law14_X_Small [eExpr x] (.bool (smallX x)) := by
  have c1 := law14_small x 30 (by omega)
  have hS : smallX x = (smlX x 30 && decide (wrapK .i64 (szS x : Int) ≤ 300)) := rfl
  rw [hS]
  have c2 := fun h => ref14_Size x (sml_br x 30 h)
  generalize smlX x 30 = u at *
  generalize wrapK .i64 (szS x : Int) = z at *
  rw [eExpr_eq] at c1 c2 ⊢
  refine CallF.of_nil (of_law14_X_Small (by simp) ?_) (by simp)
  unfold b_law14_X_Small WpR
  intro Q hQr hQn hQp
  cases u with
  | false =>
    repeat' first | refine go_ ?_ | refine cf_ c1 ?_ | refine br_ (fun hw => ?_) (fun hw => ?_) <;> try omega | fail
    all_goals first | exact ab_ | exact leafE rfl rfl
  | true =>
    have c2 := c2 rfl
    repeat' first | refine go_ ?_ | refine cf_ c1 ?_ | refine cf_ c2 ?_ | refine br_ (fun hw => ?_) (fun hw => ?_) <;> try omega | fail
    all_goals first | exact ab_ | exact leafE (by simp) rfl
def tstB (t : Test) : Bool := smallX t.a && smallX t.b
def smallC (c : Cell) : Bool := decide (c.tests.length ≤ 14) && c.tests.all tstB
@[go_sem] theorem partT_ga (sz off n : Nat) (cs : List AV) (K : AV → Prop) (h : ¬(off = 0 ∧ n = sz)) : partT false ⟨true, sz⟩ (.agg cs) off true n (.mk : Tg K) = req (off + n ≤ sz) (.mk : Tg (K (.agg ((cs.drop off).take n)))) := by
  refine partT_g _ _ _ _ _ ?_
  rw [Bool.eq_false_iff]; intro hh; simp at hh; exact h hh
theorem law17_Small (c : Cell) : CallF Tryz.prog n_law17_C_Small [eCell c] (.bool (smallC c)) := by
  obtain ⟨E, hE⟩ : ∃ E, smallC c = E := ⟨_, rfl⟩
  rw [hE]
  unfold smallC at hE
  simp only [eCell, eTests]
  by_cases hb : 14 < c.tests.length
  · refine CallF.of_nil (of_law17_C_Small (by simp) ?_) (by simp)
    unfold b_law17_C_Small WpR
    intro Q hQr hQn hQp
    repeat' first | refine go_ ?_ | refine br_ (fun hw => ?_) (fun hw => ?_) <;> try omega | fail
    all_goals first
      | exact ab_
      | (refine leafE ?_ rfl; rw [← hE, decide_eq_false (by omega), Bool.false_and])
  have h14 : c.tests.length ≤ 14 := by omega
  rw [decide_eq_true h14, Bool.true_and] at hE
  refine CallF.of_nil (of_law17_C_Small (by simp) ?_) (by simp)
  unfold b_law17_C_Small WpR
  intro Q hQr hQn hQp
  repeat' first | refine go_ ?_ | refine br_ (fun hw => ?_) (fun hw => ?_) <;> try omega | fail
  all_goals first | exact ab_ | skip
  with_reducible refine loop_i [2, 3, 8, 9, 10, 11, 12, 13, 14, 15, 16, 17, 18, 19, 20, 21, 22, 23, 24, 25, 26, 27, 28, 29, 30, 31, 32] (fun i : Nat => [(3, I i)]) (fun _ => [.cells [.bool c.any, .bool c.neg, .lst false ES (c.tests.map eTest)]]) (fun i => i ≤ c.tests.length ∧ ∀ k, k < i → tstB (c.tests.getD k default) = true) (fun i => c.tests.length - i) (0) ?_ ?_ ?_ ?_
  · simp
  · rfl
  · exact at_
  rintro i r ⟨h1, h2⟩
  by_cases hi : i < c.tests.length
  · have hne := fun h => allF (p := tstB) hi h
    have hbs := fun he => before_succ (q := fun k => tstB (c.tests.getD k default) = true) h2 (i := i) he
    have hS : tstB (c.tests.getD i default) = (smallX (c.tests.getD i default).a && smallX (c.tests.getD i default).b) := rfl
    have c1 := law14_Small (c.tests.getD i default).a
    have c2 := law14_Small (c.tests.getD i default).b
    rw [hS] at hne hbs
    rw [eExpr_eq] at c1 c2
    generalize smallX (c.tests.getD i default).a = u1 at *
    generalize smallX (c.tests.getD i default).b = u2 at *
    try simp only [eExprs] at c1 c2
    repeat' first | refine go_ ?_ | refine cf_ c1 ?_ | refine cf_ c2 ?_ | refine br_ (fun hw => ?_) (fun hw => ?_) <;> try omega | fail
    all_goals first
      | exact ab_
      | (refine leafE ?_ rfl; rw [← hE, hne (by simp_all)])
      | (refine ⟨i + 1, ?_, ?_, by first | rfl | (simp [go_sem]; done), ou_, at_⟩ <;> (try dsimp only)
         · exact ⟨by omega, hbs (by simp_all)⟩
         · omega)
  · repeat' first | refine go_ ?_ | refine br_ (fun hw => ?_) (fun hw => ?_) <;> try omega | fail
    refine leafE ?_ rfl; rw [← hE, allN (fun k hk => h2 k (by omega))]
def lineB (l : Line) : Bool := decide (l.cells.length ≤ 10) && decide (l.outs.length ≤ 10) && l.cells.all smallC && l.outs.all smallX
def readyS (r : Ready) : Bool := smallT r.table && decide (r.lines.length ≤ 26) && r.lines.all lineB
theorem small_x0 : smallX x0 = true := by decide
theorem small_one (x : Expr) : smallC ⟨false, false, [⟨0, x, x0, false, false⟩]⟩ = smallX x := by
  simp [smallC, tstB, small_x0]
set_option maxHeartbeats 1000000 in
theorem law18_ready (r : Ready) : CallF Tryz.prog n_law18_ready [eReady r] (.bool (readyS r)) := by
  have ct := law18_Small r.table
  obtain ⟨E, hE⟩ : ∃ E, readyS r = E := ⟨_, rfl⟩
  rw [hE]
  unfold readyS at hE
  simp only [eReady, eTable, cTable, eCols, eRules, eLines] at ct ⊢
  generalize smallT r.table = ut at *
  refine CallF.of_nil (of_law18_ready (by simp) ?_) (by simp)
  unfold b_law18_ready WpR
  intro Q hQr hQn hQp
  by_cases hb : (ut && decide (r.lines.length ≤ 26)) = true
  case neg =>
    simp only [Bool.not_eq_true] at hb
    rw [hb, Bool.false_and] at hE
    cases ut
    all_goals
      repeat' first | refine go_ ?_ | refine cf_ ct ?_ | refine br_ (fun hw => ?_) (fun hw => ?_) <;> try omega | fail
    all_goals first
      | exact ab_
      | (refine leafE ?_ rfl; rw [← hE])
      | (exfalso; simp at hb; omega)
  rw [hb, Bool.true_and] at hE
  simp only [Bool.and_eq_true, decide_eq_true_eq] at hb
  obtain ⟨rfl, b2⟩ := hb
  repeat' first | refine go_ ?_ | refine cf_ ct ?_ | refine br_ (fun hw => ?_) (fun hw => ?_) <;> try omega | fail
  all_goals first | exact ab_ | skip
  with_reducible refine loop_i [2, 3, 4, 5, 6, 17, 18, 19, 20, 21, 22, 23, 24, 25, 26, 27, 28, 29, 30, 31, 32, 33, 34, 35, 36, 37, 38, 39, 40, 41, 42, 43, 44, 45, 46, 47, 48, 49, 50, 51, 52, 53, 54, 55, 56, 57, 58, 59, 60, 61, 62, 63, 64, 65, 66, 67, 68, 69] (fun q : Nat × List AObj => [(3, I q.1)]) (fun q => .cells [.str r.table.name, .lst false EC (r.table.ins.map eCol), .lst false EC (r.table.outs.map eCol), I r.table.policy, I r.table.agg, .lst false ER (r.table.rules.map eRule), .lst false ER (r.lines.map eLine)] :: q.2) (fun q => q.1 ≤ r.lines.length ∧ ∀ k, k < q.1 → lineB (r.lines.getD k default) = true) (fun q => r.lines.length - q.1) (0, []) ?_ ?_ ?_ ?_
  · simp
  · rfl
  · exact at_
  rintro ⟨i, τ⟩ e ⟨h1, h2⟩
  dsimp only at h1 h2
  by_cases hi : i < r.lines.length
  · have hne := fun h => allF (p := lineB) hi h
    have hbs := fun he => before_succ (q := fun k => lineB (r.lines.getD k default) = true) h2 (i := i) he
    have hS : lineB (r.lines.getD i default) = (decide ((r.lines.getD i default).cells.length ≤ 10) && decide ((r.lines.getD i default).outs.length ≤ 10) && (r.lines.getD i default).cells.all smallC && (r.lines.getD i default).outs.all smallX) := rfl
    rw [hS] at hne hbs
    obtain ⟨l, hl⟩ : ∃ l, r.lines.getD i default = l := ⟨_, rfl⟩
    rw [hl] at hne hbs
    clear hS
    by_cases hb : (decide (l.cells.length ≤ 10) && decide (l.outs.length ≤ 10)) = true
    case neg =>
      simp only [Bool.not_eq_true] at hb
      have hne := hne (by rw [hb]; rfl)
      repeat' first | simp (disch := omega) only [go_sem, hQr, hQn, hQp, wrapK_i64, wrapK_u8, wrapK_u64, Nat.reduceAdd, Nat.reduceBEq, ↓reduceIte, hl] | refine go_ ?_ | refine br_ (fun hw => ?_) (fun hw => ?_) <;> try omega | fail
      all_goals first
        | exact ab_
        | (refine leafE ?_ rfl; rw [← hE, hne])
        | (exfalso; simp at hb; omega)
    rw [hb, Bool.true_and] at hne hbs
    simp only [Bool.and_eq_true, decide_eq_true_eq] at hb
    obtain ⟨b3, b4⟩ := hb
    repeat' first | simp (disch := omega) only [go_sem, hQr, hQn, hQp, wrapK_i64, wrapK_u8, wrapK_u64, Nat.reduceAdd, Nat.reduceBEq, ↓reduceIte, hl] | refine go_ ?_ | refine br_ (fun hw => ?_) (fun hw => ?_) <;> try omega | fail
    all_goals first | exact ab_ | skip
    with_reducible refine loop_i [2, 5, 39, 40, 41, 42, 43, 44, 45, 46, 47, 48, 49, 50, 51, 52] (fun j : Nat => [(5, I j)]) (fun _ => .cells [.str r.table.name, .lst false EC (r.table.ins.map eCol), .lst false EC (r.table.outs.map eCol), I r.table.policy, I r.table.agg, .lst false ER (r.table.rules.map eRule), .lst false ER (r.lines.map eLine)] :: (τ ++ [.cells [.lst false EC (l.cells.map eCell), .lst false EX (l.outs.map eExpr)]])) (fun j => j ≤ l.cells.length ∧ ∀ k, k < j → smallC (l.cells.getD k default) = true) (fun j => l.cells.length - j) (0) ?_ ?_ ?_ ?_
    · simp
    · rfl
    · exact at_
    rintro j e2 ⟨g1, g2⟩
    by_cases hj : j < l.cells.length
    · have hne2 := fun h => allF (p := smallC) hj h
      have hbs2 := fun he => before_succ (q := fun k => smallC (l.cells.getD k default) = true) g2 (i := j) he
      have c := law17_Small (l.cells.getD j default)
      generalize smallC (l.cells.getD j default) = u at *
      simp only [eCell, eTests] at c
      repeat' first | simp (disch := omega) only [go_sem, hQr, hQn, hQp, wrapK_i64, wrapK_u8, wrapK_u64, Nat.reduceAdd, Nat.reduceBEq, ↓reduceIte, hl] | refine go_ ?_ | refine cf_ c ?_ | refine br_ (fun hw => ?_) (fun hw => ?_) <;> try omega | fail
      all_goals first
        | exact ab_
        | (refine leafE ?_ rfl; rw [← hE, hne (by rw [hne2 (by simp_all), Bool.false_and])])
        | (refine ⟨j + 1, ?_, ?_, by first | rfl | (simp [go_sem]; done), ou_, at_⟩ <;> (try dsimp only)
           · exact ⟨by omega, hbs2 (by simp_all)⟩
           · omega)
    have hc := allN (p := smallC) (fun k hk => g2 k (by omega))
    rw [hc, Bool.true_and] at hne hbs
    repeat' first | simp (disch := omega) only [go_sem, hQr, hQn, hQp, wrapK_i64, wrapK_u8, wrapK_u64, Nat.reduceAdd, Nat.reduceBEq, ↓reduceIte, hl] | refine go_ ?_ | refine br_ (fun hw => ?_) (fun hw => ?_) <;> try omega | fail
    all_goals first | exact ab_ | skip
    with_reducible refine loop_i [2, 6, 53, 54, 55, 56, 57, 58, 59, 60, 61, 62, 63, 64, 65, 66, 67, 68, 69] (fun j : Nat => [(6, I j)]) (fun _ => .cells [.str r.table.name, .lst false EC (r.table.ins.map eCol), .lst false EC (r.table.outs.map eCol), I r.table.policy, I r.table.agg, .lst false ER (r.table.rules.map eRule), .lst false ER (r.lines.map eLine)] :: (τ ++ [.cells [.lst false EC (l.cells.map eCell), .lst false EX (l.outs.map eExpr)]])) (fun j => j ≤ l.outs.length ∧ ∀ k, k < j → smallX (l.outs.getD k default) = true) (fun j => l.outs.length - j) (0) ?_ ?_ ?_ ?_
    · simp
    · rfl
    · exact at_
    rintro j3 e3 ⟨f1, f2⟩
    by_cases hj3 : j3 < l.outs.length
    · have hne2 := fun h => allF (p := smallX) hj3 h
      have hbs2 := fun he => before_succ (q := fun k => smallX (l.outs.getD k default) = true) f2 (i := j3) he
      have c := law17_Small ⟨false, false, [⟨0, l.outs.getD j3 default, x0, false, false⟩]⟩
      rw [small_one] at c
      generalize smallX (l.outs.getD j3 default) = u at *
      simp only [eCell, eTests, List.map_cons, List.map_nil, eTest, x0, v0, Expr.op, Expr.v, Expr.s, Expr.l, eExprs] at c
      repeat' first | simp (disch := omega) only [go_sem, hQr, hQn, hQp, wrapK_i64, wrapK_u8, wrapK_u64, Nat.reduceAdd, Nat.reduceBEq, ↓reduceIte, hl] | refine go_ ?_ | refine cw_ c ?_ | refine br_ (fun hw => ?_) (fun hw => ?_) <;> try omega | fail
      all_goals first
        | exact ab_
        | (refine leafE ?_ rfl; rw [← hE, hne (hne2 (by simp_all))])
        | (refine ⟨j3 + 1, ?_, ?_, by first | rfl | (simp [go_sem]; done), ou_, at_⟩ <;> (try dsimp only)
           · exact ⟨by omega, hbs2 (by simp_all)⟩
           · omega)
    have hc := allN (p := smallX) (fun k hk => f2 k (by omega))
    repeat' first | simp (disch := omega) only [go_sem, hQr, hQn, hQp, wrapK_i64, wrapK_u8, wrapK_u64, Nat.reduceAdd, Nat.reduceBEq, ↓reduceIte, hl] | refine go_ ?_ | refine br_ (fun hw => ?_) (fun hw => ?_) <;> try omega | fail
    refine ⟨(i + 1, τ ++ [.cells [.lst false EC (l.cells.map eCell), .lst false EX (l.outs.map eExpr)]]), ?_, ?_, ?_, ou_, at_⟩ <;> (try dsimp only)
    · exact ⟨by omega, hbs hc⟩
    · omega
  · repeat' first | refine go_ ?_ | refine br_ (fun hw => ?_) (fun hw => ?_) <;> try omega | fail
    refine leafE ?_ rfl; rw [← hE, allN (fun k hk => h2 k (by omega))]
theorem br_small {x : Expr} (h : smallX x = true) : brX x := by
  simp only [smallX, Bool.and_eq_true] at h
  exact sml_br x 30 h.1
theorem smC_small {c : Cell} (h : smallC c = true) : smC c := by
  simp only [smallC, tstB, Bool.and_eq_true, decide_eq_true_eq, List.all_eq_true] at h
  exact ⟨by omega, fun t ht => ⟨br_small (h.2 t ht).1, br_small (h.2 t ht).2⟩⟩
theorem smCols_small {l : List Col} (h : ordS l = true) : smCols l := by
  simp only [ordS, fewS, colB, Bool.and_eq_true, decide_eq_true_eq, List.all_eq_true] at h
  exact ⟨by omega, fun c hc => by have := (h.2 c hc).1; omega⟩
theorem sm_small {t : Table} (h : smallT t = true) : smTab t := by
  simp only [smallT, rulB, Bool.and_eq_true, decide_eq_true_eq, List.all_eq_true] at h
  exact ⟨smCols_small h.1.1.2, smCols_small h.1.2, by have := h.1.1.1.2; omega, fun r hr => by
    have a := tx_small (h.2 r hr).1
    have b := tx_small (h.2 r hr).2
    exact ⟨by omega, by omega⟩⟩
theorem sm_ready {r : Ready} (h : readyS r = true) : smTab r.table ∧ smLns r.lines := by
  simp only [readyS, lineB, Bool.and_eq_true, decide_eq_true_eq, List.all_eq_true] at h
  exact ⟨sm_small h.1.1, by have := h.1.2; omega, fun l hl => by
    obtain ⟨⟨⟨h1, h2⟩, h3⟩, h4⟩ := h.2 l hl
    exact ⟨⟨by omega, fun c hc => smC_small (h3 c hc)⟩, by omega, fun x hx => br_small (h4 x hx)⟩⟩
theorem law18_DtableSame (a b : Ready) : CallF Tryz.prog n_law18_DtableSame [eReady a, eReady b] (.bool true) := by
  have ca := law18_ready a
  have cb := law18_ready b
  have cl := law18_lives
  by_cases hs : (readyS a && readyS b) = true
  · simp only [Bool.and_eq_true] at hs
    obtain ⟨ha, hb⟩ := hs
    rw [ha] at ca
    rw [hb] at cb
    have sa := sm_ready ha
    have sb := sm_ready hb
    have c1 := dtable_Same _ _ sa.1 sb.1
    have c2 := ref18_Same _ _ sa.1 sb.1
    have c3 := dtable_SameReady _ _ sa sb
    have c4 := ref18_SameReady _ _ sa sb
    have c5 := dtable_SameReady _ _ sa sa
    rw [sameRdy_refl] at c5
    clear sa sb ha hb
    generalize sameTab a.table b.table = s1 at *
    generalize sameRdy a b = s2 at *
    simp only [eReady, eTable, cTable, eCols, eRules, eLines] at ca cb c1 c2 c3 c4 c5 ⊢
    refine CallF.of_nil (of_law18_DtableSame (by simp) ?_) (by simp)
    unfold b_law18_DtableSame WpR
    intro Q hQr hQn hQp
    repeat' first | refine go_ ?_ | refine cf_ ca ?_ | refine cf_ cb ?_ | refine cf_ cl ?_ | refine cf_ c1 ?_ | refine cf_ c2 ?_ | refine cf_ c3 ?_ | refine cf_ c4 ?_ | refine cf_ c5 ?_ | refine br_ (fun hw => ?_) (fun hw => ?_) <;> try omega | fail
    all_goals first | exact ab_ | exact leafE rfl rfl | exact leafE (by simp) rfl
  · simp only [Bool.not_eq_true] at hs
    generalize readyS a = u at *
    generalize readyS b = v at *
    simp only [eReady, eTable, cTable, eCols, eRules, eLines] at ca cb ⊢
    refine CallF.of_nil (of_law18_DtableSame (by simp) ?_) (by simp)
    unfold b_law18_DtableSame WpR
    intro Q hQr hQn hQp
    cases u <;> cases v
    all_goals
      repeat' first | refine go_ ?_ | refine cf_ ca ?_ | refine cf_ cb ?_ | refine cf_ cl ?_ | refine br_ (fun hw => ?_) (fun hw => ?_) <;> try omega | fail
    all_goals first | exact ab_ | exact leafE rfl rfl | exact leafE (by simp) rfl
end Go.Proofs.YthkhdedadacakaaGreatDoor
