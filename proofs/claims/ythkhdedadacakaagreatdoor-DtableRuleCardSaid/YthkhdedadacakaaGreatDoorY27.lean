/- Part of a proof: see Root. -/
import Derived.Test.YthkhdedadacakaaGreatDoorY26
set_option linter.unnecessarySimpa false
set_option linter.unusedSimpArgs false
set_option linter.unusedVariables false
namespace Go.Proofs.YthkhdedadacakaaGreatDoor
open Go.AM
set_option maxRecDepth 4000
def ruleF (t : Table) (r : Rule) : Line := (lineS t r).1
def withR (t : Table) (R : List Rule) : Table := { t with rules := R }
theorem getD_getE {α : Type} [Inhabited α] {l : List α} {i : Nat} (h : i < l.length) : l.getD i default = l[i] := by
  rw [List.getD_eq_getElem?_getD, List.getElem?_eq_getElem h]; rfl
theorem frame_with {t : Table} (R : List Rule) (h : frameS t = 0) : frameS (withR t R) = if 24 < R.length then 24 else 0 := by
  unfold frameS at h
  split at h
  · omega
  split at h
  · omega
  split at h
  · omega
  split at h
  · omega
  rename_i h1 h2 h3 h4
  unfold frameS
  rw [if_neg (show ¬ nameS (withR t R).name = false from h1), if_neg (show ¬ colF (withR t R).ins false ≠ 0 from h2), if_neg (show ¬ colF (withR t R).outs (decide ((withR t R).policy = 3)) ≠ 0 from h3), if_neg (show ¬ policyS (withR t R) = false from h4)]
  rfl
theorem make_with {t : Table} (R : List Rule) (h : frameS t = 0) (hl : R.length ≤ 24) (hr : ∀ r ∈ R, (lineS t r).2.2 = 0) : makeS (withR t R) = (⟨withR t R, R.map (ruleF t)⟩, 0, 0, 0) := by
  have hln : ∀ j, lineR (withR t R) j = lineS t (R.getD j default) := fun _ => rfl
  rw [makeS_ok (by rw [frame_with R h, if_neg (by omega)]) (fun j hj => by rw [hln]; exact hr _ (getD_mem hj))]
  have : lineL (withR t R) (withR t R).rules.length = R.map (ruleF t) := by
    unfold lineL
    apply List.ext_getElem
    · simp [withR]
    · intro i h1 h2
      have hi : i < R.length := by simpa [withR] using h1
      simp only [List.getElem_map, List.getElem_range, hln]
      rw [getD_getE hi]; rfl
  rw [this]
theorem make_lines {t : Table} (h : (makeS t).2.2.2 = 0) : frameS t = 0 ∧ t.rules.length ≤ 24 ∧ (∀ r ∈ t.rules, (lineS t r).2.2 = 0) ∧ makeS t = (⟨t, t.rules.map (ruleF t)⟩, 0, 0, 0) := by
  obtain ⟨h1, h2, _⟩ := makeS_zero h
  have hr : ∀ r ∈ t.rules, (lineS t r).2.2 = 0 := fun r hr => by
    obtain ⟨i, hi, rfl⟩ := List.getElem_of_mem hr
    have := h2 i hi
    unfold lineR at this
    rwa [getD_getE hi] at this
  have hl : t.rules.length ≤ 24 := by
    have h3 := frame_with t.rules h1
    have e : withR t t.rules = t := rfl
    rw [e, h1] at h3
    split at h3
    · cases h3
    · omega
  exact ⟨h1, hl, hr, by have := make_with t.rules h1 hl hr; exact this⟩
theorem make_over {t : Table} (R : List Rule) (h : frameS t = 0) (hl : 24 < R.length) : makeS (withR t R) = (ready0, -1, 0, 24) := by
  have := frame_with R h
  rw [if_pos hl] at this
  rw [makeS_frame (by rw [this]; decide), this]
theorem ok_with {t : Table} {R : List Rule} (h : okTab t) (hl : R.length ≤ 2 ^ 30) (hr : ∀ r ∈ R, r ∈ t.rules) : okTab (withR t R) := ⟨h.1, h.2.1, h.2.2.1, hl, fun r hrr => h.2.2.2.2 r (hr r hrr)⟩
theorem pur_eR4 (r : Ready × Int × Int × Int) : (eR4 r).pur = true := by simp [eR4, AV.pur, AV.purL]
theorem place (at_ : Int) {n : Nat} (hn : 0 < n) (hl : n ≤ 26) : ∃ K : Nat, K < n ∧ wrapK .i64 ((wrapK .u64 at_).tmod (n : Int)) = (K : Int) := by
  have h0 : 0 ≤ wrapK .u64 at_ := by rw [wrapK_u64_mod]; omega
  have h1 := Int.tmod_lt_of_pos (wrapK .u64 at_) (b := (n : Int)) (by omega)
  have h2 := Int.tmod_nonneg (n : Int) h0
  refine ⟨((wrapK .u64 at_).tmod (n : Int)).toNat, by omega, ?_⟩
  rw [wrapK_i64 (by omega) (by omega)]; omega
set_option maxHeartbeats 4000000 in
theorem law18_DtableRule (t : Table) (hr : rngT t) (n : Int) (h0 : -9223372036854775808 ≤ n) (h1 : n ≤ 9223372036854775807) : CallF Tryz.prog n_law18_DtableRule [eTable t, I n] (.bool true) := by
  have cs := law18_Small t
  have cl := law18_lives
  cases hs : smallT t with
  | false =>
    rw [hs] at cs
    simp only [eTable, cTable, eCols, eRules] at cs ⊢
    refine CallF.of_nil (of_law18_DtableRule (by simp) ?_) (by simp)
    unfold b_law18_DtableRule WpR
    intro Q hQr hQn hQp
    repeat' first | refine go_ ?_ | refine cf_ cs ?_ | refine cf_ cl ?_ | refine br_ (fun hw => ?_) (fun hw => ?_) <;> try omega | fail
    all_goals first | exact ab_ | exact leafE rfl rfl
  | true =>
    rw [hs] at cs
    have ok := ok_small hs hr
    have c1 := dtable_Make t ok
    by_cases he : (makeS t).2.2.2 ≠ 0 ∨ t.rules.length = 0
    · clear ok
      generalize makeS t = M at *
      obtain ⟨M, m1, m2, m3⟩ := M
      simp only [eR4, eReady, eTable, cTable, eCols, eRules, eLines] at cs c1 ⊢
      refine CallF.of_nil (of_law18_DtableRule (by simp) ?_) (by simp)
      unfold b_law18_DtableRule WpR
      intro Q hQr hQn hQp
      dsimp only at he
      rcases he with he | he
      · repeat' first | refine go_ ?_ | refine cf_ cs ?_ | refine cf_ cl ?_ | refine cf_ c1 ?_ | refine br_ (fun hw => ?_) (fun hw => ?_) <;> try omega | fail
        all_goals first | exact ab_ | exact leafE rfl rfl
      · repeat' first | refine go_ ?_ | refine cf_ cs ?_ | refine cf_ cl ?_ | refine cf_ c1 ?_ | refine br_ (fun hw => ?_) (fun hw => ?_) <;> try omega | fail
        all_goals first | exact ab_ | exact leafE rfl rfl
    have he0 : (makeS t).2.2.2 = 0 := by omega
    have hlen0 : 0 < t.rules.length := by omega
    obtain ⟨hf, h24, hrz, hm⟩ := make_lines he0
    obtain ⟨K, hK, hKe⟩ := place n hlen0 (by omega)
    obtain ⟨ls, hls⟩ : ∃ ls, t.rules.map (ruleF t) = ls := ⟨_, rfl⟩
    rw [hm, hls] at c1
    have hlsl : ls.length = t.rules.length := by rw [← hls]; simp
    clear he0 he hm
    obtain ⟨ru, hru⟩ : ∃ ru, t.rules.getD K default = ru := ⟨_, rfl⟩
    have hmem : ru ∈ t.rules := by rw [← hru]; exact getD_mem hK
    have hl1 : (t.rules.take K ++ t.rules.drop (K + 1)).length + 1 = t.rules.length := by simp; omega
    have hz1 : ∀ r ∈ t.rules.take K ++ t.rules.drop (K + 1), r ∈ t.rules := fun r hr => by
      rcases List.mem_append.1 hr with h | h
      · exact List.mem_of_mem_take h
      · exact List.mem_of_mem_drop h
    have hz2 : ∀ r ∈ t.rules ++ [ru], r ∈ t.rules := fun r hr => by
      rcases List.mem_append.1 hr with h | h
      · exact h
      · simp only [List.mem_cons, List.not_mem_nil, or_false] at h; subst h; exact hmem
    have m1 := make_with (t.rules.take K ++ t.rules.drop (K + 1)) hf (by omega) (fun r hr => hrz r (hz1 r hr))
    have v7 : ∀ (q : Nat) (xs : List AV) (R : List Rule) (m : Nat), xs = R.map eRule → m = xs.length → ViewL (solo q (.vec ER xs)) [.agg [.str t.name, .lst false EC (t.ins.map eCol), .lst false EC (t.outs.map eCol), I t.policy, I t.agg, .own ER q m 0 m]] [eTable (withR t R)] := fun q xs R m h1 h2 => by
      subst h1
      exact .cons (View.agg' (.cons (.refl _ rfl) (.cons (.refl _ (pur_eCols _)) (.cons (.refl _ (pur_eCols _)) (.cons (.refl _ rfl) (.cons (.refl _ rfl) (.cons (View.vec (solo_at _ _) h2 h2 (purL_rule _)) (.nil _)))))))) (.nil _)
    have ok1 := ok_with ok (R := t.rules.take K ++ t.rules.drop (K + 1)) (by omega) hz1
    have ok2 := ok_with ok (R := t.rules ++ [ru]) (by simp; omega) hz2
    have d1 := dtable_Make _ ok1
    have d2 := dtable_Make _ ok2
    rw [m1] at d1
    obtain ⟨lA, hlA⟩ : ∃ l, (t.rules.take K ++ t.rules.drop (K + 1)).map (ruleF t) = l := ⟨_, rfl⟩
    rw [hlA] at d1
    have hA1 : lA.take K = ls.take K := by rw [← hlA, ← hls, List.map_append, List.take_append_of_le_length (by simp; omega), List.map_take, List.take_take, Nat.min_self]
    have hA2 : lA.drop K = ls.drop (K + 1) := by
      rw [← hlA, ← hls, List.map_append, List.drop_append_of_le_length (by simp; omega), List.drop_of_length_le (by simp; omega), List.nil_append, List.map_drop]
    have hAl : lA.length + 1 = t.rules.length := by rw [← hlA, List.length_map]; exact hl1
    have hsmL : ∀ l : List Line, l.length ≤ 30 → (∀ x ∈ l, ∃ r ∈ t.rules, x = ruleF t r) → smLns l := fun l h1 h2 => ⟨by omega, fun x hx => by
      obtain ⟨r, hr, rfl⟩ := h2 x hx
      have := ok.2.2.2.2 r hr
      exact sm_line (lineS_okL t r ok.2.1.1 ok.2.2.1.1 this.1.1 this.2.1)⟩
    have hin : ∀ x ∈ ls, ∃ r ∈ t.rules, x = ruleF t r := fun x hx => by
      rw [← hls] at hx; obtain ⟨r, hr, rfl⟩ := List.mem_map.1 hx; exact ⟨r, hr, rfl⟩
    have s1 := ref18_SameLines (ls.take K) (ls.take K) (hsmL _ (by simp; omega) (fun x hx => hin x (List.mem_of_mem_take hx))) (hsmL _ (by simp; omega) (fun x hx => hin x (List.mem_of_mem_take hx)))
    have s2 := ref18_SameLines (ls.drop (K + 1)) (ls.drop (K + 1)) (hsmL _ (by simp; omega) (fun x hx => hin x (List.mem_of_mem_drop hx))) (hsmL _ (by simp; omega) (fun x hx => hin x (List.mem_of_mem_drop hx)))
    rw [sameLns_refl] at s1 s2
    have hlk : ls.getD K default = ruleF t ru := by
      rw [← hls, getD_getE (by simpa using hK), List.getElem_map, ← getD_getE hK, hru]
    have hfa : ∀ l : List Rule, ((l.map eRule).all fun a => AV.fits ⟨true, 2⟩ a) = true := fun l => by rw [List.all_map, List.all_eq_true]; intro x _; rfl
    have hfl : ∀ l : List Line, ((l.map eLine).all fun a => AV.fits ⟨true, 2⟩ a) = true := fun l => by rw [List.all_map, List.all_eq_true]; intro x _; rfl
    have hn0 : noneL ⟨true, 2⟩ (.lst true ⟨true, 2⟩ []) = true := rfl
    have hro : ∀ m, m ≤ 30 → roomOk m ⟨true, 2⟩ := fun m hm => by unfold roomOk; dsimp only; omega
    have p1 := (pur_eR4 ((⟨withR t (t.rules.take K ++ t.rules.drop (K + 1)), lA⟩ : Ready), (0 : Int), (0 : Int), (0 : Int)))
    have p2 := pur_eR4 (makeS (withR t (t.rules ++ [ru])))
    have hcase : ∃ B : Ready × Int × Int × Int, makeS (withR t (t.rules ++ [ru])) = B ∧ (t.rules.length = 24 ∧ B.2 = (-1, 0, 24) ∨ t.rules.length ≠ 24 ∧ B.2 = (0, 0, 0) ∧ B.1.lines = ls ++ [ls.getD K default]) := by
      by_cases h : t.rules.length = 24
      · exact ⟨_, make_over (t.rules ++ [ru]) hf (by simp; omega), .inl ⟨h, rfl⟩⟩
      · exact ⟨_, make_with (t.rules ++ [ru]) hf (by simp; omega) (fun r hr => hrz r (hz2 r hr)), .inr ⟨h, rfl, by dsimp only; rw [List.map_append, hls, hlk]; rfl⟩⟩
    obtain ⟨B, hB, hB2⟩ := hcase
    rw [hB] at d2 p2
    obtain ⟨⟨BT, BL⟩, b1, b2, b3⟩ := B
    dsimp only at hB2
    have s3 : t.rules.length ≠ 24 → BL = ls ++ [ls.getD K default] → CallF Tryz.prog n_ref18_SameLines [.lst false ER (BL.map eLine), .lst false ER (ls.map eLine ++ [.agg [.lst false EC ((ls.getD K default).cells.map eCell), .lst false EX ((ls.getD K default).outs.map eExpr)]])] (.bool true) := fun _ h => by
      have hx := hsmL (ls ++ [ls.getD K default]) (by simp; omega) (fun x hx => by
        rcases List.mem_append.1 hx with hx | hx
        · exact hin x hx
        · simp only [List.mem_cons, List.not_mem_nil, or_false] at hx; exact ⟨ru, hmem, by rw [hx, hlk]⟩)
      have s := ref18_SameLines _ _ hx hx
      rw [sameLns_refl] at s
      rw [h]
      have e : (ls ++ [ls.getD K default]).map eLine = ls.map eLine ++ [.agg [.lst false EC ((ls.getD K default).cells.map eCell), .lst false EX ((ls.getD K default).outs.map eExpr)]] := by rw [List.map_append]; rfl
      rw [← e]; exact s
    clear hsmL hin ok1 ok2 hz1 hz2 hB m1 hlA
    simp only [eLines] at s1 s2
    obtain ⟨lk, hlk2⟩ : ∃ l, ls.getD K default = l := ⟨_, rfl⟩
    rw [hlk2] at s3 hB2
    have f1 := fun σ hq => CallF.freeze (σ := σ) (q := 4) d1 hq rfl (v7 4 ((t.rules.take K).map eRule ++ (t.rules.drop (K + 1)).map eRule) _ ((t.rules.take K).length + (t.rules.drop (K + 1)).length) (by rw [List.map_append]) (by simp)) p1
    have f2 := fun σ hq => CallF.freeze (σ := σ) (q := 5) d2 hq rfl (v7 5 (t.rules.map eRule ++ [.agg [.lst false E1 (ru.cells.map eStr), .lst false E1 (ru.outs.map eStr)]]) _ (t.rules.length + 1) (by rw [List.map_append]; rfl) (by simp)) p2
    clear v7 d1 d2 p1 p2
    simp only [eR4, eReady, eTable, cTable, eCols, eRules, eLines] at cs c1 f1 f2 ⊢
    refine CallF.of_nil (of_law18_DtableRule (by simp) ?_) (by simp)
    unfold b_law18_DtableRule WpR
    intro Q hQr hQn hQp
    repeat' first | simp (disch := omega) only [go_sem, hQr, hQn, hQp, wrapK_i64, wrapK_u8, wrapK_u64, Nat.reduceAdd, Nat.reduceBEq, ↓reduceIte, hKe, hfa, hn0, hru, ← List.map_take, ← List.map_drop] | refine go_ ?_ | refine cf_ cs ?_ | refine cf_ cl ?_ | refine cf_ c1 ?_ | with_reducible refine req_d (hro _ (by simp; omega)) ?_ | with_reducible refine req_d ⟨by trivial, by trivial, hro _ (by simp; omega)⟩ ?_ | refine br_ (fun hw => ?_) (fun hw => ?_) <;> try omega | fail
    refine callL_any (f1 _ rfl) ?_
    rintro o s ⟨rfl, rfl⟩
    repeat' first | refine go_ ?_ | refine br_ (fun hw => ?_) (fun hw => ?_) <;> try omega | fail
    refine callL_any (f2 _ rfl) ?_
    rintro o s ⟨rfl, rfl⟩
    rcases hB2 with ⟨h24e, hB2⟩ | ⟨h24n, hB2, hBL⟩
    · obtain ⟨rfl, rfl, rfl⟩ := hB2
      repeat' first | simp (disch := omega) only [go_sem, hQr, hQn, hQp, wrapK_i64, wrapK_u8, wrapK_u64, Nat.reduceAdd, Nat.reduceBEq, ↓reduceIte, ← List.map_take, ← List.map_drop, hA1, hA2] | refine go_ ?_ | refine cf_ cl ?_ | refine cf_ s1 ?_ | refine cf_ s2 ?_ | refine br_ (fun hw => ?_) (fun hw => ?_) <;> try omega | fail
      all_goals first | exact ab_ | exact leafE rfl rfl
    · obtain ⟨rfl, rfl, rfl⟩ := hB2
      have s4 := s3 h24n hBL
      have hpu : AV.purL (ls.map eLine ++ [.agg [.lst false EC (lk.cells.map eCell), .lst false EX (lk.outs.map eExpr)]]) = true := purL_append (purL_line _) (by simp)
      repeat' first | simp (disch := omega) only [go_sem, hQr, hQn, hQp, wrapK_i64, wrapK_u8, wrapK_u64, Nat.reduceAdd, Nat.reduceBEq, ↓reduceIte, ← List.map_take, ← List.map_drop, hA1, hA2, hfl, hn0, hlk2] | refine go_ ?_ | refine cf_ cl ?_ | refine cf_ s1 ?_ | refine cf_ s2 ?_ | with_reducible refine req_d (hro _ (by simp; omega)) ?_ | with_reducible refine req_d ⟨by trivial, by trivial, hro _ (by simp; omega)⟩ ?_ | refine br_ (fun hw => ?_) (fun hw => ?_) <;> try omega | fail
      all_goals first | exact ab_ | skip
      refine callD_v s4 (.cons (.refl _ (pur_eLines _)) (.cons (View.vec rfl (by simp) (by simp) hpu) (.nil _))) rfl ?_
      repeat' first | refine go_ ?_ | refine cf_ cl ?_ | refine br_ (fun hw => ?_) (fun hw => ?_) <;> try omega | fail
      all_goals first | exact ab_ | exact leafE rfl rfl
end Go.Proofs.YthkhdedadacakaaGreatDoor
